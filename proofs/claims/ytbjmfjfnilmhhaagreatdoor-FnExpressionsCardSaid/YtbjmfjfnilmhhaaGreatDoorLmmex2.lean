/- A deterministic reading of Go code over plain data: what functions of the program compute, and what its laws come to. No conditions. -/
import Derived.Test.YtbjmfjfnilmhhaaGreatDoorEngT
import Derived.Lib.ItoaLen
import Derived.Lib.IndexLaws
import Derived.Lib.Bytes
import Derived.Lib.ItoaMem
import Derived.Lib.Atoi
import Derived.Lib.AtoiTie
import Derived.Test.YtbjmfjfnilmhhaaGreatDoorLmmex1
namespace Go.Proofs.YtbjmfjfnilmhhaaGreatDoor.Eng
open Go Go.Proofs
set_option maxRecDepth 100000
set_option maxHeartbeats 2000000
set_option linter.unusedSimpArgs false
set_option linter.unusedVariables false
attribute [local simp] finK fin1 hpOf xi renQ isRoot runCode runOps stepX inlOf Eng.step wantedV astep val ofO made loadV storeV find V.cells bin binT binA numT numFs eqCells un1 setAt fieldAddrV fieldV indexAddrV indexV bounds sliceV convV lenV foldV max2V min2V callO bor rdsO wrsO seen_none okD_none loops keepIds resV resultsV St.ev TK.agg refs refsL refsO V.one V.isC Value.oneCell' ren renL renO noTag noTagL noTagR noTagO nodup mapO passV frs psi refsR newD loopNext opsAt idx flatAt rootOf backR newsV appendV copyV clearV strV bytesV bldV bufV selfV bytesOf nilCmp buildV fillF chunk freeL frzW cellSame sameV
attribute [local simp] cT cF cX cWR cOW cK cBL X ints_length ints_get ints_getElem ints_drop ints_take ints_append ints_nil ints_set
attribute [local simp] ints_replicate
attribute [local simp] putV_some putV_none putH_app applyD_nil applyD_cons seen_app gc_ρ gc_H gc_tick st0_ρ st0_H st0_tick retV callRo callV_if borL_nil borL_cons ints_snoc take_self callWr cutH_app findQ afterV exportV_0 exportV_n okD_nil okD_cons sub_seq0 sub_seq1 sub_cond0 sub_cond1 sub_block sub_loop sub_nil young_far young_none hidW_nil mayW_nil keepsF_nil keepsF_cons pairs okI ok_0 ok_1 ok_2
attribute [local simp] T3 T4 T5 T9 T22 T24 T33 T36 T38 T45 T48 T51 T52 T54 T56 T71 T72 T74 T77 T99 T104 T117 T121
attribute [local simp] young_near clo cloF Region.binds Nat.testBit hidW declW mayW List.findIdx?_cons
theorem evA_leaf {w h : Int} {Fs : List Fd} {l : List (Int × Int)} {i : Nat} (e : arI (l.getD i (0, 0)) = 0) (r : Option (List Int)) (hr : ∀ A, valN w h Fs (l.getD i (0, 0)) A = r) : evA w h Fs l (i + 1) = (evA w h Fs l i).bind fun A => r.map fun z => A ++ [z] := by
  rw [evA_succ]
  congr 1
  funext A
  rw [hr A, e]
  simp
theorem evA_one {w h : Int} {Fs : List Fd} {l : List (Int × Int)} {i a : Nat} {r : Option (List Int)} (e : arI (l.getD i (0, 0)) = 1) (hi : evA w h Fs l i = (evA w h Fs l a).bind fun A => r.map fun z => A ++ [z]) :
    evA w h Fs l (i + 1) = (evA w h Fs l a).bind fun A => (r.map (chgM (exG (l.getD i (0, 0)).2))).map fun z => A ++ [z] := by
  have := arI_1 e
  rw [evA_succ]
  rw [hi]
  cases evA w h Fs l a with
  | none => rfl
  | some A =>
    cases r with
    | none => rfl
    | some z =>
      simp only [Option.bind_some, Option.map_some]
      unfold valN
      rw [if_neg (by omega), if_neg (by omega), if_pos (by omega), e]
      simp
theorem evA_two {w h : Int} {Fs : List Fd} {l : List (Int × Int)} {i c a : Nat} {r1 r2 : Option (List Int)} (e : arI (l.getD i (0, 0)) = 2) (hi : evA w h Fs l i = (evA w h Fs l c).bind fun A => r2.map fun z => A ++ [z]) (hc : evA w h Fs l c = (evA w h Fs l a).bind fun A => r1.map fun z => A ++ [z]) :
    evA w h Fs l (i + 1) = (evA w h Fs l a).bind fun A => (r1.bind fun x => r2.bind fun y => if goodB w h (List.zipWith (combG ((l.getD i (0, 0)).1 - 2)) x y) then some (List.zipWith (combG ((l.getD i (0, 0)).1 - 2)) x y) else none).map fun z => A ++ [z] := by
  have := arI_2 e
  rw [evA_succ]
  rw [hi, hc]
  cases evA w h Fs l a with
  | none => rfl
  | some A =>
    cases r1 with
    | none => rfl
    | some x =>
      cases r2 with
      | none => rfl
      | some y =>
        simp only [Option.bind_some, Option.map_some]
        unfold valN
        rw [if_neg (by omega), if_neg (by omega), if_neg (by omega), e]
        have e1 : (A ++ [x] ++ [y]).getD ((A ++ [x] ++ [y]).length - 2) [] = x := by
          rw [List.append_assoc, List.getD_eq_getElem?_getD, List.getElem?_append_right (by simp)]
          simp
        have e2 : (A ++ [x] ++ [y]).getD ((A ++ [x] ++ [y]).length - 1) [] = y := by
          rw [List.getD_eq_getElem?_getD, List.getElem?_append_right (by simp)]
          simp
        have e3 : (A ++ [x] ++ [y]).take ((A ++ [x] ++ [y]).length - (2 : Int).toNat) = A := by
          rw [List.append_assoc, List.take_append_of_le_length (by simp)]
          simp
        rw [e1, e2, e3]
def Fall (w h : Int) (Fs : List Fd) : Prop := Fs ≠ [] ∧ ∀ q ∈ Fs, goodB w h q.l = true ∧ q.w = w ∧ q.h = h
theorem c_l5Value (b c : Bool) (w h : Int) (Fs : List Fd) (hF : Fall w h Fs) (h4 : Fs.length ≤ 4) (l : List (Int × Int)) (h15 : l.length ≤ 15) : ∀ (i : Nat), i < l.length → 0 ≤ runO l (i + 1) → ∀ k, i + 1000 ≤ k → ∀ a d s, stk l (i + 1) = (a, d) :: s →
    ∃ r, callK C k 34 [.sq b true 2 (ndL l), .c (.int .i64 (i : Int)), .sq c false 3 (Fs.map Fd.cells)] [] = resF w h r ∧ evA w h Fs l (i + 1) = ((evA w h Fs l a).bind fun A => r.map fun z => A ++ [z]) ∧ ∀ z, r = some z → goodB w h z = true := by
  obtain ⟨hne, hFs⟩ := hF
  have hs : shapeB w h = true := by
    cases Fs with
    | nil => exact absurd rfl hne
    | cons q r => exact good_shape (hFs q (by simp)).1
  obtain ⟨_, _, p1, p2, p3, p4⟩ := shape_area hs
  intro i
  induction i using Nat.strongRecOn with
  | _ i ih =>
    intro hi hr k hk a d s hst
    obtain ⟨k, rfl⟩ : ∃ m, k = m + 1 := ⟨k - 1, by omega⟩
    rw [callK_fn rfl F34 code34]
    obtain ⟨h1, h2, h3, h4'⟩ := runO_back hr
    have hg := getD_nd hi
    have hn := ndL_get l i hi
    rcases ar_cases (l.getD i (0, 0)) with e | e | e | e
    · rw [stk_0 e] at hst
      injection hst with hs1 hs2
      injection hs1 with hs1 hs3
      subst hs1
      rcases arI_0 e with ⟨k1, k2, k3⟩ | ⟨k1, k2, k3⟩
      · -- a field
        rw [hg] at k1 k2 k3
        by_cases hv : (l[i].2.toNat) < Fs.length
        · obtain ⟨q, hq⟩ : ∃ q, Fs[l[i].2.toNat] = q := ⟨_, rfl⟩
          have hqm : q ∈ Fs := by rw [← hq]; exact List.getElem_mem hv
          obtain ⟨g1, g2, g3⟩ := hFs q hqm
          obtain ⟨_, n1, _, n64⟩ := good_length g1
          refine ⟨some q.l, ?_, evA_leaf e _ fun A => ?_, fun z hz => by cases hz; exact g1⟩
          · have ho := c_l2Own k q.b w h q.l (by omega) (by omega)
            have hv2 : ¬ (Fs.length : Int) ≤ l[i].2 := by omega
            have hv3 : (l[i].2) < (Fs.length : Int) := by omega
            have hgq : (Fs.map Fd.cells)[l[i].2.toNat]? = some q.cells := by simp [hv, hq]
            have hgq2 : Fs[l[i].2.toNat]? = some q := by simp [hv, hq]
            simp [fldV, ownV, intsO] at ho
            simp [R34_0, R34_1, R34_2, R34_3, R34_4, R34_5, R34_6, R34_7, R34_8, R34_9, R34_10, R34_11, R34_12, R34_13, R34_14, R34_15, R34_16, R34_17, R34_18, Tryz.f34, ndL_length, hi, hn, ndL_at, ndE, k1, k2, hv, hv2, hv3, hgq, hgq2, hq, Fd.cells, g2, g3, ho, resF, ownV, intsO]
          · unfold valN
            rw [hg, if_pos k1]
            simp [hv, hq]
        · refine ⟨none, ?_, evA_leaf e _ fun A => ?_, fun z hz => by cases hz⟩
          · have hv2 : (Fs.length : Int) ≤ l[i].2 := by omega
            simp [R34_0, R34_1, R34_2, R34_3, R34_4, R34_5, R34_6, R34_7, R34_8, R34_9, R34_10, R34_11, R34_12, R34_13, R34_14, R34_15, R34_16, R34_17, R34_18, Tryz.f34, ndL_length, hi, hn, ndL_at, ndE, k1, k2, hv2, resF, nilV]
          · unfold valN
            rw [hg, if_pos k1, List.getElem?_eq_none (by omega)]
            rfl
      · -- a number
        rw [hg] at k1 k2 k3
        obtain ⟨q, r, rfl⟩ : ∃ q r, Fs = q :: r := by cases Fs with | nil => exact absurd rfl hne | cons q r => exact ⟨q, r, rfl⟩
        obtain ⟨g1, g2, g3⟩ := hFs q (by simp)
        obtain ⟨_, n1, _, n64⟩ := good_length g1
        refine ⟨some (List.replicate (w * h).toNat l[i].2), ?_, evA_leaf e _ fun A => ?_, fun z hz => by cases hz; exact good_repl hs k2 k3⟩
        · have hwh : 1 ≤ w * h := by have := Int.mul_le_mul p1 p3 (by omega) (by omega); omega
          have hwh2 := (shape_area hs).2.1
          have ho := c_l2Fill k w h l[i].2 (w * h).toNat (by omega) (by omega) (by omega) (by omega)
          simp [intsO] at ho
          simp [R34_0, R34_1, R34_2, R34_3, R34_4, R34_5, R34_6, R34_7, R34_8, R34_9, R34_10, R34_11, R34_12, R34_13, R34_14, R34_15, R34_16, R34_17, R34_18, Tryz.f34, ndL_length, hi, hn, ndL_at, ndE, k1, Fd.cells, g2, g3, ho, resF, ownV, intsO]
        · unfold valN
          rw [hg, if_neg (by omega), if_pos k1]
    · -- above
      obtain ⟨j, rfl⟩ : ∃ j, i = j + 1 := by
        cases i with
        | zero => rw [e] at h3; exact absurd h3 (by simp [runO])
        | succ j => exact ⟨j, rfl⟩
      have hj0 : (0 : Int) ≤ (j : Int) + 1 := by omega
      obtain ⟨a', d', ha', hs'⟩ := stk_top j h1
      rw [stk_1 e hs'] at hst
      injection hst with hs1 hs2
      injection hs1 with hs1 hs3
      subst hs1
      obtain ⟨r, hrec, hev, hgo⟩ := ih j (by omega) (by omega) h1 k (by omega) a' d' _ hs'
      refine ⟨r.map (chgM (exG (l.getD (j + 1) (0, 0)).2)), ?_, evA_one e hev, fun z hz => ?_⟩
      · obtain ⟨k1, k2, k3⟩ := arI_1 e
        rw [hg] at k1 k2 k3 ⊢
        have hw' : IntKind.i64.wrap (j : Int) = (j : Int) := wrap_small (by omega) (by omega)
        try simp at hn
        try simp at hi
        cases r with
        | none =>
          simp [resF, nilV] at hrec
          simp [R34_0, R34_1, R34_2, R34_3, R34_4, R34_5, R34_6, R34_7, R34_8, R34_9, R34_10, R34_11, R34_12, R34_13, R34_14, R34_15, R34_16, R34_17, R34_18, Tryz.f34, ndL_length, hi, hn, ndL_at, ndE, hj0, hw', k1, hrec, resF, nilV]
        | some z =>
          obtain ⟨_, n1, _, n64⟩ := good_length (hgo z rfl)
          have hx := c_l4Exceeds k true w h z l[j + 1].2 n64 (by omega)
          have hcl := chgM_length (exG l[j + 1].2) z
          simp [resF, ownV, intsO] at hrec
          simp [fldV, ownV, intsO] at hx
          simp [R34_0, R34_1, R34_2, R34_3, R34_4, R34_5, R34_6, R34_7, R34_8, R34_9, R34_10, R34_11, R34_12, R34_13, R34_14, R34_15, R34_16, R34_17, R34_18, Tryz.f34, ndL_length, hi, hn, ndL_at, ndE, hj0, hw', k1, hrec, hx, hcl, resF, ownV, intsO, ints_take]
      · obtain ⟨y, rfl, rfl⟩ := Option.map_eq_some_iff.1 hz
        exact good_chg (hgo y rfl) (ex_cell _)
    · -- two
      obtain ⟨j, rfl⟩ : ∃ j, i = j + 1 := by
        cases i with
        | zero => rw [e] at h3; exact absurd h3 (by simp [runO])
        | succ j => exact ⟨j, rfl⟩
      have hj0 : (0 : Int) ≤ (j : Int) + 1 := by omega
      obtain ⟨a2, d2, ha2, hs'⟩ := stk_top j h1
      have hl := stk_len (j + 1) h1
      have ha0 : 0 ≤ runO l a2 := runO_mono h1 (j + 1 - a2) a2 (by omega)
      have hla := stk_len a2 ha0
      rw [hs'] at hl
      simp only [List.length_cons] at hl
      obtain ⟨cc, rfl⟩ : ∃ c, a2 = c + 1 := by
        cases a2 with
        | zero => simp only [stk, List.length_nil] at hl; omega
        | succ c => exact ⟨c, rfl⟩
      obtain ⟨a1, d1, ha1, hs1⟩ := stk_top cc ha0
      rw [stk_2 e (by rw [hs', hs1])] at hst
      injection hst with hs2 hs3
      injection hs2 with hs2 hs4
      subst hs2
      have hst := c_l5Start b l h15 j (by omega) h1 k (by omega) (cc + 1) d2 _ hs'
      obtain ⟨r2, hrec2, hev2, hgo2⟩ := ih j (by omega) (by omega) h1 k (by omega) (cc + 1) d2 _ hs'
      obtain ⟨r1, hrec1, hev1, hgo1⟩ := ih cc (by omega) (by omega) ha0 k (by omega) a1 d1 _ hs1
      refine ⟨_, ?_, evA_two e hev2 hev1, fun z hz => ?_⟩
      · obtain ⟨k1, k2, k3⟩ := arI_2 e
        rw [hg] at k1 k2 k3 ⊢
        have hw' : IntKind.i64.wrap (j : Int) = (j : Int) := wrap_small (by omega) (by omega)
        have hw2 : IntKind.i64.wrap (cc : Int) = (cc : Int) := wrap_small (by omega) (by omega)
        have hw3 : IntKind.i64.wrap (IntKind.i64.wrap (l[j + 1].1 - 3) + 1) = l[j + 1].1 - 2 := by rw [wrap_small (n := l[j + 1].1 - 3) (by omega) (by omega), wrap_small (by omega) (by omega)]; omega
        have d1' : ¬ l[j + 1].1 = 1 := by omega
        have d2' : ¬ l[j + 1].1 = 2 := by omega
        have d7' : ¬ l[j + 1].1 = 7 := by omega
        try simp at hn
        try simp at hi
        try simp at hst
        cases r2 with
        | none =>
          simp [resF, nilV] at hrec2
          cases r1 with
          | none =>
            simp [resF, nilV] at hrec1
            simp [R34_0, R34_1, R34_2, R34_3, R34_4, R34_5, R34_6, R34_7, R34_8, R34_9, R34_10, R34_11, R34_12, R34_13, R34_14, R34_15, R34_16, R34_17, R34_18, Tryz.f34, ndL_length, hi, hn, ndL_at, ndE, hj0, hw', hw2, hst, d1', d2', d7', hrec1, hrec2, resF, nilV]
          | some x =>
            simp [resF, ownV, intsO] at hrec1
            simp [R34_0, R34_1, R34_2, R34_3, R34_4, R34_5, R34_6, R34_7, R34_8, R34_9, R34_10, R34_11, R34_12, R34_13, R34_14, R34_15, R34_16, R34_17, R34_18, Tryz.f34, ndL_length, hi, hn, ndL_at, ndE, hj0, hw', hw2, hst, d1', d2', d7', hrec1, hrec2, resF, nilV]
        | some y =>
          simp [resF, ownV, intsO] at hrec2
          cases r1 with
          | none =>
            simp [resF, nilV] at hrec1
            simp [R34_0, R34_1, R34_2, R34_3, R34_4, R34_5, R34_6, R34_7, R34_8, R34_9, R34_10, R34_11, R34_12, R34_13, R34_14, R34_15, R34_16, R34_17, R34_18, Tryz.f34, ndL_length, hi, hn, ndL_at, ndE, hj0, hw', hw2, hst, d1', d2', d7', hrec1, hrec2, resF, nilV]
          | some x =>
            simp [resF, ownV, intsO] at hrec1
            have hx := c_l4Combine (l[j + 1].1 - 2) k true true w h x y (by omega) (hgo1 x rfl) (hgo2 y rfl)
            obtain ⟨_, n1, _, n64⟩ := good_length (hgo1 x rfl)
            obtain ⟨_, n2, _, _⟩ := good_length (hgo2 y rfl)
            have hz : (List.zipWith (combG (l[j + 1].1 - 2)) x y).length = x.length := by simp; omega
            cases hgz : goodB w h (List.zipWith (combG (l[j + 1].1 - 2)) x y)
            · rw [hgz] at hx
              simp [fldV, nilV] at hx
              simp [R34_0, R34_1, R34_2, R34_3, R34_4, R34_5, R34_6, R34_7, R34_8, R34_9, R34_10, R34_11, R34_12, R34_13, R34_14, R34_15, R34_16, R34_17, R34_18, Tryz.f34, ndL_length, hi, hn, ndL_at, ndE, hj0, hw', hw2, hw3, hst, d1', d2', d7', hrec1, hrec2, hx, resF, nilV, ints_take, hgz]
            · rw [hgz] at hx
              simp [fldV, ownV, intsO] at hx
              simp [R34_0, R34_1, R34_2, R34_3, R34_4, R34_5, R34_6, R34_7, R34_8, R34_9, R34_10, R34_11, R34_12, R34_13, R34_14, R34_15, R34_16, R34_17, R34_18, Tryz.f34, ndL_length, hi, hn, ndL_at, ndE, hj0, hw', hw2, hw3, hst, d1', d2', d7', hrec1, hrec2, hx, resF, ownV, intsO, ints_take, hgz, hz]
      · cases r1 with
        | none => cases hz
        | some x =>
          cases r2 with
          | none => cases hz
          | some y =>
            simp only [Option.bind_some] at hz
            split at hz
            · rename_i hgz; cases hz; exact hgz
            · cases hz
    · omega

end Go.Proofs.YtbjmfjfnilmhhaaGreatDoor.Eng
namespace Go.Proofs.YtbjmfjfnilmhhaaGreatDoor.Eng
open Go Go.Proofs
set_option maxRecDepth 100000
set_option maxHeartbeats 2000000
set_option linter.unusedSimpArgs false
set_option linter.unusedVariables false
attribute [local simp] finK fin1 hpOf xi renQ isRoot runCode runOps stepX inlOf Eng.step wantedV astep val ofO made loadV storeV find V.cells bin binT binA numT numFs eqCells un1 setAt fieldAddrV fieldV indexAddrV indexV bounds sliceV convV lenV foldV max2V min2V callO bor rdsO wrsO seen_none okD_none loops keepIds resV resultsV St.ev TK.agg refs refsL refsO V.one V.isC Value.oneCell' ren renL renO noTag noTagL noTagR noTagO nodup mapO passV frs psi refsR newD loopNext opsAt idx flatAt rootOf backR newsV appendV copyV clearV strV bytesV bldV bufV selfV bytesOf nilCmp buildV fillF chunk freeL frzW cellSame sameV
attribute [local simp] cT cF cX cWR cOW cK cBL X ints_length ints_get ints_getElem ints_drop ints_take ints_append ints_nil ints_set
attribute [local simp] ints_replicate
attribute [local simp] putV_some putV_none putH_app applyD_nil applyD_cons seen_app gc_ρ gc_H gc_tick st0_ρ st0_H st0_tick retV callRo callV_if borL_nil borL_cons ints_snoc take_self callWr cutH_app findQ afterV exportV_0 exportV_n okD_nil okD_cons sub_seq0 sub_seq1 sub_cond0 sub_cond1 sub_block sub_loop sub_nil young_far young_none hidW_nil mayW_nil keepsF_nil keepsF_cons pairs okI ok_0 ok_1 ok_2
attribute [local simp] T3 T4 T5 T9 T22 T24 T33 T36 T38 T45 T48 T51 T52 T54 T56 T71 T72 T74 T77 T99 T104 T117 T121
attribute [local simp] young_near clo cloF Region.binds Nat.testBit hidW declW mayW List.findIdx?_cons
/-- A list of fields of one shape, read. -/
def fsE (w h : Int) (z : List Int) : List V := [.c (.int .i64 w), .c (.int .i64 h), .sq true true 1 (ints z)]
def fsL (w h : Int) (A : List (List Int)) : List (List V) := A.map (fsE w h)
theorem fsL_length (w h : Int) (A : List (List Int)) : (fsL w h A).length = A.length := by simp [fsL]
theorem fsL_get (w h : Int) (A : List (List Int)) (i : Nat) (hi : i < A.length) : (fsL w h A)[i]? = some (fsE w h A[i]) := by simp [fsL, hi]
theorem fsL_at (w h : Int) (A : List (List Int)) (i : Nat) (hi : i < (fsL w h A).length) : (fsL w h A)[i] = fsE w h (A[i]'(by simpa [fsL] using hi)) := by simp [fsL]
def isFS (x : V) (w h : Int) (A : List (List Int)) : Prop := x = .sq true false 3 (fsL w h A) ∨ (A = [] ∧ x = .c (.slice none 0 0))
theorem c_implCombine (k : Nat) (op w h : Int) (x y : List Int) (hk : 3000 ≤ k) (g1 : goodB w h x = true) (g2 : goodB w h y = true) (h1 : 1 ≤ op) (h4 : op ≤ 4) :
    callK C k 58 [.c (.int .i64 op), fldV true w h x, fldV true w h y] [] = resF w h (if goodB w h (List.zipWith (combG op) x y) then some (List.zipWith (combG op) x y) else none) := by
  obtain ⟨k, rfl⟩ : ∃ m, k = m + 20 := ⟨k - 20, by omega⟩
  rw [callK_fn rfl F58 code58]
  have i2 := c_within (k + 19) op 1 4 (by omega)
  rw [show (decide (1 ≤ op) && decide (op ≤ 4)) = true by simp; omega] at i2
  have n1 := c_combinedComb op (k + 19) true true w h w h x y (by omega) (by simp [g1, g2])
  obtain ⟨_, e1, _, k1⟩ := good_length g1
  obtain ⟨_, e2, _, k2⟩ := good_length g2
  have hz : (List.zipWith (combG op) x y).length = x.length := by simp; omega
  cases hg : goodB w h (List.zipWith (combG op) x y)
  · rw [hg] at n1
    simp [fldV, nilV] at n1
    simp [R58_0, R58_1, R58_2, R58_3, Tryz.f58, fldV, i2, n1, nilV, resF]
  · rw [hg] at n1
    simp [fldV, ownV, intsO] at n1
    simp [R58_0, R58_1, R58_2, R58_3, Tryz.f58, fldV, i2, n1, ownV, intsO, resF, hz]
theorem c_evaluateNode (k : Nat) (c : Bool) (w h : Int) (Fs : List Fd) (hne : Fs ≠ []) (hFs : ∀ q ∈ Fs, goodB w h q.l = true ∧ q.w = w ∧ q.h = h) (h4 : Fs.length ≤ 4) (p : Int × Int) (A : List (List Int)) (hA : ∀ x ∈ A, goodB w h x = true) (h15 : A.length ≤ 15) (ha : 0 ≤ arI p) (hl : (arI p).toNat ≤ A.length)
    (x : V) (hx : isFS x w h A) (hk : 3100 ≤ k) : callK C k 32 [.ag (ndE p), x, .sq c false 3 (Fs.map Fd.cells)] [] = resF w h (valN w h Fs p A) := by
  have hs : shapeB w h = true := by
    cases Fs with
    | nil => exact absurd rfl hne
    | cons q r => exact good_shape (hFs q (by simp)).1
  obtain ⟨_, _, p1, p2, p3, p4⟩ := shape_area hs
  obtain ⟨k, rfl⟩ : ∃ m, k = m + 20 := ⟨k - 20, by omega⟩
  rw [callK_fn rfl F32 code32]
  have hxl : ∃ n : Nat, n = A.length := ⟨_, rfl⟩
  rcases ar_cases p with e | e | e | e
  · rcases arI_0 e with ⟨k1, k2, k3⟩ | ⟨k1, k2, k3⟩
    · by_cases hv : (p.2.toNat) < Fs.length
      · obtain ⟨q, hq⟩ : ∃ q, Fs[p.2.toNat] = q := ⟨_, rfl⟩
        have hqm : q ∈ Fs := by rw [← hq]; exact List.getElem_mem hv
        obtain ⟨g1, g2, g3⟩ := hFs q hqm
        obtain ⟨_, n1, _, n64⟩ := good_length g1
        have hnn : q.l ≠ [] := by
          intro hn
          rw [hn] at n1
          have := Int.mul_le_mul p1 p3 (by omega) (by omega)
          simp at n1
          omega
        have ho := c_cloneField (k + 19) q.b w h q.l (by omega) hnn (by omega)
        have hv2 : ¬ (Fs.length : Int) ≤ p.2 := by omega
        have hv3 : p.2 < (Fs.length : Int) := by omega
        have hgq2 : Fs[p.2.toNat]? = some q := by simp [hv, hq]
        simp [fldV, intsO] at ho
        rcases hx with rfl | ⟨rfl, rfl⟩ <;> simp [R32_0, R32_1, R32_2, R32_3, R32_4, R32_5, R32_6, R32_7, R32_8, R32_9, R32_10, R32_11, R32_12, Tryz.f32, ndE, k1, k2, hv, hv2, hv3, hgq2, hq, Fd.cells, g2, g3, ho, resF, ownV, intsO, valN]
      · have hv2 : (Fs.length : Int) ≤ p.2 := by omega
        have hgq2 : Fs[p.2.toNat]? = none := by rw [List.getElem?_eq_none (by omega)]
        rcases hx with rfl | ⟨rfl, rfl⟩ <;> simp [R32_0, R32_1, R32_2, R32_3, R32_4, R32_5, R32_6, R32_7, R32_8, R32_9, R32_10, R32_11, R32_12, Tryz.f32, ndE, k1, k2, hv2, hgq2, resF, nilV, valN]
    · obtain ⟨q, r, rfl⟩ : ∃ q r, Fs = q :: r := by cases Fs with | nil => exact absurd rfl hne | cons q r => exact ⟨q, r, rfl⟩
      obtain ⟨g1, g2, g3⟩ := hFs q (by simp)
      have ho := c_filled (k + 19) w h p.2 hs (by omega)
      simp [ownV, intsO] at ho
      rcases hx with rfl | ⟨rfl, rfl⟩ <;> simp [R32_0, R32_1, R32_2, R32_3, R32_4, R32_5, R32_6, R32_7, R32_8, R32_9, R32_10, R32_11, R32_12, Tryz.f32, ndE, k1, Fd.cells, g2, g3, ho, resF, ownV, intsO, valN]
  · obtain ⟨k1, k2, k3⟩ := arI_1 e
    rw [e] at hl
    have hl1 : 1 ≤ A.length := by simpa using hl
    have hx' : x = .sq true false 3 (fsL w h A) := by
      rcases hx with hx | ⟨rfl, _⟩
      · exact hx
      · simp at hl1
    subst hx'
    have hgA := hA _ (getD_mem (A := A) (i := A.length - 1) (by omega))
    have hE := c_implExceeds (k + 19) true w h (A.getD (A.length - 1) []) p.2 (by omega)
    rw [hgA] at hE
    have hgd : A.getD (A.length - 1) [] = A[A.length - 1]'(by omega) := by rw [List.getD_eq_getElem?_getD, List.getElem?_eq_getElem (by omega)]; rfl
    have hw : IntKind.i64.wrap ((A.length : Int) - 1) = ((A.length - 1 : Nat) : Int) := by rw [wrap_small (by omega) (by omega)]; omega
    have hlt : A.length - 1 < A.length := by omega
    have hlt' : ((A.length - 1 : Nat) : Int) < (A.length : Int) := by omega
    have hgg := fsL_get w h A (A.length - 1) hlt
    have hlen := chgM_length (exG p.2) (A[A.length - 1]'(by omega))
    rw [hgd] at hE
    simp [fldV, optV, ownV, intsO] at hE
    rw [show valN w h Fs p A = some (chgM (exG p.2) (A[A.length - 1]'(by omega))) by unfold valN; rw [if_neg (by omega), if_neg (by omega), if_pos k1, hgd]]
    simp [R32_0, R32_1, R32_2, R32_3, R32_4, R32_5, R32_6, R32_7, R32_8, R32_9, R32_10, R32_11, R32_12, Tryz.f32, ndE, k1, fsL_length, hw, hlt, hlt', hgg, fsL_at, fsE, hE, resF, ownV, intsO, hlen]
  · obtain ⟨k1, k2, k3⟩ := arI_2 e
    rw [e] at hl
    have hl2 : 2 ≤ A.length := by simpa using hl
    have hx' : x = .sq true false 3 (fsL w h A) := by
      rcases hx with hx | ⟨rfl, _⟩
      · exact hx
      · simp at hl2
    subst hx'
    have g1 := hA _ (getD_mem (A := A) (i := A.length - 1) (by omega))
    have g2 := hA _ (getD_mem (A := A) (i := A.length - 2) (by omega))
    have hgd1 : A.getD (A.length - 1) [] = A[A.length - 1]'(by omega) := by rw [List.getD_eq_getElem?_getD, List.getElem?_eq_getElem (by omega)]; rfl
    have hgd2 : A.getD (A.length - 2) [] = A[A.length - 2]'(by omega) := by rw [List.getD_eq_getElem?_getD, List.getElem?_eq_getElem (by omega)]; rfl
    rw [hgd1] at g1
    rw [hgd2] at g2
    have hE := c_implCombine (k + 19) (p.1 - 2) w h _ _ (by omega) g2 g1 (by omega) (by omega)
    have hw : IntKind.i64.wrap ((A.length : Int) - 1) = ((A.length - 1 : Nat) : Int) := by rw [wrap_small (by omega) (by omega)]; omega
    have hw2 : IntKind.i64.wrap ((A.length : Int) - 2) = ((A.length - 2 : Nat) : Int) := by rw [wrap_small (by omega) (by omega)]; omega
    have hw3 : IntKind.i64.wrap (IntKind.i64.wrap (1 + p.1) - 3) = p.1 - 2 := by rw [wrap_small (n := 1 + p.1) (by omega) (by omega), wrap_small (by omega) (by omega)]; omega
    have hlt : A.length - 1 < A.length := by omega
    have hlt' : ((A.length - 1 : Nat) : Int) < (A.length : Int) := by omega
    have hlt2 : A.length - 2 < A.length := by omega
    have hlt2' : ((A.length - 2 : Nat) : Int) < (A.length : Int) := by omega
    have hgg := fsL_get w h A (A.length - 1) hlt
    have hgg2 := fsL_get w h A (A.length - 2) hlt2
    have d1 : ¬ p.1 = 1 := by omega
    have d2 : ¬ p.1 = 2 := by omega
    have d7 : ¬ p.1 = 7 := by omega
    rw [show valN w h Fs p A = (if goodB w h (List.zipWith (combG (p.1 - 2)) (A[A.length - 2]'(by omega)) (A[A.length - 1]'(by omega))) then some (List.zipWith (combG (p.1 - 2)) (A[A.length - 2]'(by omega)) (A[A.length - 1]'(by omega))) else none) by unfold valN; rw [if_neg d1, if_neg d2, if_neg d7, hgd1, hgd2]]
    generalize hzz : (if goodB w h (List.zipWith (combG (p.1 - 2)) (A[A.length - 2]'(by omega)) (A[A.length - 1]'(by omega))) then some (List.zipWith (combG (p.1 - 2)) (A[A.length - 2]'(by omega)) (A[A.length - 1]'(by omega))) else none) = rr at hE ⊢
    cases rr with
    | none =>
      simp [fldV, resF, nilV] at hE
      simp [R32_0, R32_1, R32_2, R32_3, R32_4, R32_5, R32_6, R32_7, R32_8, R32_9, R32_10, R32_11, R32_12, Tryz.f32, ndE, d1, d2, d7, fsL_length, hw, hw2, hw3, hlt, hlt', hlt2, hlt2', hgg, hgg2, fsL_at, fsE, hE, resF, nilV]
    | some z =>
      simp [fldV, resF, ownV, intsO] at hE
      simp [R32_0, R32_1, R32_2, R32_3, R32_4, R32_5, R32_6, R32_7, R32_8, R32_9, R32_10, R32_11, R32_12, Tryz.f32, ndE, d1, d2, d7, fsL_length, hw, hw2, hw3, hlt, hlt', hlt2, hlt2', hgg, hgg2, fsL_at, fsE, hE, resF, ownV, intsO]
  · omega

end Go.Proofs.YtbjmfjfnilmhhaaGreatDoor.Eng
namespace Go.Proofs.YtbjmfjfnilmhhaaGreatDoor.Eng
open Go Go.Proofs
set_option maxRecDepth 100000
set_option maxHeartbeats 2000000
set_option linter.unusedSimpArgs false
set_option linter.unusedVariables false
attribute [local simp] finK fin1 hpOf xi renQ isRoot runCode runOps stepX inlOf Eng.step wantedV astep val ofO made loadV storeV find V.cells bin binT binA numT numFs eqCells un1 setAt fieldAddrV fieldV indexAddrV indexV bounds sliceV convV lenV foldV max2V min2V callO bor rdsO wrsO seen_none okD_none loops keepIds resV resultsV St.ev TK.agg refs refsL refsO V.one V.isC Value.oneCell' ren renL renO noTag noTagL noTagR noTagO nodup mapO passV frs psi refsR newD loopNext opsAt idx flatAt rootOf backR newsV appendV copyV clearV strV bytesV bldV bufV selfV bytesOf nilCmp buildV fillF chunk freeL frzW cellSame sameV
attribute [local simp] cT cF cX cWR cOW cK cBL X ints_length ints_get ints_getElem ints_drop ints_take ints_append ints_nil ints_set
attribute [local simp] ints_replicate
attribute [local simp] putV_some putV_none putH_app applyD_nil applyD_cons seen_app gc_ρ gc_H gc_tick st0_ρ st0_H st0_tick retV callRo callV_if borL_nil borL_cons ints_snoc take_self callWr cutH_app findQ afterV exportV_0 exportV_n okD_nil okD_cons sub_seq0 sub_seq1 sub_cond0 sub_cond1 sub_block sub_loop sub_nil young_far young_none hidW_nil mayW_nil keepsF_nil keepsF_cons pairs okI ok_0 ok_1 ok_2
attribute [local simp] T3 T4 T5 T9 T22 T24 T33 T36 T38 T45 T48 T51 T52 T54 T56 T71 T72 T74 T77 T99 T104 T117 T121
attribute [local simp] young_near clo cloF Region.binds Nat.testBit hidW declW mayW List.findIdx?_cons
def lenF (Fs : List Fd) : Nat := (Fs.map fun q => q.l.length).sum
theorem lenF_take (p : List Fd) (i : Nat) (h : i < p.length) : lenF (p.take (i + 1)) = lenF (p.take i) + p[i].l.length := by
  unfold lenF
  rw [List.take_succ_eq_append_getElem h, List.map_append, List.sum_append]
  simp
theorem lenF_take_le (p : List Fd) (i : Nat) : lenF (p.take i) ≤ lenF p := by
  have h : lenF p = lenF (p.take i) + lenF (p.drop i) := by
    unfold lenF
    rw [← List.sum_append, ← List.map_append, List.take_append_drop]
  omega
theorem lenF_mem {p : List Fd} {q : Fd} (h : q ∈ p) : q.l.length ≤ lenF p := by
  obtain ⟨i, hi, rfl⟩ := List.getElem_of_mem h
  have h1 := lenF_take p i hi
  have h2 := lenF_take_le p (i + 1)
  omega
theorem fd_get (p : List Fd) (i : Nat) (h : i < p.length) : (p.map Fd.cells)[i]? = some p[i].cells := by simp [h]
/-- Fields of one shape, one to four. -/
def alikeF (p : List Fd) : Bool := match p with
  | [] => false
  | q0 :: r => (q0 :: r).all (likeB q0) && decide (r.length ≤ 3)
theorem c_l5Fields (k : Nat) (b : Bool) (p : List Fd) (hp : p.length ≤ 1048576) (hk : p.length + 200 ≤ k) : callK C k 33 [.sq b false 3 (p.map Fd.cells)] [] = some (.c (.bool (alikeF p)), hpOf [] []) := by
  obtain ⟨k, rfl⟩ : ∃ m, k = m + 9 := ⟨k - 9, by omega⟩
  rw [callK_fn rfl F33 code33]
  cases p with
  | nil =>
    have hi := c_l1In (k + 8) 0 1 4 (by omega)
    simp [R33_0, R33_1, R33_2, R33_3, R33_4, R33_5, R33_6, Tryz.f33, lpL33_0, lpM33_0, M33_0, L33_0, loopRun_succ, hi, alikeF]
  | cons q0 r =>
    obtain ⟨p, hpe⟩ : ∃ p, q0 :: r = p := ⟨_, rfl⟩
    have h0 : (p.map Fd.cells)[0]? = some q0.cells := by rw [← hpe]; rfl
    have hl0 : 0 < p.length := by rw [← hpe]; simp
    have hp0 : p[0] = q0 := by subst hpe; rfl
    have hlr : p.length = r.length + 1 := by rw [← hpe]; simp
    rw [show alikeF (q0 :: r) = (p.all (likeB q0) && decide (r.length ≤ 3)) by rw [← hpe]; rfl]
    rw [hpe] at hk hp ⊢
    have hq0 : q0 ∈ p := by rw [← hpe]; simp
    have hall : p.all (likeB q0) = p.all (fun q => goodB q.w q.h q.l && (goodB q0.w q0.h q0.l && (q.w == q0.w && q.h == q0.h))) := by
      rw [Bool.eq_iff_iff]
      simp only [List.all_eq_true, likeB, Bool.and_eq_true]
      constructor
      · intro h q hq
        exact ⟨(h q hq).1, (h q0 hq0).1, (h q hq).2⟩
      · intro h q hq
        exact ⟨(h q hq).1, (h q hq).2.2⟩
    have hS := fun q : Fd => c_l2Same (k + 8) q.b q0.b q.w q.h q0.w q0.h q.l q0.l (by omega)
    simp only [fldV] at hS
    rw [hall]
    cases ha : p.all (fun q => goodB q.w q.h q.l && (goodB q0.w q0.h q0.l && (q.w == q0.w && q.h == q0.h)))
    · have hL := loopHas (body := fun st => runCode C (callK C (k + 8)) (k + 8) (K 33) L33_0 1 st) (keep := [0, 3]) .ret (fun st => st.ρ 2 = .c (.bool false))
        (fun i st => st.ρ 0 = .sq b false 3 (p.map Fd.cells) ∧ st.ρ 3 = .c (.int .i64 (i : Int)) ∧ (p.take i).all (fun q => goodB q.w q.h q.l && (goodB q0.w q0.h q0.l && (q.w == q0.w && q.h == q0.h))) = true)
        p.length (k + 8) (by omega)
        (by
          rintro i st next hi ⟨q00, q3, ht⟩ hx
          have ht' : (p.take (i + 1)).all (fun q => goodB q.w q.h q.l && (goodB q0.w q0.h q0.l && (q.w == q0.w && q.h == q0.h))) = (goodB p[i].w p[i].h p[i].l && (goodB q0.w q0.h q0.l && (p[i].w == q0.w && p[i].h == q0.h))) := by
            rw [List.take_succ_eq_append_getElem hi, List.all_append, ht]
            simp
          have hSi := hS p[i]
          have hgi := fd_get p i hi
          have hwn := wrap_next hi (by omega : p.length ≤ 9000000000000000000)
          cases hv : (goodB p[i].w p[i].h p[i].l && (goodB q0.w q0.h q0.l && (p[i].w == q0.w && p[i].h == q0.h)))
          · rw [hv] at hSi
            simp [L33_0, R33_0, R33_1, R33_2, R33_3, R33_4, R33_5, R33_6, Tryz.f33, lpL33_0, lpM33_0, M33_0, q00, q3, hi, hgi, h0, hl0, hp0, Fd.cells, hSi]
          · rw [hv] at hSi ht'
            simp [L33_0, R33_0, R33_1, R33_2, R33_3, R33_4, R33_5, R33_6, Tryz.f33, lpL33_0, lpM33_0, M33_0, q00, q3, hi, hgi, h0, hl0, hp0, Fd.cells, hSi, hwn]
            exact hx _ ⟨by simp [q00, Fd.cells], by simp, ht'⟩)
        (by
          rintro st next ⟨q00, q3, ht⟩
          rw [List.take_length, ha] at ht
          cases ht)
      simp [R33_0, R33_1, R33_2, R33_3, R33_4, R33_5, R33_6, Tryz.f33, lpL33_0, lpM33_0]
      generalize hr : loopRun _ _ _ _ = res
      obtain ⟨s1, rfl, f2⟩ := loop_at hL hr ⟨by simp, by simp, by simp⟩
      simp [R33_0, R33_1, R33_2, R33_3, R33_4, R33_5, R33_6, Tryz.f33, lpL33_0, lpM33_0, M33_0, f2]
    · have hL := loopHas (body := fun st => runCode C (callK C (k + 8)) (k + 8) (K 33) L33_0 1 st) (keep := [0, 3]) (.ex 0) (fun st => st.ρ 0 = .sq b false 3 (p.map Fd.cells))
        (fun i st => st.ρ 0 = .sq b false 3 (p.map Fd.cells) ∧ st.ρ 3 = .c (.int .i64 (i : Int)))
        p.length (k + 8) (by omega)
        (by
          rintro i st next hi ⟨q00, q3⟩ hx
          have hSi := hS p[i]
          rw [List.all_eq_true.1 ha _ (List.getElem_mem hi)] at hSi
          have hgi := fd_get p i hi
          have hwn := wrap_next hi (by omega : p.length ≤ 9000000000000000000)
          simp [L33_0, R33_0, R33_1, R33_2, R33_3, R33_4, R33_5, R33_6, Tryz.f33, lpL33_0, lpM33_0, M33_0, q00, q3, hi, hgi, h0, hl0, hp0, Fd.cells, hSi, hwn]
          exact hx _ ⟨by simp [q00, Fd.cells], by simp⟩)
        (by
          rintro st next ⟨q00, q3⟩
          simp [L33_0, R33_0, R33_1, R33_2, R33_3, R33_4, R33_5, R33_6, Tryz.f33, lpL33_0, lpM33_0, M33_0, q00, q3])
      have hi := c_l1In (k + 8) (p.length : Int) 1 4 (by omega)
      have hle : (decide (1 ≤ (p.length : Int)) && decide ((p.length : Int) ≤ 4)) = decide (r.length ≤ 3) := by
        rw [Bool.eq_iff_iff]
        simp only [Bool.and_eq_true, decide_eq_true_eq]
        omega
      rw [hle] at hi
      simp [R33_0, R33_1, R33_2, R33_3, R33_4, R33_5, R33_6, Tryz.f33, lpL33_0, lpM33_0]
      generalize hr : loopRun _ _ _ _ = res
      obtain ⟨s1, rfl, f0⟩ := loop_at hL hr ⟨by simp, by simp⟩
      simp [R33_0, R33_1, R33_2, R33_3, R33_4, R33_5, R33_6, Tryz.f33, lpL33_0, lpM33_0, M33_0, f0, hi]

end Go.Proofs.YtbjmfjfnilmhhaaGreatDoor.Eng
namespace Go.Proofs.YtbjmfjfnilmhhaaGreatDoor.Eng
open Go Go.Proofs
set_option maxRecDepth 100000
set_option maxHeartbeats 2000000
set_option linter.unusedSimpArgs false
set_option linter.unusedVariables false
attribute [local simp] finK fin1 hpOf xi renQ isRoot runCode runOps stepX inlOf Eng.step wantedV astep val ofO made loadV storeV find V.cells bin binT binA numT numFs eqCells un1 setAt fieldAddrV fieldV indexAddrV indexV bounds sliceV convV lenV foldV max2V min2V callO bor rdsO wrsO seen_none okD_none loops keepIds resV resultsV St.ev TK.agg refs refsL refsO V.one V.isC Value.oneCell' ren renL renO noTag noTagL noTagR noTagO nodup mapO passV frs psi refsR newD loopNext opsAt idx flatAt rootOf backR newsV appendV copyV clearV strV bytesV bldV bufV selfV bytesOf nilCmp buildV fillF chunk freeL frzW cellSame sameV
attribute [local simp] cT cF cX cWR cOW cK cBL X ints_length ints_get ints_getElem ints_drop ints_take ints_append ints_nil ints_set
attribute [local simp] ints_replicate
attribute [local simp] putV_some putV_none putH_app applyD_nil applyD_cons seen_app gc_ρ gc_H gc_tick st0_ρ st0_H st0_tick retV callRo callV_if borL_nil borL_cons ints_snoc take_self callWr cutH_app findQ afterV exportV_0 exportV_n okD_nil okD_cons sub_seq0 sub_seq1 sub_cond0 sub_cond1 sub_block sub_loop sub_nil young_far young_none hidW_nil mayW_nil keepsF_nil keepsF_cons pairs okI ok_0 ok_1 ok_2
attribute [local simp] T3 T4 T5 T9 T22 T24 T33 T36 T38 T45 T48 T51 T52 T54 T56 T71 T72 T74 T77 T99 T104 T117 T121
attribute [local simp] young_near clo cloF Region.binds Nat.testBit hidW declW mayW List.findIdx?_cons
/-- All that is made before a tick has a number below this one. -/
def Bt (t : Nat) : Nat := 4294967296 * t
theorem gc_all (l : List Nat) (st : St) (h : l.contains 999 = true) : (gc l st).H = st.H := by
  funext id
  simp only [Eng.gc, h, Bool.or_true, if_true]
theorem FR_lo (r t c : Nat) : Bt t ≤ 16 * (FR r t * 64 + c) := by
  rw [FR_eq]
  unfold Bt
  omega
theorem FR_hi (r t c : Nat) (h : r * 64 + c < 1000000) : 16 * (FR r t * 64 + c) + 8 < Bt (t + 1) := by
  rw [FR_eq]
  unfold Bt
  omega
theorem Bt_mono {a b : Nat} (h : a ≤ b) : Bt a ≤ Bt b := by
  unfold Bt
  omega
theorem Bt_big : 100000 ≤ Bt 1 := by decide
theorem young_big (rid : Nat) (ops : List Oper) (j id : Nat) (hr : rid < 1000) (h : Bt 1 ≤ id) : youngOf (some (rid, [])) ops j id = false := by
  have h1 : ¬ id / 16 ≤ rid * 64 + 64 := by
    unfold Bt at h
    omega
  simp [youngOf, h1, hidW]
theorem callI_fn {C : Cfg} {k : Nat} {f : FuncId} {args : List V} {H : Hp} {tick : Nat} {fn : Func} {code : Code} (hf : C.fn f = some fn) (hb : fn.body = some code) :
    (callK C (k + 1)).inl f args H tick = finI C.T fn.results.toList (runCode C (callK C k) k (C.keep f) code 0 { ρ := fun x => args.getD x (.c undef), H := H, tick := tick }) := by
  simp only [callK, hf, hb]
theorem loop_at2 {LP : St → Option (Ex × St)} {I : St → Prop} {Q : St → St → Prop} {e : Ex} {st1 : St} {res : Option (Ex × St)} (hL : ∀ st, I st → ∃ s, LP st = some (e, s) ∧ Q st s) (hr : LP st1 = res) (h : I st1) : ∃ s, res = some (e, s) ∧ Q st1 s := by
  obtain ⟨s, h1, h2⟩ := hL st1 h
  exact ⟨s, by rw [← hr, h1], h2⟩
theorem bor_c (H : Hp) (n : Nat) (v : Value) : Eng.bor H (n + 1) (.c v) = some (.c v) := by simp [Eng.bor]
theorem bor_sq (H : Hp) (n : Nat) (b fl : Bool) (sz : Nat) (l : List (List V)) : Eng.bor H (n + 1) (.sq b fl sz l) = some (.sq b fl sz l) := by simp [Eng.bor]
/-- Fields of one's own: width, height, where the cells lie, the cells. -/
structure Fo where
  w : Int
  h : Int
  id : Nat
  vr : Nat
  l : List Int
def Fo.row (q : Fo) : List V := [.c (.int .i64 q.w), .c (.int .i64 q.h), .s q.id q.vr 1 0 q.l.length]
def Fo.fd (q : Fo) : Fd := ⟨true, q.w, q.h, q.l⟩
def flO (P : List Fo) : Eng.Obj := ⟨38, 3, false, P.map Fo.row⟩
def Has (H : Hp) (P : List Fo) (lo hi : Nat) : Prop := ∀ q ∈ P, H q.id = some (q.vr, intsO q.l) ∧ lo ≤ q.id ∧ q.id < hi
theorem Has.keep {H H' : Hp} {P : List Fo} {lo hi lo' hi' : Nat} (h : Has H P lo hi) (hk : ∀ id, lo ≤ id → id < hi → id ∈ P.map Fo.id → H' id = H id) (h1 : lo' ≤ lo) (h2 : hi ≤ hi') : Has H' P lo' hi' := by
  intro q hq
  obtain ⟨a, b, c⟩ := h q hq
  exact ⟨by rw [hk _ b c (List.mem_map_of_mem hq)]; exact a, by omega, by omega⟩
theorem Has.borE {H : Hp} {P : List Fo} {lo hi : Nat} (h : Has H P lo hi) (n : Nat) : mapO (mapO (Eng.bor H (n + 1))) (P.map Fo.row) = some ((P.map Fo.fd).map Fd.cells) := by
  induction P with
  | nil => rfl
  | cons q r ih =>
    have hq := (h q (by simp)).1
    have e : Eng.bor H (n + 1) (.s q.id q.vr 1 0 q.l.length) = some (.sq true true 1 (ints q.l)) := by
      simp [Eng.bor, find, hq, intsO, ints_take]
    have ih' := ih fun x hx => h x (List.mem_cons_of_mem _ hx)
    simp only [List.map_cons, mapO, Fo.row, bor_c, e] at ih' ⊢
    rw [ih']
    rfl
theorem bor_fl {H : Hp} {P : List Fo} {lo hi : Nat} (h : Has H P lo hi) {id vr : Nat} (hH : H id = some (vr, flO P)) (n : Nat) : Eng.bor H (n + 2) (.s id vr 3 0 P.length) = some (.sq true false 3 ((P.map Fo.fd).map Fd.cells)) := by
  have hm := h.borE n
  have hl : (P.map Fo.row).length = P.length := by simp
  have ht : (P.map Fo.row).take P.length = P.map Fo.row := by rw [← hl]; exact List.take_length
  have hf : find H id vr = some (flO P) := by simp [find, hH]
  unfold Eng.bor
  simp only [hf, flO, hl, ht, List.drop_zero, Nat.zero_add, Nat.le_refl, and_self, if_true, Bool.false_eq_true, if_false, hm]
theorem refs_rows (P : List Fo) : (P.map Fo.row).flatMap refsL = P.map fun q => (q.id, q.vr) := by
  induction P with
  | nil => rfl
  | cons q r ih => simp [Fo.row, refsL, refs, ih]
theorem okF (ty : TypeId) (P : List Fo) : okObj ⟨ty, 3, false, P.map Fo.row⟩ = true := by
  simp [okObj, Fo.row, V.one, Value.oneCell']

end Go.Proofs.YtbjmfjfnilmhhaaGreatDoor.Eng
namespace Go.Proofs.YtbjmfjfnilmhhaaGreatDoor.Eng
open Go Go.Proofs
set_option maxRecDepth 100000
set_option maxHeartbeats 2000000
set_option linter.unusedSimpArgs false
set_option linter.unusedVariables false
attribute [local simp] finK fin1 hpOf xi renQ isRoot runCode runOps stepX inlOf Eng.step wantedV astep val ofO made loadV storeV find V.cells bin binT binA numT numFs eqCells un1 setAt fieldAddrV fieldV indexAddrV indexV bounds sliceV convV lenV foldV max2V min2V callO bor rdsO wrsO seen_none okD_none loops keepIds resV resultsV St.ev TK.agg refs refsL refsO V.one V.isC Value.oneCell' ren renL renO noTag noTagL noTagR noTagO nodup mapO passV frs psi refsR newD loopNext opsAt idx flatAt rootOf backR newsV appendV copyV clearV strV bytesV bldV bufV selfV bytesOf nilCmp buildV fillF chunk freeL frzW cellSame sameV
attribute [local simp] cT cF cX cWR cOW cK cBL X ints_length ints_get ints_getElem ints_drop ints_take ints_append ints_nil ints_set
attribute [local simp] ints_replicate
attribute [local simp] putV_some putV_none putH_app applyD_nil applyD_cons seen_app gc_ρ gc_H gc_tick st0_ρ st0_H st0_tick retV callRo callV_if borL_nil borL_cons ints_snoc take_self callWr cutH_app findQ afterV exportV_0 exportV_n okD_nil okD_cons sub_seq0 sub_seq1 sub_cond0 sub_cond1 sub_block sub_loop sub_nil young_far young_none hidW_nil mayW_nil keepsF_nil keepsF_cons pairs okI ok_0 ok_1 ok_2
attribute [local simp] T3 T4 T5 T9 T22 T24 T33 T36 T38 T45 T48 T51 T52 T54 T56 T71 T72 T74 T77 T99 T104 T117 T121
attribute [local simp] young_near clo cloF Region.binds Nat.testBit hidW declW mayW List.findIdx?_cons
theorem evA_prev {w h : Int} {Fs : List Fd} {l : List (Int × Int)} {n : Nat} {B : List (List Int)} (hb : evA w h Fs l (n + 1) = some B) : ∃ A z, evA w h Fs l n = some A ∧ valN w h Fs (l.getD n (0, 0)) A = some z ∧ B = A.take (A.length - (arI (l.getD n (0, 0))).toNat) ++ [z] := by
  rw [evA_succ] at hb
  obtain ⟨A, hA, hb⟩ := Option.bind_eq_some_iff.1 hb
  obtain ⟨z, hz, rfl⟩ := Option.map_eq_some_iff.1 hb
  exact ⟨A, z, hA, hz, rfl⟩
theorem evA_below {w h : Int} {Fs : List Fd} {l : List (Int × Int)} : ∀ (d n : Nat) (B : List (List Int)), evA w h Fs l (n + d) = some B → ∃ A, evA w h Fs l n = some A
  | 0, n, B, hb => ⟨B, hb⟩
  | d + 1, n, B, hb => by
    obtain ⟨A, _, hA, _⟩ := evA_prev (n := n + d) hb
    exact evA_below d n A hA
/-- The stack: nothing yet, or an object. -/
def StkI (w h : Int) (A : List (List Int)) (v : V) (H : Hp) (hi : Nat) : Prop := (A = [] ∧ v = .c (.slice none 0 0)) ∨ (A ≠ [] ∧ ∃ P tk, P.map Fo.l = A ∧ (∀ q ∈ P, q.w = w ∧ q.h = h) ∧ Has H P (Bt 1) hi ∧ v = .s 10408 tk 3 0 P.length ∧ H 10408 = some (tk, flO P))
theorem fd_fs {w h : Int} {P : List Fo} (hw : ∀ q ∈ P, q.w = w ∧ q.h = h) : (P.map Fo.fd).map Fd.cells = fsL w h (P.map Fo.l) := by
  induction P with
  | nil => rfl
  | cons q r ih =>
    obtain ⟨a, b⟩ := hw q (by simp)
    have := ih fun x hx => hw x (List.mem_cons_of_mem _ hx)
    simp only [fsL, List.map_cons, fsE] at this ⊢
    rw [this]
    simp [Fo.fd, Fd.cells, a, b]
theorem StkI.bor {w h : Int} {A : List (List Int)} {v : V} {H : Hp} {hi : Nat} (I : StkI w h A v H hi) : ∃ x, Eng.bor H 4 v = some x ∧ isFS x w h A := by
  rcases I with ⟨rfl, rfl⟩ | ⟨_, P, tk, e, hw, hP, rfl, hH⟩
  · exact ⟨_, bor_c _ _ _, .inr ⟨rfl, rfl⟩⟩
  · exact ⟨_, bor_fl hP hH 2, .inl (by rw [fd_fs hw, e])⟩
theorem StkI.keep {w h : Int} {A : List (List Int)} {v : V} {H H' : Hp} {hi hi' : Nat} (I : StkI w h A v H hi) (hk : ∀ id, Bt 1 ≤ id → id < hi → H' id = H id) (h0 : H' 10408 = H 10408) (hh : hi ≤ hi') : StkI w h A v H' hi' := by
  rcases I with ⟨rfl, rfl⟩ | ⟨a, P, tk, e, hw, hP, rfl, hH⟩
  · exact .inl ⟨rfl, rfl⟩
  · exact .inr ⟨a, P, tk, e, hw, hP.keep (fun id a b _ => hk id a b) (Nat.le_refl _) hh, rfl, by rw [h0]; exact hH⟩
structure EvI (w h : Int) (c b : Bool) (Fs : List Fd) (l : List (Int × Int)) (i : Nat) (A : List (List Int)) (rid : Nat) (s : St) : Prop where
  q1 : s.ρ 1 = .sq c false 3 (Fs.map Fd.cells)
  q4 : s.ρ 4 = .p rid 1 3 0 0
  q26 : s.ρ 26 = .sq b true 2 (ndL l)
  q27 : s.ρ 27 = .c (.int .i64 (l.length : Int))
  q28 : s.ρ 28 = .c (.int .i64 (i : Int))
  Hr : s.H rid = some (1, ⟨38, 3, false, [[.c (.int .i64 0), .c (.int .i64 0), .c (.slice none 0 0)]]⟩)
  r0 : Bt 1 ≤ rid
  r1 : rid < Bt 2
  S : StkI w h A (s.ρ 6) s.H (Bt s.tick)
  ht : 2 ≤ s.tick
theorem EvI.gc {w h : Int} {c b : Bool} {Fs : List Fd} {l : List (Int × Int)} {i : Nat} {A : List (List Int)} {rid : Nat} {s : St} (I : EvI w h c b Fs l i A rid s) : EvI w h c b Fs l i A rid (Eng.gc [1, 4, 6, 26, 27, 28] s) ∧ (Eng.gc [1, 4, 6, 26, 27, 28] s).H 10384 = none := by
  obtain ⟨q1, q4, q26, q27, q28, Hr, r0, r1, S, ht⟩ := I
  have hb := Bt_big
  rcases S with ⟨rfl, e6⟩ | ⟨a, P, tk, e, hw, hP, e6, hH⟩
  · refine ⟨⟨by simp [q1], by simp [q4], by simp [q26], by simp [q27], by simp [q28], by simp [q1, q4, q26, q27, q28, e6, Hr], r0, r1, .inl ⟨rfl, by simp [e6]⟩, by simp; exact ht⟩, ?_⟩
    simp [q1, q4, q26, q27, q28, e6, Hr]
    omega
  · have hk : ∀ id, id ∈ P.map Fo.id → (Eng.gc [1, 4, 6, 26, 27, 28] s).H id = s.H id := by
      intro id hid
      obtain ⟨q, hq, rfl⟩ := List.mem_map.1 hid
      simp [q1, q4, q26, q27, q28, e6, Hr, hH, flO, refs_rows]
      intro h1 h2 h3 h4
      exact absurd rfl (h4 q hq)
    have hn : ∀ q ∈ P, ¬ q.id = 10384 := fun q hq e => by have := (hP q hq).2.1; omega
    refine ⟨⟨by simp [q1], by simp [q4], by simp [q26], by simp [q27], by simp [q28], by simp [q1, q4, q26, q27, q28, e6, Hr], r0, r1, .inr ⟨a, P, tk, e, hw, hP.keep (fun id _ _ hm => hk id hm) (Nat.le_refl _) (Nat.le_refl _), by simp [e6], by simp [q1, q4, q26, q27, q28, e6, Hr, hH]⟩, by simp; exact ht⟩, ?_⟩
    simp [q1, q4, q26, q27, q28, e6, Hr, hH, flO, refs_rows]
    intro h2
    rcases h2 with h2 | ⟨q, hq, h2⟩
    · omega
    · exact absurd h2 (hn q hq)
theorem bor_nd (H : Hp) (n : Nat) (a b : Value) : Eng.bor H (n + 2) (.ag [.c a, .c b]) = some (.ag [.c a, .c b]) := by simp [Eng.bor, mapO]
theorem ev_round (k : Nat) (w h : Int) (c b : Bool) (Fs : List Fd) (hne : Fs ≠ []) (hFs : ∀ q ∈ Fs, goodB w h q.l = true ∧ q.w = w ∧ q.h = h) (h4 : Fs.length ≤ 4) (l : List (Int × Int)) (h15 : l.length ≤ 15) (hk : 4000 ≤ k) (i : Nat) (hi : i < l.length) (hr : 0 ≤ runO l (i + 1)) (rid : Nat) (A : List (List Int)) (hA : evA w h Fs l i = some A) (z : List Int) (hz : valN w h Fs l[i] A = some z) :
    ∀ s, EvI w h c b Fs l i A rid s → s.H 10384 = none → ∃ s', runCode C (callK C k) k (K 13) L13_0 1 s = some (.nrm, s') ∧ EvI w h c b Fs l (i + 1) (A.take (A.length - (arI l[i]).toNat) ++ [z]) rid s' := by
  have hs : shapeB w h = true := by
    cases Fs with
    | nil => exact absurd rfl hne
    | cons q r => exact good_shape (hFs q (by simp)).1
  intro s ⟨q1, q4, q26, q27, q28, Hr, r0, r1, S, ht⟩ H0
  obtain ⟨h1, h2, h3, h5⟩ := runO_back hr
  rw [getD_nd hi] at h2 h3 h5
  obtain ⟨a1, a2⟩ := evA_ok hs (fun q hq => (hFs q hq).1) i A h1 hA
  have hrle := runO_le l i
  have hb := Bt_big
  have hm1 : Bt 2 ≤ Bt s.tick := Bt_mono ht
  have hm2 : Bt s.tick ≤ Bt (s.tick + 1) := Bt_mono (by omega)
  have hm3 : Bt (s.tick + 1) ≤ Bt (s.tick + 1 + 1) := Bt_mono (by omega)
  have n6 := FR_lo 6 (s.tick + 1) 3
  have n6' := FR_hi 6 (s.tick + 1) 3 (by omega)
  have hN := ndL_get l i hi
  have S1 : StkI w h A (s.ρ 6) (putH (putH s.H (16 * (FR 6 (s.tick + 1) * 64 + 2 + 1)) (some (s.tick + 1, ⟨48, 2, true, [[.c (.int .i64 0), .c (.int .i64 0)]]⟩))) (16 * (FR 6 (s.tick + 1) * 64 + 2 + 1)) (some (s.tick + 1, ⟨48, 2, true, [[.c (.int .i64 l[i].1), .c (.int .i64 l[i].2)]]⟩))) (Bt s.tick) :=
    S.keep (fun id a b => by simp [putH_app, show ¬ id = 16 * (FR 6 (s.tick + 1) * 64 + 2 + 1) by omega]) (by simp [putH_app, show ¬ 10408 = 16 * (FR 6 (s.tick + 1) * 64 + 2 + 1) by omega]) (Nat.le_refl _)
  obtain ⟨x, ex, hx⟩ := S1.bor
  have hE := c_evaluateNode k c w h Fs hne hFs h4 l[i] A a2 (by omega) h2 (by omega) x hx (by omega)
  rw [hz] at hE
  simp [resF, ownV, intsO, ndE] at hE
  have hag := c_arguments k l[i] (by omega)
  rw [argI_eq h2] at hag
  simp [ndE] at hag
  have n7 := FR_lo 7 (s.tick + 1 + 1) 4
  have n7' := FR_hi 7 (s.tick + 1 + 1) 4 (by omega)
  have n8 := FR_lo 7 (s.tick + 1 + 1) 8
  have n8' := FR_hi 7 (s.tick + 1 + 1) 8 (by omega)
  have y6 := fun ops j => young_big 10 ops j (16 * (FR 6 (s.tick + 1) * 64 + 2 + 1)) (by omega) (by omega)
  have y7 := fun ops j => young_big 10 ops j (16 * (FR 7 (s.tick + 1 + 1) * 64 + 3 + 1)) (by omega) (by omega)
  have y8 := fun ops j => young_big 10 ops j (16 * (FR 7 (s.tick + 1 + 1) * 64 + 7 + 1)) (by omega) (by omega)
  have d67 : ¬ 16 * (FR 6 (s.tick + 1) * 64 + 2 + 1) = 16 * (FR 7 (s.tick + 1 + 1) * 64 + 3 + 1) := by omega
  have d68 : ¬ 16 * (FR 6 (s.tick + 1) * 64 + 2 + 1) = 16 * (FR 7 (s.tick + 1 + 1) * 64 + 7 + 1) := by omega
  have x6 : ¬ 10384 = 16 * (FR 6 (s.tick + 1) * 64 + 2 + 1) := by omega
  have x6' : ¬ 16 * (FR 6 (s.tick + 1) * 64 + 2 + 1) = 10384 := by omega
  have z6 : ¬ 10408 = 16 * (FR 6 (s.tick + 1) * 64 + 2 + 1) := by omega
  have z6' : ¬ 16 * (FR 6 (s.tick + 1) * 64 + 2 + 1) = 10408 := by omega
  have r6 : ¬ rid = 16 * (FR 6 (s.tick + 1) * 64 + 2 + 1) := by omega
  have r6' : ¬ 16 * (FR 6 (s.tick + 1) * 64 + 2 + 1) = rid := by omega
  have x7 : ¬ 10384 = 16 * (FR 7 (s.tick + 1 + 1) * 64 + 3 + 1) := by omega
  have x7' : ¬ 16 * (FR 7 (s.tick + 1 + 1) * 64 + 3 + 1) = 10384 := by omega
  have z7 : ¬ 10408 = 16 * (FR 7 (s.tick + 1 + 1) * 64 + 3 + 1) := by omega
  have z7' : ¬ 16 * (FR 7 (s.tick + 1 + 1) * 64 + 3 + 1) = 10408 := by omega
  have r7 : ¬ rid = 16 * (FR 7 (s.tick + 1 + 1) * 64 + 3 + 1) := by omega
  have r7' : ¬ 16 * (FR 7 (s.tick + 1 + 1) * 64 + 3 + 1) = rid := by omega
  have x8 : ¬ 10384 = 16 * (FR 7 (s.tick + 1 + 1) * 64 + 7 + 1) := by omega
  have x8' : ¬ 16 * (FR 7 (s.tick + 1 + 1) * 64 + 7 + 1) = 10384 := by omega
  have z8 : ¬ 10408 = 16 * (FR 7 (s.tick + 1 + 1) * 64 + 7 + 1) := by omega
  have z8' : ¬ 16 * (FR 7 (s.tick + 1 + 1) * 64 + 7 + 1) = 10408 := by omega
  have r8 : ¬ rid = 16 * (FR 7 (s.tick + 1 + 1) * 64 + 7 + 1) := by omega
  have r8' : ¬ 16 * (FR 7 (s.tick + 1 + 1) * 64 + 7 + 1) = rid := by omega
  have d78 : ¬ 16 * (FR 7 (s.tick + 1 + 1) * 64 + 3 + 1) = 16 * (FR 7 (s.tick + 1 + 1) * 64 + 7 + 1) := by omega
  have hwn := wrap_next hi (by omega : l.length ≤ 9000000000000000000)
  have rz : ¬ rid = 10408 := by omega
  have rx : ¬ rid = 10384 := by omega
  have hm4 : Bt (s.tick + 1 + 1 + 1) ≤ Bt (s.tick + 1 + 1 + 1 + 1 + 1 + 1) := Bt_mono (by omega)
  have w0 : IntKind.i64.wrap 0 = 0 := wrap_small (by omega) (by omega)
  rcases S with ⟨rfl, e6⟩ | ⟨a, P, tk, e, hw, hP, e6, hH⟩
  · have ha0 : arI l[i] = 0 := by simp at a1; omega
    rw [e6, bor_c] at ex
    cases ex
    rw [ha0] at hag
    simp [-Eng.bor, L13_0, R13_0, R13_1, R13_2, R13_3, R13_4, R13_5, R13_6, R13_7, R13_8, R13_9, R13_10, R13_11, R13_12, Tryz.f13, lpL13_0, lpM13_0, M13_0, q1, q4, q26, q27, q28, e6, hi, hN, ndL_at, ndE, bor_nd, bor_sq, bor_c, hE, hag, y6, y7, y8, H0, d67, d68, d78, x6, x6', z6, z6', r6, r6', x7, x7', z7, z7', r7, r7', x8, x8', z8, z8', r8, r8', hwn, w0, maxLen]
    refine ⟨by simp [q1], by simp [q4], by simp [q26], by simp [q27], by simp, by simp [putH_app, Hr, d67, d68, d78, x6, x6', z6, z6', r6, r6', x7, x7', z7, z7', r7, r7', x8, x8', z8, z8', r8, r8', rz, rx], r0, r1, .inr ⟨by simp, [⟨w, h, 16 * (FR 7 (s.tick + 1 + 1) * 64 + 3 + 1), s.tick + 1 + 1, z⟩], s.tick + 1 + 1 + 1 + 1, by simp, by simp, ?_, by simp, by simp [putH_app, flO, Fo.row]⟩, by simp <;> omega⟩
    intro q hq
    rw [List.mem_singleton] at hq
    subst hq
    exact ⟨by simp [putH_app, intsO, d67, d68, d78, x6, x6', z6, z6', r6, r6', x7, x7', z7, z7', r7, r7', x8, x8', z8, z8', r8, r8'], by simp <;> omega, by simp <;> omega⟩
  · rw [e6] at ex
    obtain ⟨q, hq⟩ : ∃ q : Nat, A.length - (arI l[i]).toNat = q := ⟨_, rfl⟩
    have hPA : P.length = A.length := by rw [← e]; simp
    have hqA : q ≤ P.length := by omega
    have hqA' : (q : Int) ≤ (P.length : Int) := by omega
    have w1 : IntKind.i64.wrap ((P.length : Int) - arI l[i]) = (q : Int) := by rw [wrap_small (by omega) (by omega)]; omega
    have hb1 : (q + 1) * 40 ≤ 140737488355328 := by omega
    have hb2 : q + 1 ≤ maxLen := by unfold maxLen; omega
    rw [hq]
    have hrow : (P.map Fo.row).take q ++ [[V.c (.int .i64 w), V.c (.int .i64 h), V.s (16 * (FR 7 (s.tick + 1 + 1) * 64 + 3 + 1)) (s.tick + 1 + 1) 1 0 z.length]] = (P.take q ++ [(⟨w, h, 16 * (FR 7 (s.tick + 1 + 1) * 64 + 3 + 1), s.tick + 1 + 1, z⟩ : Fo)]).map Fo.row := by
      simp [Fo.row, List.map_take]
    have hok := okF 38 (P.take q ++ [(⟨w, h, 16 * (FR 7 (s.tick + 1 + 1) * 64 + 3 + 1), s.tick + 1 + 1, z⟩ : Fo)])
    rw [← hrow] at hok
    simp [-Eng.bor, L13_0, R13_0, R13_1, R13_2, R13_3, R13_4, R13_5, R13_6, R13_7, R13_8, R13_9, R13_10, R13_11, R13_12, Tryz.f13, lpL13_0, lpM13_0, M13_0, q1, q4, q26, q27, q28, e6, hi, hN, ndL_at, ndE, bor_nd, bor_sq, ex, hE, hag, y6, y7, y8, H0, d67, d68, d78, x6, x6', z6, z6', r6, r6', x7, x7', z7, z7', r7, r7', x8, x8', z8, z8', r8, r8', hwn, hH, flO, w1, hqA, hqA', hb1, hb2, hok]
    refine ⟨by simp [q1], by simp [q4], by simp [q26], by simp [q27], by simp, by simp [putH_app, Hr, d67, d68, d78, x6, x6', z6, z6', r6, r6', x7, x7', z7, z7', r7, r7', x8, x8', z8, z8', r8, r8', rz, rx], r0, r1, .inr ⟨by simp, P.take q ++ [⟨w, h, 16 * (FR 7 (s.tick + 1 + 1) * 64 + 3 + 1), s.tick + 1 + 1, z⟩], s.tick + 1 + 1 + 1 + 1, by simp [← e, List.map_take], ?_, ?_, by simp [hqA], by simp [putH_app, flO, hrow]⟩, by simp <;> omega⟩
    · intro x hx
      rcases List.mem_append.1 hx with hx | hx
      · exact hw x (List.mem_of_mem_take hx)
      · rw [List.mem_singleton] at hx
        subst hx
        exact ⟨rfl, rfl⟩
    · intro x hx
      rcases List.mem_append.1 hx with hx | hx
      · obtain ⟨p1, p2, p3⟩ := hP x (List.mem_of_mem_take hx)
        refine ⟨?_, p2, by simp <;> omega⟩
        simp [putH_app, show ¬ x.id = 10408 by omega, show ¬ x.id = 10384 by omega, show ¬ x.id = 16 * (FR 6 (s.tick + 1) * 64 + 2 + 1) by omega, show ¬ x.id = 16 * (FR 7 (s.tick + 1 + 1) * 64 + 3 + 1) by omega, show ¬ x.id = 16 * (FR 7 (s.tick + 1 + 1) * 64 + 7 + 1) by omega, p1]
      · rw [List.mem_singleton] at hx
        subst hx
        exact ⟨by simp [putH_app, intsO, d67, d68, d78, x6, x6', z6, z6', r6, r6', x7, x7', z7, z7', r7, r7', x8, x8', z8, z8', r8, r8'], by simp <;> omega, by simp <;> omega⟩
theorem ev_fail (k : Nat) (w h : Int) (c b : Bool) (Fs : List Fd) (hne : Fs ≠ []) (hFs : ∀ q ∈ Fs, goodB w h q.l = true ∧ q.w = w ∧ q.h = h) (h4 : Fs.length ≤ 4) (l : List (Int × Int)) (h15 : l.length ≤ 15) (hk : 4000 ≤ k) (i : Nat) (hi : i < l.length) (hr : 0 ≤ runO l (i + 1)) (rid : Nat) (A : List (List Int)) (hA : evA w h Fs l i = some A) (hz : valN w h Fs l[i] A = none) :
    ∀ s, EvI w h c b Fs l i A rid s → ∃ s', runCode C (callK C k) k (K 13) L13_0 1 s = some (.ret, s') ∧ s'.ρ 4 = .p rid 1 3 0 0 ∧ s'.ρ 5 = .c (.bool false) ∧ s'.H rid = some (1, ⟨38, 3, false, [[.c (.int .i64 0), .c (.int .i64 0), .c (.slice none 0 0)]]⟩) := by
  have hs : shapeB w h = true := by
    cases Fs with
    | nil => exact absurd rfl hne
    | cons q r => exact good_shape (hFs q (by simp)).1
  intro s ⟨q1, q4, q26, q27, q28, Hr, r0, r1, S, ht⟩
  obtain ⟨h1, h2, h3, h5⟩ := runO_back hr
  rw [getD_nd hi] at h2 h3 h5
  obtain ⟨a1, a2⟩ := evA_ok hs (fun q hq => (hFs q hq).1) i A h1 hA
  have hrle := runO_le l i
  have hb := Bt_big
  have hm1 : Bt 2 ≤ Bt s.tick := Bt_mono ht
  have hm2 : Bt s.tick ≤ Bt (s.tick + 1) := Bt_mono (by omega)
  have hm3 : Bt (s.tick + 1) ≤ Bt (s.tick + 1 + 1) := Bt_mono (by omega)
  have n6 := FR_lo 6 (s.tick + 1) 3
  have n6' := FR_hi 6 (s.tick + 1) 3 (by omega)
  have hN := ndL_get l i hi
  have S1 : StkI w h A (s.ρ 6) (putH (putH s.H (16 * (FR 6 (s.tick + 1) * 64 + 2 + 1)) (some (s.tick + 1, ⟨48, 2, true, [[.c (.int .i64 0), .c (.int .i64 0)]]⟩))) (16 * (FR 6 (s.tick + 1) * 64 + 2 + 1)) (some (s.tick + 1, ⟨48, 2, true, [[.c (.int .i64 l[i].1), .c (.int .i64 l[i].2)]]⟩))) (Bt s.tick) :=
    S.keep (fun id a b => by simp [putH_app, show ¬ id = 16 * (FR 6 (s.tick + 1) * 64 + 2 + 1) by omega]) (by simp [putH_app, show ¬ 10408 = 16 * (FR 6 (s.tick + 1) * 64 + 2 + 1) by omega]) (Nat.le_refl _)
  obtain ⟨x, ex, hx⟩ := S1.bor
  have hE := c_evaluateNode k c w h Fs hne hFs h4 l[i] A a2 (by omega) h2 (by omega) x hx (by omega)
  rw [hz] at hE
  simp [resF, nilV, ndE] at hE
  have n8 := FR_lo 7 (s.tick + 1 + 1) 8
  have r6 : ¬ rid = 16 * (FR 6 (s.tick + 1) * 64 + 2 + 1) := by omega
  have r8 : ¬ rid = 16 * (FR 7 (s.tick + 1 + 1) * 64 + 7 + 1) := by omega
  simp [-Eng.bor, L13_0, R13_0, R13_1, R13_2, R13_3, R13_4, R13_5, R13_6, R13_7, R13_8, R13_9, R13_10, R13_11, R13_12, Tryz.f13, lpL13_0, lpM13_0, M13_0, q1, q4, q26, q27, q28, hi, hN, ndL_at, ndE, bor_nd, bor_sq, ex, hE, Hr, r6, r8]
/-- The whole. -/
def evW (p : List Fd) : Int := (p.headD ⟨true, 0, 0, []⟩).w
def evH (p : List Fd) : Int := (p.headD ⟨true, 0, 0, []⟩).h
def evR (l : List (Int × Int)) (p : List Fd) : Option (V × Hp) := resF (evW p) (evH p) (if goodE l && alikeF p then evV (evW p) (evH p) p l else none)
theorem c_implEvOk (k : Nat) (w h : Int) (b c : Bool) (l : List (Int × Int)) (hg : goodE l = true) (p : List Fd) (hne : p ≠ []) (hFs : ∀ q ∈ p, goodB w h q.l = true ∧ q.w = w ∧ q.h = h) (h4 : p.length ≤ 4)
    (hA : callK C (k + 8) 31 [.sq c false 3 (p.map Fd.cells)] [] = some (.c (.bool true), hpOf [] [])) (hk : 5000 ≤ k) :
    callK C (k + 9) 13 [.sq b true 2 (ndL l), .sq c false 3 (p.map Fd.cells)] [] = resF w h (evV w h p l) := by
  rw [callK_fn rfl F13 code13]
  have hI := c_IsExpression (k + 8) b l (by omega)
  rw [hg] at hI
  have hW := c_within (k + 8) (p.length : Int) 1 4 (by omega)
  have hp1 : 1 ≤ p.length := by cases p with | nil => exact absurd rfl hne | cons a b => simp
  rw [show (decide (1 ≤ (p.length : Int)) && decide ((p.length : Int) ≤ 4)) = true by simp; omega] at hW
  have hs : shapeB w h = true := by
    cases p with
    | nil => exact absurd rfl hne
    | cons q r => exact good_shape (hFs q (by simp)).1
  obtain ⟨h15, hr⟩ := good_run hg
  have hb := Bt_big
  have n0 := FR_lo 0 1 1
  have n0' : 16 * (FR 0 1 * 64 + 1) + 8 < Bt 2 := FR_hi 0 1 1 (by omega)
  have hrun : ∀ i, i < l.length → 0 ≤ runO l (i + 1) := fun i hi => runO_mono (by omega : 0 ≤ runO l l.length) (l.length - (i + 1)) (i + 1) (by omega)
  have hI0 : ∀ s : St, s.ρ 1 = .sq c false 3 (p.map Fd.cells) → s.ρ 4 = .p (16 * (FR 0 1 * 64 + 1)) 1 3 0 0 → s.ρ 6 = .c (.slice none 0 0) → s.ρ 26 = .sq b true 2 (ndL l) → s.ρ 27 = .c (.int .i64 (l.length : Int)) → s.ρ 28 = .c (.int .i64 0) → s.H (16 * (FR 0 1 * 64 + 1)) = some (1, ⟨38, 3, false, [[.c (.int .i64 0), .c (.int .i64 0), .c (.slice none 0 0)]]⟩) → 2 ≤ s.tick → EvI w h c b p l 0 [] (16 * (FR 0 1 * 64 + 1)) s :=
    fun s a1 a4 a6 a26 a27 a28 aH at' => ⟨a1, a4, a26, a27, by simpa using a28, aH, by omega, by omega, .inl ⟨rfl, a6⟩, at'⟩
  unfold evV
  cases hE : evA w h p l l.length with
  | none =>
    have hL := loopHas (body := fun st => runCode C (callK C (k + 8)) (k + 8) (K 13) L13_0 1 st) (keep := [1, 4, 6, 26, 27, 28]) .ret (fun s' => s'.ρ 4 = .p (16 * (FR 0 1 * 64 + 1)) 1 3 0 0 ∧ s'.ρ 5 = .c (.bool false) ∧ s'.H (16 * (FR 0 1 * 64 + 1)) = some (1, ⟨38, 3, false, [[.c (.int .i64 0), .c (.int .i64 0), .c (.slice none 0 0)]]⟩))
      (fun i st => ∃ A, evA w h p l i = some A ∧ EvI w h c b p l i A (16 * (FR 0 1 * 64 + 1)) st)
      l.length (k + 8) (by omega)
      (by
        rintro i st next hi ⟨A, hA', I⟩ hx
        obtain ⟨I', h0⟩ := I.gc
        cases hz : valN w h p l[i] A with
        | none =>
          obtain ⟨s', e, f⟩ := ev_fail (k + 8) w h c b p hne hFs h4 l h15 (by omega) i hi (hrun i hi) _ A hA' hz _ I'
          simp only [e, loopNext]
          exact ⟨s', rfl, f⟩
        | some z =>
          obtain ⟨s', e, I2⟩ := ev_round (k + 8) w h c b p hne hFs h4 l h15 (by omega) i hi (hrun i hi) _ A hA' z hz _ I' h0
          simp only [e, loopNext]
          exact hx s' ⟨_, by rw [evA_succ, hA', getD_nd hi]; simp [hz], I2⟩)
      (by
        rintro st next ⟨A, hA', _⟩
        rw [hE] at hA'
        cases hA')
    simp [R13_0, R13_1, R13_2, R13_3, R13_4, R13_5, R13_6, R13_7, R13_8, R13_9, R13_10, R13_11, R13_12, Tryz.f13, lpL13_0, lpM13_0, hI, hW, hA]
    generalize hrr : loopRun _ _ _ _ = res
    obtain ⟨s1, rfl, f4, f5, fH⟩ := loop_at hL hrr ⟨[], rfl, hI0 _ (by simp) (by simp) (by simp) (by simp) (by simp [ndL_length]) (by simp) (by simp [putH_app]) (by simp)⟩
    simp [R13_0, R13_1, R13_2, R13_3, R13_4, R13_5, R13_6, R13_7, R13_8, R13_9, R13_10, R13_11, R13_12, Tryz.f13, lpL13_0, lpM13_0, M13_0, f4, f5, fH, resF, nilV]
  | some B =>
    have hL := loopHas (body := fun st => runCode C (callK C (k + 8)) (k + 8) (K 13) L13_0 1 st) (keep := [1, 4, 6, 26, 27, 28]) (.ex 0) (fun s' => EvI w h c b p l l.length B (16 * (FR 0 1 * 64 + 1)) s')
      (fun i st => ∃ A, evA w h p l i = some A ∧ EvI w h c b p l i A (16 * (FR 0 1 * 64 + 1)) st)
      l.length (k + 8) (by omega)
      (by
        rintro i st next hi ⟨A, hA', I⟩ hx
        obtain ⟨I', h0⟩ := I.gc
        obtain ⟨B', hB'⟩ := evA_below (l.length - (i + 1)) (i + 1) B (by rw [show i + 1 + (l.length - (i + 1)) = l.length by omega]; exact hE)
        obtain ⟨A2, z, e1, hz, e2⟩ := evA_prev hB'
        rw [hA'] at e1
        cases e1
        rw [getD_nd hi] at hz e2
        obtain ⟨s', e, I2⟩ := ev_round (k + 8) w h c b p hne hFs h4 l h15 (by omega) i hi (hrun i hi) _ A hA' z hz _ I' h0
        simp only [e, loopNext]
        rw [← e2] at I2
        exact hx s' ⟨_, hB', I2⟩)
      (by
        rintro st next ⟨A, hA', I⟩
        rw [hE] at hA'
        cases hA'
        obtain ⟨⟨q1, q4, q26, q27, q28, Hr, r0, r1, S, ht⟩, _⟩ := I.gc
        obtain ⟨s1, hs1⟩ : ∃ s1, Eng.gc [1, 4, 6, 26, 27, 28] st = s1 := ⟨_, rfl⟩
        rw [hs1] at q1 q4 q26 q27 q28 Hr S ht ⊢
        simp [L13_0, R13_0, R13_1, R13_2, R13_3, R13_4, R13_5, R13_6, R13_7, R13_8, R13_9, R13_10, R13_11, R13_12, Tryz.f13, lpL13_0, lpM13_0, M13_0, q27, q28]
        exact ⟨by simp [q1], by simp [q4], by simp [q26], by simp [q27], by simp [q28], by simp [Hr], r0, r1, by simpa using S.keep (fun _ _ _ => rfl) rfl (Bt_mono (by omega)), by simp; omega⟩)
    obtain ⟨b1, b2⟩ := evA_ok hs (fun q hq => (hFs q hq).1) l.length B (by omega) hE
    obtain ⟨z, rfl⟩ : ∃ z, B = [z] := by
      cases B with
      | nil => simp at b1; omega
      | cons z B => cases B with
        | nil => exact ⟨z, rfl⟩
        | cons y B => simp at b1; omega
    simp [R13_0, R13_1, R13_2, R13_3, R13_4, R13_5, R13_6, R13_7, R13_8, R13_9, R13_10, R13_11, R13_12, Tryz.f13, lpL13_0, lpM13_0, hI, hW, hA]
    generalize hrr : loopRun _ _ _ _ = res
    obtain ⟨s1, rfl, q1, q4, q26, q27, q28, Hr, r0, r1, S, ht⟩ := loop_at hL hrr ⟨[], rfl, hI0 _ (by simp) (by simp) (by simp) (by simp) (by simp [ndL_length]) (by simp) (by simp [putH_app]) (by simp)⟩
    rcases S with ⟨hS, _⟩ | ⟨_, P, tk, e, hw, hP, e6, hH⟩
    · cases hS
    obtain ⟨q, rfl⟩ : ∃ q, P = [q] := by
      cases P with
      | nil => cases e
      | cons q P => cases P with
        | nil => exact ⟨q, rfl⟩
        | cons y P => simp at e
    obtain ⟨e1, e2⟩ := hw q (by simp)
    obtain ⟨e3, e4, e5⟩ := hP q (by simp)
    have e7 : q.l = z := by simpa using e
    have d1 : ¬ q.id = 16 * (FR 0 1 * 64 + 1) := by
      intro e
      rw [e] at e3
      rw [e3] at Hr
      simp [intsO] at Hr
    simp [intsO] at e3
    simp [R13_0, R13_1, R13_2, R13_3, R13_4, R13_5, R13_6, R13_7, R13_8, R13_9, R13_10, R13_11, R13_12, Tryz.f13, lpL13_0, lpM13_0, M13_0, q4, e6, hH, Hr, flO, Fo.row, e1, e2, e3, e7, d1, resF, ownV, intsO]
theorem c_implEvaluate (k : Nat) (b c : Bool) (l : List (Int × Int)) (p : List Fd) (hp : p.length ≤ 1048576) (hk : 6000 ≤ k) :
    callK C k 13 [.sq b true 2 (ndL l), .sq c false 3 (p.map Fd.cells)] [] = evR l p := by
  obtain ⟨k, rfl⟩ : ∃ m, k = m + 9 := ⟨k - 9, by omega⟩
  rw [callK_fn rfl F13 code13]
  unfold evR
  have hI := c_IsExpression (k + 8) b l (by omega)
  have hW := c_within (k + 8) (p.length : Int) 1 4 (by omega)
  have hb := Bt_big
  have n0 := FR_lo 0 1 1
  have n0' := FR_hi 0 1 1 (by omega)
  cases hg : goodE l
  · rw [hg] at hI
    simp [R13_0, R13_1, R13_2, R13_3, R13_4, R13_5, R13_6, R13_7, R13_8, R13_9, R13_10, R13_11, R13_12, Tryz.f13, lpL13_0, lpM13_0, M13_0, hI, nilV, resF]
  · rw [hg] at hI
    cases p with
    | nil =>
      simp at hW
      simp [R13_0, R13_1, R13_2, R13_3, R13_4, R13_5, R13_6, R13_7, R13_8, R13_9, R13_10, R13_11, R13_12, Tryz.f13, lpL13_0, lpM13_0, M13_0, hI, hW, nilV, resF, alikeF]
    | cons q0 r =>
      by_cases h4 : r.length ≤ 3
      · have hle : (decide (1 ≤ ((q0 :: r).length : Int)) && decide (((q0 :: r).length : Int) ≤ 4)) = true := by simp; omega
        rw [hle] at hW
        have hA := c_areAlike (k + 8) c q0 r (by omega) (by omega)
        rw [show alikeF (q0 :: r) = (q0 :: r).all (likeB q0) by unfold alikeF; simp [h4]]
        simp at hW
        cases ha : (q0 :: r).all (likeB q0)
        · rw [ha] at hA
          simp at hA
          simp [R13_0, R13_1, R13_2, R13_3, R13_4, R13_5, R13_6, R13_7, R13_8, R13_9, R13_10, R13_11, R13_12, Tryz.f13, lpL13_0, lpM13_0, M13_0, hI, hW, hA, nilV, resF]
        · rw [ha] at hA
          simp at hA
          rw [List.all_eq_true] at ha
          have hFs : ∀ q ∈ q0 :: r, goodB q0.w q0.h q.l = true ∧ q.w = q0.w ∧ q.h = q0.h := by
            intro q hq
            have := ha q hq
            simp only [likeB, Bool.and_eq_true, beq_iff_eq] at this
            obtain ⟨t1, t2, t3⟩ := this
            rw [t2, t3] at t1
            exact ⟨t1, t2, t3⟩
          have hO := c_implEvOk k q0.w q0.h b c l hg (q0 :: r) (by simp) hFs (by simp; omega) (by simpa using hA) (by omega)
          rw [callK_fn rfl F13 code13] at hO
          simp only [Bool.and_self, if_true]
          exact hO
      · have hle : (decide (1 ≤ ((q0 :: r).length : Int)) && decide (((q0 :: r).length : Int) ≤ 4)) = false := by simp; omega
        rw [hle] at hW
        simp at hW
        have h4' : ¬ r.length ≤ 3 := h4
        simp [R13_0, R13_1, R13_2, R13_3, R13_4, R13_5, R13_6, R13_7, R13_8, R13_9, R13_10, R13_11, R13_12, Tryz.f13, lpL13_0, lpM13_0, M13_0, hI, hW, nilV, resF, alikeF, h4']

end Go.Proofs.YtbjmfjfnilmhhaaGreatDoor.Eng
namespace Go.Proofs.YtbjmfjfnilmhhaaGreatDoor.Eng
open Go Go.Proofs
set_option maxRecDepth 100000
set_option maxHeartbeats 2000000
set_option linter.unusedSimpArgs false
set_option linter.unusedVariables false
attribute [local simp] finK fin1 hpOf xi renQ isRoot runCode runOps stepX inlOf Eng.step wantedV astep val ofO made loadV storeV find V.cells bin binT binA numT numFs eqCells un1 setAt fieldAddrV fieldV indexAddrV indexV bounds sliceV convV lenV foldV max2V min2V callO bor rdsO wrsO seen_none okD_none loops keepIds resV resultsV St.ev TK.agg refs refsL refsO V.one V.isC Value.oneCell' ren renL renO noTag noTagL noTagR noTagO nodup mapO passV frs psi refsR newD loopNext opsAt idx flatAt rootOf backR newsV appendV copyV clearV strV bytesV bldV bufV selfV bytesOf nilCmp buildV fillF chunk freeL frzW cellSame sameV
attribute [local simp] cT cF cX cWR cOW cK cBL X ints_length ints_get ints_getElem ints_drop ints_take ints_append ints_nil ints_set
attribute [local simp] ints_replicate
attribute [local simp] putV_some putV_none putH_app applyD_nil applyD_cons seen_app gc_ρ gc_H gc_tick st0_ρ st0_H st0_tick retV callRo callV_if borL_nil borL_cons ints_snoc take_self callWr cutH_app findQ afterV exportV_0 exportV_n okD_nil okD_cons sub_seq0 sub_seq1 sub_cond0 sub_cond1 sub_block sub_loop sub_nil young_far young_none hidW_nil mayW_nil keepsF_nil keepsF_cons pairs okI ok_0 ok_1 ok_2
attribute [local simp] T3 T4 T5 T9 T22 T24 T33 T36 T38 T45 T48 T51 T52 T54 T56 T71 T72 T74 T77 T99 T104 T117 T121
attribute [local simp] young_near clo cloF Region.binds Nat.testBit hidW declW mayW List.findIdx?_cons
theorem c_specEvaluate (k : Nat) (b c : Bool) (l : List (Int × Int)) (p : List Fd) (hp : p.length ≤ 1048576) (hk : p.length + 3000 ≤ k) :
    callK C k 14 [.sq b true 2 (ndL l), .sq c false 3 (p.map Fd.cells)] [] = evR l p := by
  obtain ⟨k, rfl⟩ : ∃ m, k = m + 9 := ⟨k - 9, by omega⟩
  rw [callK_fn rfl F14 code14]
  unfold evR
  have hG := c_l5Good (k + 8) b l (by omega)
  have hF := c_l5Fields (k + 8) c p hp (by omega)
  cases hg : goodE l
  · rw [hg] at hG
    simp [R14_0, R14_1, R14_2, R14_3, Tryz.f14, hG, nilV, resF]
  · rw [hg] at hG
    cases ha : alikeF p
    · rw [ha] at hF
      simp [R14_0, R14_1, R14_2, R14_3, Tryz.f14, hG, hF, nilV, resF]
    · rw [ha] at hF
      cases p with
      | nil => cases ha
      | cons q0 r =>
        unfold alikeF at ha
        simp only [Bool.and_eq_true, decide_eq_true_eq] at ha
        obtain ⟨ha, h3⟩ := ha
        rw [List.all_eq_true] at ha
        have hFs : ∀ q ∈ q0 :: r, goodB q0.w q0.h q.l = true ∧ q.w = q0.w ∧ q.h = q0.h := by
          intro q hq
          have := ha q hq
          simp only [likeB, Bool.and_eq_true, beq_iff_eq] at this
          obtain ⟨t1, t2, t3⟩ := this
          rw [t2, t3] at t1
          exact ⟨t1, t2, t3⟩
        have hw : evW (q0 :: r) = q0.w := rfl
        have hh : evH (q0 :: r) = q0.h := rfl
        rw [hw, hh]
        obtain ⟨h15, hr⟩ := good_run hg
        obtain ⟨n, hn⟩ : ∃ n, l.length = n + 1 := by
          cases hl : l.length with
          | zero => rw [hl] at hr; simp [runO] at hr
          | succ n => exact ⟨n, rfl⟩
        obtain ⟨a, d, ha', hs⟩ := stk_top (l := l) n (by rw [← hn]; omega)
        obtain ⟨rr, hv, hev, _⟩ := c_l5Value b c q0.w q0.h (q0 :: r) ⟨by simp, hFs⟩ (by simp; omega) l h15 n (by omega) (by rw [← hn]; omega) (k + 8) (by omega) a d _ hs
        have hdt := (depth_top hg (by rw [hn]; exact hs)).2
        have ha0 : a = 0 := by
          have h1 := stk_len (l := l) (n + 1) (by rw [← hn]; omega)
          rw [hs] at h1
          simp only [List.length_cons] at h1
          have h2 := runO_mono (l := l) (n := l.length) (by omega) (l.length - a) a (by omega)
          have h3' := stk_len a h2
          cases a with
          | zero => rfl
          | succ a =>
            have := runO_pos h2
            rw [← hn] at h1
            omega
        subst ha0
        have hvv : evV q0.w q0.h (q0 :: r) l = rr := by
          unfold evV
          rw [hn, hev]
          cases rr <;> simp [evA]
        have hw' : IntKind.i64.wrap (n : Int) = (n : Int) := wrap_small (by omega) (by omega)
        rw [hvv]
        simp at hF hv
        cases rr with
        | none =>
          simp [resF, nilV] at hv
          simp [R14_0, R14_1, R14_2, R14_3, Tryz.f14, hG, hF, ndL_length, hn, hw', hv, nilV, resF]
        | some z =>
          simp [resF, ownV, intsO] at hv
          simp [R14_0, R14_1, R14_2, R14_3, Tryz.f14, hG, hF, ndL_length, hn, hw', hv, ownV, resF, intsO]
/-- Fields as a callee sees those of one's own. -/
def fdT (q : Fd) : Fd := ⟨true, q.w, q.h, q.l⟩
def zrow : List V := [.c (.int .i64 0), .c (.int .i64 0), .c (.slice none 0 0)]
theorem zrow_len : zrow.length = 3 := rfl
theorem zrow_drop : zrow.drop 3 = [] := rfl
/-- What toFieldS keeps. -/
structure TfI (b : Bool) (p : List Fd) (id vr lo : Nat) (H0 : Hp) (i : Nat) (P : List Fo) (s : St) : Prop where
  q0 : s.ρ 0 = .sq b false 3 (p.map Fd.cells)
  q3 : s.ρ 3 = .s id vr 3 0 p.length
  q4 : s.ρ 4 = .c (.int .i64 (i : Int))
  hP : P.map Fo.fd = (p.take i).map fdT
  has : Has s.H P lo (Bt s.tick)
  nd : (P.map Fo.id).Nodup
  ni : id ∉ P.map Fo.id
  i0 : lo ≤ id
  i1 : id < Bt s.tick
  lt : lo ≤ Bt s.tick
  Ho : s.H id = some (vr, ⟨38, 3, false, P.map Fo.row ++ List.replicate (p.length - i) zrow⟩)
  old : ∀ x, x < lo → s.H x = H0 x
/-- A list of fields of one's own, all of it made between lo and hi. -/
structure FlI (pT : List Fd) (v : V) (H : Hp) (lo hi : Nat) (P : List Fo) (id vr : Nat) : Prop where
  hP : P.map Fo.fd = pT
  has : Has H P lo hi
  nd : (P.map Fo.id).Nodup
  ni : id ∉ P.map Fo.id
  i0 : lo ≤ id
  i1 : id < hi
  hv : v = .s id vr 3 0 P.length
  Ho : H id = some (vr, flO P)
theorem FlI.keep {pT : List Fd} {v : V} {H H' : Hp} {lo hi : Nat} {P : List Fo} {id vr : Nat} (I : FlI pT v H lo hi P id vr) (hk : ∀ x, lo ≤ x → x < hi → H' x = H x) : FlI pT v H' lo hi P id vr :=
  ⟨I.hP, I.has.keep (fun x a b _ => hk x a b) (Nat.le_refl _) (Nat.le_refl _), I.nd, I.ni, I.i0, I.i1, I.hv, by rw [hk _ I.i0 I.i1]; exact I.Ho⟩
theorem FlI.bor {pT : List Fd} {v : V} {H : Hp} {lo hi : Nat} {P : List Fo} {id vr : Nat} (I : FlI pT v H lo hi P id vr) : Eng.bor H 4 v = some (.sq true false 3 (pT.map Fd.cells)) := by
  rw [I.hv, bor_fl I.has I.Ho 2, I.hP]

end Go.Proofs.YtbjmfjfnilmhhaaGreatDoor.Eng
namespace Go.Proofs.YtbjmfjfnilmhhaaGreatDoor.Eng
open Go Go.Proofs
set_option maxRecDepth 100000
set_option maxHeartbeats 2000000
set_option linter.unusedSimpArgs false
set_option linter.unusedVariables false
attribute [local simp] finK fin1 hpOf xi renQ isRoot runCode runOps stepX inlOf Eng.step wantedV astep val ofO made loadV storeV find V.cells bin binT binA numT numFs eqCells un1 setAt fieldAddrV fieldV indexAddrV indexV bounds sliceV convV lenV foldV max2V min2V callO bor rdsO wrsO seen_none okD_none loops keepIds resV resultsV St.ev TK.agg refs refsL refsO V.one V.isC Value.oneCell' ren renL renO noTag noTagL noTagR noTagO nodup mapO passV frs psi refsR newD loopNext opsAt idx flatAt rootOf backR newsV appendV copyV clearV strV bytesV bldV bufV selfV bytesOf nilCmp buildV fillF chunk freeL frzW cellSame sameV
attribute [local simp] cT cF cX cWR cOW cK cBL X ints_length ints_get ints_getElem ints_drop ints_take ints_append ints_nil ints_set
attribute [local simp] ints_replicate
attribute [local simp] putV_some putV_none putH_app applyD_nil applyD_cons seen_app gc_ρ gc_H gc_tick st0_ρ st0_H st0_tick retV callRo callV_if borL_nil borL_cons ints_snoc take_self callWr cutH_app findQ afterV exportV_0 exportV_n okD_nil okD_cons sub_seq0 sub_seq1 sub_cond0 sub_cond1 sub_block sub_loop sub_nil young_far young_none hidW_nil mayW_nil keepsF_nil keepsF_cons pairs okI ok_0 ok_1 ok_2
attribute [local simp] T3 T4 T5 T9 T22 T24 T33 T36 T38 T45 T48 T51 T52 T54 T56 T71 T72 T74 T77 T99 T104 T117 T121
def mkN (n : Int) (len : Nat) : List (Int × Int) := (List.range len).map fun i => (n + 2 * ((i : Nat) : Int), n + 2 * ((i : Nat) : Int) + 1)
theorem mkN_len (n : Int) (len : Nat) : (mkN n len).length = len := by simp [mkN]
def fillN (n : Int) (A : List (Int × Int)) (i : Nat) : List (Int × Int) := mkN n i ++ A.drop i
theorem fillN_get (n : Int) (A : List (Int × Int)) (i : Nat) (h : i < A.length) : (ndL (fillN n A i))[i]? = some (ndE A[i]) := by
  have : (fillN n A i)[i]? = some A[i] := by
    unfold fillN
    rw [List.getElem?_append_right (by rw [mkN_len]; exact Nat.le_refl _), mkN_len, Nat.sub_self, List.getElem?_drop, Nat.add_zero, List.getElem?_eq_getElem h]
  simp [ndL, this]
theorem fillN_set (n : Int) (A : List (Int × Int)) (i : Nat) (h : i < A.length) : (ndL (fillN n A i)).set i [.c (.int .i64 (n + 2 * (i : Int))), .c (.int .i64 (n + 2 * (i : Int) + 1))] = ndL (fillN n A (i + 1)) := by
  have e : (fillN n A i).set i (n + 2 * (i : Int), n + 2 * (i : Int) + 1) = fillN n A (i + 1) := by
    unfold fillN
    rw [List.set_append, if_neg (by rw [mkN_len]; omega), mkN_len, Nat.sub_self, List.drop_eq_getElem_cons h, List.set_cons_zero]
    have : mkN n (i + 1) = mkN n i ++ [(n + 2 * (i : Int), n + 2 * (i : Int) + 1)] := by simp [mkN, List.range_succ]
    rw [this, List.append_assoc]
    rfl
  rw [← e, ← ndL_set]
  rfl

end Go.Proofs.YtbjmfjfnilmhhaaGreatDoor.Eng
namespace Go.Proofs.YtbjmfjfnilmhhaaGreatDoor.Eng
open Go Go.Proofs
set_option maxRecDepth 100000
set_option maxHeartbeats 2000000
set_option linter.unusedSimpArgs false
set_option linter.unusedVariables false
attribute [local simp] finK fin1 hpOf xi renQ isRoot runCode runOps stepX inlOf Eng.step wantedV astep val ofO made loadV storeV find V.cells bin binT binA numT numFs eqCells un1 setAt fieldAddrV fieldV indexAddrV indexV bounds sliceV convV lenV foldV max2V min2V callO bor rdsO wrsO seen_none okD_none loops keepIds resV resultsV St.ev TK.agg refs refsL refsO V.one V.isC Value.oneCell' ren renL renO noTag noTagL noTagR noTagO nodup mapO passV frs psi refsR newD loopNext opsAt idx flatAt rootOf backR newsV appendV copyV clearV strV bytesV bldV bufV selfV bytesOf nilCmp buildV fillF chunk freeL frzW cellSame sameV
attribute [local simp] cT cF cX cWR cOW cK cBL X ints_length ints_get ints_getElem ints_drop ints_take ints_append ints_nil ints_set
attribute [local simp] ints_replicate
attribute [local simp] putV_some putV_none putH_app applyD_nil applyD_cons seen_app gc_ρ gc_H gc_tick st0_ρ st0_H st0_tick retV callRo callV_if borL_nil borL_cons ints_snoc take_self callWr cutH_app findQ afterV exportV_0 exportV_n okD_nil okD_cons sub_seq0 sub_seq1 sub_cond0 sub_cond1 sub_block sub_loop sub_nil young_far young_none hidW_nil mayW_nil keepsF_nil keepsF_cons pairs okI ok_0 ok_1 ok_2
attribute [local simp] T3 T4 T5 T9 T22 T24 T33 T36 T38 T45 T48 T51 T52 T54 T56 T71 T72 T74 T77 T99 T104 T117 T121
attribute [local simp] young_near clo cloF Region.binds Nat.testBit hidW declW mayW List.findIdx?_cons
theorem mkN_at (n : Int) (len i : Nat) (h : i < len) : (ndL (mkN n len))[i]? = some [V.c (.int .i64 (n + 2 * (i : Int))), V.c (.int .i64 (n + 2 * (i : Int) + 1))] := by
  simp [ndL, mkN, ndE, h]

end Go.Proofs.YtbjmfjfnilmhhaaGreatDoor.Eng
namespace Go.Proofs.YtbjmfjfnilmhhaaGreatDoor.Eng
open Go Go.Proofs
set_option maxRecDepth 100000
set_option maxHeartbeats 2000000
set_option linter.unusedSimpArgs false
set_option linter.unusedVariables false
attribute [local simp] finK fin1 hpOf xi renQ isRoot runCode runOps stepX inlOf Eng.step wantedV astep val ofO made loadV storeV find V.cells bin binT binA numT numFs eqCells un1 setAt fieldAddrV fieldV indexAddrV indexV bounds sliceV convV lenV foldV max2V min2V callO bor rdsO wrsO seen_none okD_none loops keepIds resV resultsV St.ev TK.agg refs refsL refsO V.one V.isC Value.oneCell' ren renL renO noTag noTagL noTagR noTagO nodup mapO passV frs psi refsR newD loopNext opsAt idx flatAt rootOf backR newsV appendV copyV clearV strV bytesV bldV bufV selfV bytesOf nilCmp buildV fillF chunk freeL frzW cellSame sameV
attribute [local simp] cT cF cX cWR cOW cK cBL X ints_length ints_get ints_getElem ints_drop ints_take ints_append ints_nil ints_set
attribute [local simp] ints_replicate
attribute [local simp] putV_some putV_none putH_app applyD_nil applyD_cons seen_app gc_ρ gc_H gc_tick st0_ρ st0_H st0_tick retV callRo callV_if borL_nil borL_cons ints_snoc take_self callWr cutH_app findQ afterV exportV_0 exportV_n okD_nil okD_cons sub_seq0 sub_seq1 sub_cond0 sub_cond1 sub_block sub_loop sub_nil young_far young_none hidW_nil mayW_nil keepsF_nil keepsF_cons pairs okI ok_0 ok_1 ok_2
attribute [local simp] T3 T4 T5 T9 T22 T24 T33 T36 T38 T45 T48 T51 T52 T54 T56 T71 T72 T74 T77 T99 T104 T117 T121
attribute [local simp] young_near clo cloF Region.binds Nat.testBit hidW declW mayW List.findIdx?_cons
theorem fAll_len : ∀ n l, goodE l = true → (fAll n l).length ≤ 15
  | 0, l, hg => by
    simp only [goodE, Bool.and_eq_true, decide_eq_true_eq] at hg
    exact hg.1
  | n + 1, l, hg => by
    unfold fAll
    split
    · simp only [goodE, Bool.and_eq_true, decide_eq_true_eq] at hg
      exact hg.1
    · rename_i i c v hs
      obtain ⟨hi, hv⟩ := srch_facts l.length (Nat.le_refl _) i c v hs
      exact fAll_len n _ (fo_good hg hi hv)

end Go.Proofs.YtbjmfjfnilmhhaaGreatDoor.Eng
namespace Go.Proofs.YtbjmfjfnilmhhaaGreatDoor.Eng
open Go Go.Proofs
set_option maxRecDepth 100000
set_option maxHeartbeats 2000000
set_option linter.unusedSimpArgs false
set_option linter.unusedVariables false
theorem fAll_good : ∀ n l, goodE l = true → goodE (fAll n l) = true ∧ (fAll n l).length ≤ l.length
  | 0, l, hg => ⟨hg, Nat.le_refl _⟩
  | n + 1, l, hg => by
    unfold fAll
    split
    · exact ⟨hg, Nat.le_refl _⟩
    · rename_i i c v hs
      obtain ⟨hi, hv⟩ := srch_facts l.length (Nat.le_refl _) i c v hs
      have hr : 0 ≤ runO l l.length := by
        simp only [goodE, Bool.and_eq_true, decide_eq_true_eq] at hg
        omega
      obtain ⟨_, _, f3, f4, _⟩ := fv_facts hr hi hv
      have hl := fo_len (v := v) hi f3
      obtain ⟨a, b⟩ := fAll_good n _ (fo_good hg hi hv)
      exact ⟨a, by omega⟩
theorem fAll_end : ∀ n l, goodE l = true → l.length ≤ n → srch (fAll n l) (fAll n l).length = none
  | 0, l, hg, h => by
    have : l = [] := List.eq_nil_of_length_eq_zero (by omega)
    subst this
    simp [goodE, runO] at hg
  | n + 1, l, hg, h => by
    unfold fAll
    split
    · assumption
    · rename_i i c v hs
      obtain ⟨hi, hv⟩ := srch_facts l.length (Nat.le_refl _) i c v hs
      have hr : 0 ≤ runO l l.length := by
        simp only [goodE, Bool.and_eq_true, decide_eq_true_eq] at hg
        omega
      obtain ⟨_, _, f3, f4, _⟩ := fv_facts hr hi hv
      have hl := fo_len (v := v) hi f3
      exact fAll_end n _ (fo_good hg hi hv) (by omega)
theorem fAll_idem {l : List (Int × Int)} (hg : goodE l = true) (m : Nat) : fAll m (fAll l.length l) = fAll l.length l := by
  cases m with
  | zero => rfl
  | succ m =>
    conv => lhs; unfold fAll
    rw [fAll_end l.length l hg (Nat.le_refl _)]
theorem evA_congr {w h : Int} {Fs : List Fd} {l m : List (Int × Int)} : ∀ n, (∀ i, i < n → l.getD i (0, 0) = m.getD i (0, 0)) → evA w h Fs l n = evA w h Fs m n
  | 0, _ => rfl
  | n + 1, hh => by
    rw [evA_succ, evA_succ, evA_congr n (fun i hi => hh i (by omega)), hh n (by omega)]
theorem evA_shift {w h : Int} {Fs : List Fd} {l m : List (Int × Int)} {i j : Nat} (h0 : evA w h Fs l i = evA w h Fs m j) : ∀ d, (∀ e, e < d → l.getD (i + e) (0, 0) = m.getD (j + e) (0, 0)) → evA w h Fs l (i + d) = evA w h Fs m (j + d)
  | 0, _ => h0
  | d + 1, hh => by
    have ih := evA_shift h0 d (fun e he => hh e (by omega))
    have := hh d (by omega)
    rw [show i + (d + 1) = (i + d) + 1 by omega, show j + (d + 1) = (j + d) + 1 by omega, evA_succ, evA_succ, ih, this]
theorem chg_rep (lim a : Int) (n : Nat) (ha : 0 ≤ a) : chgM (exG lim) (List.replicate n a) = List.replicate n (if a > lim then 1 else 0) := by
  unfold chgM
  rw [List.map_replicate, if_neg (by omega)]
  rfl
theorem zip_rep (f : Int → Int → Int) (a b : Int) (n : Nat) : List.zipWith f (List.replicate n a) (List.replicate n b) = List.replicate n (f a b) := by simp
theorem comb_rep {k a b : Int} (hk : 3 ≤ k) (hk' : k ≤ 6) (ha : 0 ≤ a) (hb : 0 ≤ b) (h0 : 0 ≤ opF k a b) (h1 : opF k a b ≤ 9000) : combG (k - 2) a b = opF k a b := by
  unfold combG opF at *
  rw [if_neg (by omega)]
  rcases (show k = 3 ∨ k = 4 ∨ k = 5 ∨ k = 6 by omega) with rfl | rfl | rfl | rfl
  · simp at h0 h1 ⊢
    unfold ckI
    rw [if_pos (by omega)]
  · simp at h0 h1 ⊢
    unfold ckI
    rw [if_pos (by omega)]
  · simp at h0 h1 ⊢
    split <;> split <;> omega
  · simp at h0 h1 ⊢
    split <;> split <;> omega
theorem ev_num {w h : Int} {Fs : List Fd} {l : List (Int × Int)} {i : Nat} (e : arI (l.getD i (0, 0)) = 0) (h2 : (l.getD i (0, 0)).1 = 2) : evA w h Fs l (i + 1) = (evA w h Fs l i).bind fun A => (some (List.replicate (w * h).toNat (l.getD i (0, 0)).2)).map fun z => A ++ [z] :=
  evA_leaf e _ fun A => by
    unfold valN
    rw [if_neg (by omega), if_pos h2]
theorem fo_getD {l : List (Int × Int)} {i c : Nat} {v : Int} (hi : i < l.length) (hc : c ≤ i) : (∀ q, q < i - c → (fo l i c v).getD q (0, 0) = l.getD q (0, 0)) ∧ (fo l i c v).getD (i - c) (0, 0) = (2, v) ∧ ∀ d, (fo l i c v).getD (i - c + 1 + d) (0, 0) = l.getD (i + 1 + d) (0, 0) := by
  have hl : (l.take (i - c)).length = i - c := by rw [List.length_take]; omega
  unfold fo
  refine ⟨fun q hq => ?_, ?_, fun d => ?_⟩
  · rw [List.getD_eq_getElem?_getD, List.getElem?_append_left (by omega), List.getElem?_take_of_lt hq, ← List.getD_eq_getElem?_getD]
  · rw [List.getD_eq_getElem?_getD, List.getElem?_append_right (by omega), hl, Nat.sub_self]
    rfl
  · rw [List.getD_eq_getElem?_getD, List.getElem?_append_right (by omega), hl, show i - c + 1 + d - (i - c) = d + 1 by omega, List.getElem?_cons_succ, List.getElem?_drop, ← List.getD_eq_getElem?_getD]
/-- Folding a node does not change the value. -/
theorem ev_fo {w h : Int} {Fs : List Fd} {l : List (Int × Int)} (hs : shapeB w h = true) (hg : 0 ≤ runO l l.length) {i c : Nat} {v : Int} (hi : i < l.length) (hv : fv l i = some (c, v)) : evA w h Fs (fo l i c v) (fo l i c v).length = evA w h Fs l l.length := by
  obtain ⟨f1, f2, f3, f4, f5, f6, f7⟩ := fv_facts hg hi hv
  obtain ⟨g1, g2, g3⟩ := fo_getD (v := v) hi f3
  have hpre : evA w h Fs (fo l i c v) (i - c) = evA w h Fs l (i - c) := evA_congr (i - c) g1
  have hnew : evA w h Fs (fo l i c v) (i - c + 1) = (evA w h Fs l (i - c)).bind fun A => (some (List.replicate (w * h).toNat v)).map fun z => A ++ [z] := by
    rw [← hpre]
    have := ev_num (w := w) (h := h) (Fs := Fs) (l := fo l i c v) (i := i - c) (by rw [g2]; unfold arI; rw [if_pos (.inr ⟨rfl, f6, f7⟩)]) (by rw [g2])
    rw [this, g2]
  have hold : evA w h Fs l (i + 1) = (evA w h Fs l (i - c)).bind fun A => (some (List.replicate (w * h).toNat v)).map fun z => A ++ [z] := by
    have hv0 := hv
    unfold fv at hv
    split at hv
    · rename_i hk
      split at hv
      · rename_i hn
        simp only [Option.some.injEq, Prod.mk.injEq] at hv
        obtain ⟨rfl, rfl⟩ := hv
        obtain ⟨j, rfl⟩ : ∃ j, i = j + 1 := ⟨i - 1, by omega⟩
        rw [show j + 1 - 1 = j by omega] at *
        have hrn := runAt hg j (by omega)
        obtain ⟨a0, a1, a2⟩ := ar_num hrn.2.1 hn
        have e1 := ev_num (w := w) (h := h) (Fs := Fs) a0 hn
        have e2 := evA_one (by simpa using f1) e1
        rw [e2]
        congr 1
        funext A
        simp only [Option.map_some]
        rw [chg_rep _ _ _ a1]
      · cases hv
    · split at hv
      · rename_i hk
        split at hv
        · rename_i hn
          obtain ⟨n1, n2, n3, n4⟩ := hn
          simp only [Option.some.injEq, Prod.mk.injEq] at hv
          obtain ⟨rfl, rfl⟩ := hv
          obtain ⟨j, rfl⟩ : ∃ j, i = j + 2 := ⟨i - 2, by omega⟩
          rw [show j + 2 - 2 = j by omega] at *
          rw [show j + 2 - 1 = j + 1 by omega] at *
          have hr1 := runAt hg j (by omega)
          have hr2 := runAt hg (j + 1) (by omega)
          obtain ⟨a0, a1, a2⟩ := ar_num hr1.2.1 n1
          obtain ⟨b0, b1, b2⟩ := ar_num hr2.2.1 n2
          have e1 := ev_num (w := w) (h := h) (Fs := Fs) a0 n1
          have e2 := ev_num (w := w) (h := h) (Fs := Fs) b0 n2
          have e3 := evA_two (by simpa using f1) e2 e1
          rw [show j + 2 + 1 = (j + 1 + 1) + 1 by omega, e3]
          congr 1
          funext A
          simp only [Option.bind_some]
          rw [zip_rep, comb_rep hk.1 hk.2 a1 b1 n3 n4, if_pos (good_repl hs n3 n4)]
        · cases hv
      · cases hv
  have hlen := fo_len (v := v) hi f3
  have hsh := evA_shift (w := w) (h := h) (Fs := Fs) (l := fo l i c v) (m := l) (i := i - c + 1) (j := i + 1) (by rw [hnew, hold]) (l.length - (i + 1)) (fun e _ => g3 e)
  rw [hlen, show l.length - c = i - c + 1 + (l.length - (i + 1)) by omega, hsh, show i + 1 + (l.length - (i + 1)) = l.length by omega]
theorem ev_fAll {w h : Int} {Fs : List Fd} (hs : shapeB w h = true) : ∀ n l, goodE l = true → evA w h Fs (fAll n l) (fAll n l).length = evA w h Fs l l.length
  | 0, l, hg => rfl
  | n + 1, l, hg => by
    unfold fAll
    split
    · rfl
    · rename_i i c v hsr
      obtain ⟨hi, hv⟩ := srch_facts l.length (Nat.le_refl _) i c v hsr
      have hr : 0 ≤ runO l l.length := by
        simp only [goodE, Bool.and_eq_true, decide_eq_true_eq] at hg
        omega
      rw [ev_fAll hs n _ (fo_good hg hi hv), ev_fo hs hr hi hv]
/-- The value of an expression whose numbers are folded. -/
theorem evR_fold {l : List (Int × Int)} (p : List Fd) (hg : goodE l = true) : evR (fAll l.length l) p = evR l p := by
  obtain ⟨g1, _⟩ := fAll_good l.length l hg
  unfold evR
  rw [g1, hg]
  cases ha : alikeF p
  · rfl
  · cases p with
    | nil => cases ha
    | cons q0 r =>
      unfold alikeF at ha
      simp only [Bool.and_eq_true, decide_eq_true_eq] at ha
      have h0 := List.all_eq_true.1 ha.1 q0 (by simp)
      unfold likeB at h0
      simp only [Bool.and_eq_true] at h0
      have hs : shapeB (evW (q0 :: r)) (evH (q0 :: r)) = true := good_shape h0.1
      unfold evV
      rw [ev_fAll hs l.length l hg]

end Go.Proofs.YtbjmfjfnilmhhaaGreatDoor.Eng
namespace Go.Proofs.YtbjmfjfnilmhhaaGreatDoor.Eng
open Go Go.Proofs
set_option maxRecDepth 100000
set_option maxHeartbeats 2000000
set_option linter.unusedSimpArgs false
set_option linter.unusedVariables false
attribute [local simp] finK fin1 hpOf xi renQ isRoot runCode runOps stepX inlOf Eng.step wantedV astep val ofO made loadV storeV find V.cells bin binT binA numT numFs eqCells un1 setAt fieldAddrV fieldV indexAddrV indexV bounds sliceV convV lenV foldV max2V min2V callO bor rdsO wrsO seen_none okD_none loops keepIds resV resultsV St.ev TK.agg refs refsL refsO V.one V.isC Value.oneCell' ren renL renO noTag noTagL noTagR noTagO nodup mapO passV frs psi refsR newD loopNext opsAt idx flatAt rootOf backR newsV appendV copyV clearV strV bytesV bldV bufV selfV bytesOf nilCmp buildV fillF chunk freeL frzW cellSame sameV
attribute [local simp] cT cF cX cWR cOW cK cBL X ints_length ints_get ints_getElem ints_drop ints_take ints_append ints_nil ints_set
attribute [local simp] ints_replicate
attribute [local simp] putV_some putV_none putH_app applyD_nil applyD_cons seen_app gc_ρ gc_H gc_tick st0_ρ st0_H st0_tick retV callRo callV_if borL_nil borL_cons ints_snoc take_self callWr cutH_app findQ afterV exportV_0 exportV_n okD_nil okD_cons sub_seq0 sub_seq1 sub_cond0 sub_cond1 sub_block sub_loop sub_nil young_far young_none hidW_nil mayW_nil keepsF_nil keepsF_cons pairs okI ok_0 ok_1 ok_2
attribute [local simp] T3 T4 T5 T9 T22 T24 T33 T36 T38 T45 T48 T51 T52 T54 T56 T71 T72 T74 T77 T99 T104 T117 T121
attribute [local simp] young_near clo cloF Region.binds Nat.testBit hidW declW mayW
theorem ints_cons (a : Int) (l : List Int) : ints (a :: l) = [.c (.int .i64 a)] :: ints l := rfl
theorem ints_0 : ints [] = [] := rfl
theorem ok_cons (ty : TypeId) (sz : Nat) (fl : Bool) (e : List V) (es : List (List V)) : okObj ⟨ty, sz, fl, e :: es⟩ = ((e.length == sz && e.all fun x => x.one && (!fl || x.isC)) && okObj ⟨ty, sz, fl, es⟩) := by simp [okObj]
def u8s (l : List Int) : List (List V) := l.map fun n => [.c (.int .u8 n)]
theorem u8s_length (l : List Int) : (u8s l).length = l.length := by simp [u8s]
theorem u8s_get (l : List Int) (i : Nat) (h : i < l.length) : (u8s l)[i]? = some [.c (.int .u8 l[i])] := by simp [u8s, h]
theorem u8s_getElem (l : List Int) (i : Nat) (h : i < (u8s l).length) : (u8s l)[i] = [.c (.int .u8 (l[i]'(by simpa [u8s] using h)))] := by simp [u8s]
/-- A row of choices that is read. -/
structure Cur where
  l : List Int
  n : Nat
  seed : Int
def curE (c : Cur) : List V := [.sq false true 1 (u8s c.l), .c (.int .i64 (c.n : Int)), .c (.int .u64 c.seed)]
def curO (c : Cur) : Eng.Obj := ⟨54, 3, false, [curE c]⟩
structure Cur.P (c : Cur) (m : Nat) : Prop where
  by8 : ∀ x ∈ c.l, 0 ≤ x ∧ x ≤ 255
  len : c.l.length ≤ maxLen
  le : c.n ≤ m
theorem and255 (x : Int) : ∃ r : Int, IntKind.u64.wrap (((BitVec.ofInt IntKind.u64.bits x &&& BitVec.ofInt IntKind.u64.bits 255).toNat : Nat) : Int) = r ∧ 0 ≤ r ∧ r ≤ 255 := by
  refine ⟨_, rfl, ?_⟩
  have h : (BitVec.ofInt IntKind.u64.bits x &&& BitVec.ofInt IntKind.u64.bits 255).toNat ≤ 255 := by
    rw [BitVec.toNat_and]
    have : (BitVec.ofInt IntKind.u64.bits 255).toNat = 255 := rfl
    rw [this]
    exact Nat.and_le_right
  have h2 : IntKind.u64.wrap (((BitVec.ofInt IntKind.u64.bits x &&& BitVec.ofInt IntKind.u64.bits 255).toNat : Nat) : Int) = (((BitVec.ofInt IntKind.u64.bits x &&& BitVec.ofInt IntKind.u64.bits 255).toNat : Nat) : Int) := by
    show (((BitVec.ofInt IntKind.u64.bits x &&& BitVec.ofInt IntKind.u64.bits 255).toNat : Nat) : Int) % 18446744073709551616 = _
    omega
  rw [h2]
  omega
theorem c_next (k : Nat) (c : Cur) (m : Nat) (h : c.P m) (hm : m ≤ 1000000000000) (hk : 1 ≤ k) : ∃ (r : Int) (c' : Cur), callK C k 76 [.p 0 0 3 0 0] [curO c] = some (.c (.int .i64 r), hpOf [some (curO c')] []) ∧ 0 ≤ r ∧ r ≤ 255 ∧ c'.P (m + 1) := by
  obtain ⟨k, rfl⟩ : ∃ m, k = m + 1 := ⟨k - 1, by omega⟩
  rw [callK_fn rfl F76 code76]
  obtain ⟨hb, hl, hle⟩ := h
  unfold maxLen at hl
  have hw : IntKind.i64.wrap ((c.n : Int) + 1) = (c.n : Int) + 1 := wrap_small (by omega) (by omega)
  by_cases hlt : c.n < c.l.length
  · have hg := u8s_get c.l c.n hlt
    have hr := hb c.l[c.n] (by simp)
    have hle : c.n + 1 ≤ c.l.length := by omega
    have hle' : (c.n : Int) + 1 ≤ (c.l.length : Int) := by omega
    have hw2 : IntKind.i64.wrap c.l[c.n] = c.l[c.n] := wrap_small (by omega) (by omega)
    refine ⟨c.l[c.n], ⟨c.l, c.n + 1, IntKind.u64.wrap (IntKind.u64.wrap (IntKind.u64.wrap (c.seed * 6364136223846793005) + IntKind.u64.wrap c.l[c.n]) + 889889)⟩, ?_, hr.1, hr.2, ⟨hb, by unfold maxLen; exact hl, by simp; omega⟩⟩
    simp [R76_0, R76_1, R76_2, R76_3, R76_4, R76_5, R76_6, R76_7, R76_8, Tryz.f76, curO, curE, u8s_length, u8s_getElem, hlt, hg, hw, hw2, hle']
  · have hnle : ¬ (c.n : Int) + 1 ≤ (c.l.length : Int) := by omega
    have hnlt : ¬ (c.n : Int) < (c.l.length : Int) := by omega
    obtain ⟨r, hr, hr1, hr2⟩ := and255 ((IntKind.u64.wrap (IntKind.u64.wrap (IntKind.u64.wrap (c.seed * 6364136223846793005) + IntKind.u64.wrap 0) + 889889)).fdiv (2 ^ min 40 IntKind.u64.bits))
    simp at hr
    have hwr : IntKind.i64.wrap r = r := wrap_small (by omega) (by omega)
    refine ⟨r, ⟨c.l, c.n + 1, IntKind.u64.wrap (IntKind.u64.wrap (IntKind.u64.wrap (c.seed * 6364136223846793005) + IntKind.u64.wrap 0) + 889889)⟩, ?_, hr1, hr2, ⟨hb, by unfold maxLen; exact hl, by simp; omega⟩⟩
    simp [R76_0, R76_1, R76_2, R76_3, R76_4, R76_5, R76_6, R76_7, R76_8, Tryz.f76, curO, curE, u8s_length, hlt, hnlt, hw, hnle, hr, hwr]
theorem c_pick (k : Nat) (c : Cur) (m : Nat) (n : Int) (h : c.P m) (hm : m ≤ 1000000000) (hn : n ≤ 1000000000) (hk : 2 ≤ k) : ∃ (r : Int) (c' : Cur), callK C k 48 [.p 0 0 3 0 0, .c (.int .i64 n)] [curO c] = some (.c (.int .i64 r), hpOf [some (curO c')] []) ∧ 0 ≤ r ∧ (r < n ∨ (r = 0 ∧ n ≤ 1)) ∧ c'.P (m + 2) := by
  obtain ⟨k, rfl⟩ : ∃ m, k = m + 1 := ⟨k - 1, by omega⟩
  rw [callK_fn rfl F48 code48]
  by_cases h1 : n ≤ 1
  · refine ⟨0, c, ?_, by omega, .inr ⟨rfl, h1⟩, ⟨h.by8, h.len, by have := h.le; omega⟩⟩
    simp [R48_0, R48_1, R48_2, R48_3, R48_4, R48_5, R48_6, Tryz.f48, curO, curE, h1]
  · obtain ⟨r1, c1, e1, r1a, r1b, p1⟩ := c_next k c m h (by omega) (by omega)
    obtain ⟨r2, c2, e2, r2a, r2b, p2⟩ := c_next k c1 (m + 1) p1 (by omega) (by omega)
    simp [curO, curE] at e1 e2
    by_cases h2 : n > 200
    · have hw1 : IntKind.i64.wrap (r1 * 256) = r1 * 256 := wrap_small (by omega) (by omega)
      have hw2 : IntKind.i64.wrap (r1 * 256 + r2) = r1 * 256 + r2 := wrap_small (by omega) (by omega)
      have hm1 := Int.tmod_nonneg n (by omega : 0 ≤ r1 * 256 + r2)
      have hm2 := Int.tmod_lt_of_pos (r1 * 256 + r2) (by omega : 0 < n)
      have hn0 : ¬ n = 0 := by omega
      refine ⟨(r1 * 256 + r2).tmod n, c2, ?_, hm1, .inl hm2, p2⟩
      simp [R48_0, R48_1, R48_2, R48_3, R48_4, R48_5, R48_6, Tryz.f48, curO, curE, h1, h2, e1, e2, hw1, hw2, hn0]
    · have hm1 := Int.tmod_nonneg n r1a
      have hm2 := Int.tmod_lt_of_pos r1 (by omega : 0 < n)
      have hn0 : ¬ n = 0 := by omega
      refine ⟨r1.tmod n, c1, ?_, hm1, .inl hm2, ⟨p1.by8, p1.len, by have := p1.le; omega⟩⟩
      simp [R48_0, R48_1, R48_2, R48_3, R48_4, R48_5, R48_6, Tryz.f48, curO, curE, h1, h2, e1, hn0]
theorem c_one (k : Nat) (c : Cur) (m : Nat) (n : Int) (h : c.P m) (hm : m ≤ 1000000000) (hn : n ≤ 1000000000) (hk : 3 ≤ k) : ∃ (r : Bool) (c' : Cur), callK C k 26 [.p 0 0 3 0 0, .c (.int .i64 n)] [curO c] = some (.c (.bool r), hpOf [some (curO c')] []) ∧ c'.P (m + 2) := by
  obtain ⟨k, rfl⟩ : ∃ m, k = m + 1 := ⟨k - 1, by omega⟩
  rw [callK_fn rfl F26 code26]
  obtain ⟨r1, c1, e1, r1a, r1b, p1⟩ := c_pick k c m n h (by omega) (by omega) (by omega)
  simp [curO, curE] at e1
  refine ⟨r1 == 0, c1, ?_, p1⟩
  simp [R26_0, R26_1, Tryz.f26, curO, curE, e1]
theorem c_among (k : Nat) (c : Cur) (m : Nat) (b : Bool) (l : List Int) (h : c.P m) (hm : m ≤ 1000000000) (h0 : 0 < l.length) (hl : l.length ≤ 1000000000) (hk : 3 ≤ k) : ∃ (i : Nat) (hi : i < l.length) (c' : Cur), callK C k 49 [.p 0 0 3 0 0, .sq b true 1 (ints l)] [curO c] = some (.c (.int .i64 l[i]), hpOf [some (curO c')] []) ∧ c'.P (m + 2) := by
  obtain ⟨k, rfl⟩ : ∃ m, k = m + 1 := ⟨k - 1, by omega⟩
  rw [callK_fn rfl F49 code49]
  obtain ⟨r1, c1, e1, r1a, r1b, p1⟩ := c_pick k c m l.length h (by omega) (by omega) (by omega)
  have hlt : r1 < l.length := by omega
  obtain ⟨i, rfl⟩ : ∃ i : Nat, r1 = i := ⟨r1.toNat, by omega⟩
  have hi : i < l.length := by omega
  simp [curO, curE] at e1
  refine ⟨i, hi, c1, ?_, p1⟩
  simp [R49_0, R49_1, Tryz.f49, curO, curE, e1, hi]

end Go.Proofs.YtbjmfjfnilmhhaaGreatDoor.Eng
namespace Go.Proofs.YtbjmfjfnilmhhaaGreatDoor.Eng
open Go Go.Proofs
set_option maxRecDepth 100000
set_option maxHeartbeats 2000000
set_option linter.unusedSimpArgs false
set_option linter.unusedVariables false
attribute [local simp] finK fin1 hpOf xi renQ isRoot runCode runOps stepX inlOf Eng.step wantedV astep val ofO made loadV storeV find V.cells bin binT binA numT numFs eqCells un1 setAt fieldAddrV fieldV indexAddrV indexV bounds sliceV convV lenV foldV max2V min2V callO bor rdsO wrsO seen_none okD_none loops keepIds resV resultsV St.ev TK.agg refs refsL refsO V.one V.isC Value.oneCell' ren renL renO noTag noTagL noTagR noTagO nodup mapO passV frs psi refsR newD loopNext opsAt idx flatAt rootOf backR newsV appendV copyV clearV strV bytesV bldV bufV selfV bytesOf nilCmp buildV fillF chunk freeL frzW cellSame sameV
attribute [local simp] cT cF cX cWR cOW cK cBL X ints_length ints_get ints_getElem ints_drop ints_take ints_append ints_nil ints_set
attribute [local simp] ints_replicate
attribute [local simp] putV_some putV_none putH_app applyD_nil applyD_cons seen_app gc_ρ gc_H gc_tick st0_ρ st0_H st0_tick retV callRo callV_if borL_nil borL_cons ints_snoc take_self callWr cutH_app findQ afterV exportV_0 exportV_n okD_nil okD_cons sub_seq0 sub_seq1 sub_cond0 sub_cond1 sub_block sub_loop sub_nil young_far young_none hidW_nil mayW_nil keepsF_nil keepsF_cons pairs okI ok_0 ok_1 ok_2
attribute [local simp] T3 T4 T5 T9 T22 T24 T33 T36 T38 T45 T48 T51 T52 T54 T56 T71 T72 T74 T77 T99 T104 T117 T121
attribute [local simp] young_near clo cloF Region.binds Nat.testBit hidW declW mayW
theorem ints_map (l : List Int) : (l.map fun n => [V.c (.int .i64 n)]) = ints l := rfl
def FdX (m : Nat) (w h' : Int) (i : Nat) (st : St) : Prop := ∃ (c' : Cur) (cv : V) (l : List Int), c'.P (m + 10 + 4 * i) ∧ l.length = i ∧ st.H 0 = some (0, curO c') ∧ st.H 1152 = some (2, ⟨38, 3, false, [[.c (.int .i64 w), .c (.int .i64 h'), cv]]⟩) ∧ Gw 9304 cv st.H l
theorem c_field (k : Nat) (c : Cur) (m : Nat) (h : c.P m) (hm : m ≤ 100000000) (hk : 300 ≤ k) : ∃ (w h' : Int) (l : List Int) (c' : Cur), callK C k 50 [.p 0 0 3 0 0] [curO c] = some (.ag [.c (.int .i64 w), .c (.int .i64 h'), .s 1 2 1 0 l.length], hpOf [some (curO c')] [intsO l]) ∧ 0 < l.length ∧ l.length ≤ 64 ∧ c'.P (m + 200) := by
  obtain ⟨k, rfl⟩ : ∃ m, k = m + 9 := ⟨k - 9, by omega⟩
  rw [callK_fn rfl F50 code50]
  obtain ⟨r1, c1, e1, r1a, r1b, p1⟩ := c_pick (k + 8) c m 5 h (by omega) (by omega) (by omega)
  obtain ⟨r2, c2, e2, r2a, r2b, p2⟩ := c_pick (k + 8) c1 (m + 2) 5 p1 (by omega) (by omega) (by omega)
  obtain ⟨i3, hi3, c3, e3, p3⟩ := c_among (k + 8) c2 (m + 2 + 2) true [0, 10, 100, -50] p2 (by omega) (by simp) (by simp) (by omega)
  obtain ⟨base, hb⟩ : ∃ b, [(0 : Int), 10, 100, -50][i3] = b := ⟨_, rfl⟩
  rw [hb] at e3
  have hw1 : IntKind.i64.wrap (1 + r1) = 1 + r1 := wrap_small (by omega) (by omega)
  have hw2 : IntKind.i64.wrap (1 + r2) = 1 + r2 := wrap_small (by omega) (by omega)
  obtain ⟨w, hw⟩ : ∃ w, 1 + r1 = w := ⟨_, rfl⟩
  obtain ⟨h', hh⟩ : ∃ h', 1 + r2 = h' := ⟨_, rfl⟩
  rw [hw] at hw1
  rw [hh] at hw2
  have hw0 : 1 ≤ w := by omega
  have hw5 : w ≤ 5 := by omega
  have hh0 : 1 ≤ h' := by omega
  have hh5 : h' ≤ 5 := by omega
  obtain ⟨n, hn⟩ : ∃ n : Nat, w * h' = n := ⟨(w * h').toNat, by have := Int.mul_nonneg (by omega : 0 ≤ w) (by omega : 0 ≤ h'); omega⟩
  have hn0 : 0 < n := by have : 1 * 1 ≤ w * h' := Int.mul_le_mul hw0 hh0 (by omega) (by omega); omega
  have hn25 : n ≤ 25 := by have : w * h' ≤ 5 * 5 := Int.mul_le_mul hw5 hh5 (by omega) (by omega); omega
  have hwn : IntKind.i64.wrap (w * h') = n := by rw [hn]; exact wrap_small (by omega) (by omega)
  simp [curO, curE] at e1 e2
  simp [curO, curE, ints] at e3
  have hL := loopHas (body := fun st => runCode C (callK C (k + 8)) (k + 8) (K 50) L50_0 1 st) (keep := [0, 2, 3, 4, 5]) (.ex 0)
    (fun st => st.H 11408 = none ∧ st.ρ 0 = .p 0 0 3 0 0 ∧ st.ρ 2 = .p 16 1 3 0 0 ∧ st.ρ 3 = .p 1152 2 3 0 0 ∧ st.H 16 = some (1, ⟨38, 3, false, [[.c (.int .i64 0), .c (.int .i64 0), .c (.slice none 0 0)]]⟩) ∧ FdX m w h' n st)
    (fun i st => st.ρ 0 = .p 0 0 3 0 0 ∧ st.ρ 2 = .p 16 1 3 0 0 ∧ st.ρ 3 = .p 1152 2 3 0 0 ∧ st.ρ 4 = .c (.int .i64 base) ∧ st.ρ 5 = .c (.int .i64 (i : Int)) ∧ st.H 16 = some (1, ⟨38, 3, false, [[.c (.int .i64 0), .c (.int .i64 0), .c (.slice none 0 0)]]⟩) ∧ FdX m w h' i st)
    n (k + 8) (by omega)
    (by
      rintro i st next hi ⟨q0, q2, q3, q4, q5, H16, c', cv, l, pc, hl, H0, H1, hc⟩ hx
      have hwi := wrap_next hi (by omega : n ≤ 9000000000000000000)
      obtain ⟨s1, d1, f1, s1a, s1b, g1⟩ := c_pick (k + 8) c' (m + 10 + 4 * i) 40 pc (by omega) (by omega) (by omega)
      obtain ⟨s2, d2, f2, g2⟩ := c_one (k + 8) d1 (m + 10 + 4 * i + 2) 12 g1 (by omega) (by omega) (by omega)
      simp [curO, curE] at f1 f2 H0
      obtain ⟨v, hv⟩ : ∃ v, (if s2 = true then -9999 else IntKind.i64.wrap (base + s1)) = v := ⟨_, rfl⟩
      have g3 : d2.P (m + 10 + 4 * (i + 1)) := ⟨g2.by8, g2.len, by have := g2.le; omega⟩
      rcases hc with ⟨ha, rfl⟩ | ⟨ha, tk, rfl, hH⟩
      · subst ha
        simp at hl
        subst hl
        cases s2
        · simp at hv
          simp [L50_0, R50_0, R50_1, R50_2, R50_3, R50_4, R50_5, R50_6, R50_7, R50_8, R50_9, R50_10, R50_11, R50_12, R50_13, R50_14, Tryz.f50, lpL50_0, lpM50_0, M50_0, q0, q2, q3, q4, q5, H16, H0, H1, hwn, hi, hwi, f1, f2, maxLen]
          refine hx _ ⟨?_, ?_, ?_, ?_, ?_, ?_, d2, .s 9304 (st.tick + 1 + 1 + 1) 1 0 (1), [v], g3, by simp, ?_, ?_, .inr ⟨by simp, st.tick + 1 + 1 + 1, ?_, ?_⟩⟩ <;> simp [q0, q2, q3, q4, q5, H16, H1, intsO, ints, curO, curE, hv, wrap_1]
        · simp at hv
          simp [L50_0, R50_0, R50_1, R50_2, R50_3, R50_4, R50_5, R50_6, R50_7, R50_8, R50_9, R50_10, R50_11, R50_12, R50_13, R50_14, Tryz.f50, lpL50_0, lpM50_0, M50_0, q0, q2, q3, q4, q5, H16, H0, H1, hwn, hi, hwi, f1, f2, maxLen]
          refine hx _ ⟨?_, ?_, ?_, ?_, ?_, ?_, d2, .s 9304 (st.tick + 1 + 1 + 1 + 1) 1 0 (1), [v], g3, by simp, ?_, ?_, .inr ⟨by simp, st.tick + 1 + 1 + 1 + 1, ?_, ?_⟩⟩ <;> simp [q0, q2, q3, q4, q5, H16, H1, intsO, ints, curO, curE, hv, wrap_1]
      · have hb1 : (l.length + 1) * 8 ≤ 140737488355328 := by omega
        have hb2 : l.length + 1 ≤ maxLen := by unfold maxLen; omega
        simp [intsO] at hH
        cases s2
        · simp at hv
          simp [L50_0, R50_0, R50_1, R50_2, R50_3, R50_4, R50_5, R50_6, R50_7, R50_8, R50_9, R50_10, R50_11, R50_12, R50_13, R50_14, Tryz.f50, lpL50_0, lpM50_0, M50_0, q0, q2, q3, q4, q5, H16, H0, H1, hH, hwn, hi, hwi, f1, f2, hb1, hb2, okI]
          refine hx _ ⟨?_, ?_, ?_, ?_, ?_, ?_, d2, .s 9304 (st.tick + 1 + 1 + 1) 1 0 (l.length + 1), l ++ [v], g3, by simp [hl], ?_, ?_, .inr ⟨by simp, st.tick + 1 + 1 + 1, ?_, ?_⟩⟩ <;> simp [q0, q2, q3, q4, q5, H16, H1, intsO, curO, curE, hv, wrap_1]
        · simp at hv
          simp [L50_0, R50_0, R50_1, R50_2, R50_3, R50_4, R50_5, R50_6, R50_7, R50_8, R50_9, R50_10, R50_11, R50_12, R50_13, R50_14, Tryz.f50, lpL50_0, lpM50_0, M50_0, q0, q2, q3, q4, q5, H16, H0, H1, hH, hwn, hi, hwi, f1, f2, hb1, hb2, okI]
          refine hx _ ⟨?_, ?_, ?_, ?_, ?_, ?_, d2, .s 9304 (st.tick + 1 + 1 + 1 + 1) 1 0 (l.length + 1), l ++ [v], g3, by simp [hl], ?_, ?_, .inr ⟨by simp, st.tick + 1 + 1 + 1 + 1, ?_, ?_⟩⟩ <;> simp [q0, q2, q3, q4, q5, H16, H1, intsO, curO, curE, hv, wrap_1])
    (by
      rintro st next ⟨q0, q2, q3, q4, q5, H16, c', cv, l, pc, hl, H0, H1, hc⟩
      rcases hc with ⟨ha, rfl⟩ | ⟨ha, tk, rfl, hH⟩
      · subst ha
        simp at hl
        omega
      · simp [curO, curE] at H0
        simp [intsO] at hH
        simp [L50_0, R50_0, R50_1, R50_2, R50_3, R50_4, R50_5, R50_6, R50_7, R50_8, R50_9, R50_10, R50_11, R50_12, R50_13, R50_14, Tryz.f50, lpL50_0, lpM50_0, M50_0, q0, q2, q3, q4, q5, H16, H0, H1, hH, hwn]
        exact ⟨c', .s 9304 tk 1 0 l.length, l, pc, hl, by simp [curO, curE, q0, q2, q3, q4, q5, H16, H0, H1, hH], by simp [q0, q2, q3, q4, q5, H16, H0, H1, hH], .inr ⟨ha, tk, rfl, by simp [intsO, q0, q2, q3, q4, q5, H16, H0, H1, hH]⟩⟩)
  simp [R50_0, R50_1, R50_2, R50_3, R50_4, R50_5, R50_6, R50_7, R50_8, R50_9, R50_10, R50_11, R50_12, R50_13, R50_14, Tryz.f50, lpL50_0, lpM50_0, ints_cons, ints_0, ok_cons, curO, curE, e1, e2, e3, hw1, hw2, hw, hh]
  generalize hr2 : loopRun _ _ _ _ = res
  obtain ⟨s1, rfl, Hn, f0, f2, f3, H16, c4, cv, l, p4, hl, H0, H1, hc⟩ := loop_at hL hr2 ⟨by simp, by simp, by simp, by simp, by simp, by simp, c3, .c (.slice none 0 0), [], ⟨p3.by8, p3.len, by have := p3.le; omega⟩, rfl, by simp [curO, curE], by simp, .inl ⟨rfl, rfl⟩⟩
  rcases hc with ⟨ha, rfl⟩ | ⟨ha, tk, rfl, hH⟩
  · subst ha
    simp at hl
    omega
  have hl0 : 0 < l.length := by omega
  obtain ⟨b5, c5, e5, p5⟩ := c_one (k + 8) c4 (m + 10 + 4 * n) 10 p4 (by omega) (by omega) (by omega)
  obtain ⟨r6, c6, e6, r6a, r6b, p6⟩ := c_pick (k + 8) c5 (m + 10 + 4 * n + 2) l.length p5 (by omega) (by omega) (by omega)
  obtain ⟨i7, hi7, c7, e7, p7⟩ := c_among (k + 8) c6 (m + 10 + 4 * n + 2 + 2) true [9000, -9000, 0] p6 (by omega) (by simp) (by simp) (by omega)
  obtain ⟨v7, hv7⟩ : ∃ b, [(9000 : Int), -9000, 0][i7] = b := ⟨_, rfl⟩
  rw [hv7] at e7
  obtain ⟨j, rfl⟩ : ∃ j : Nat, r6 = j := ⟨r6.toNat, by omega⟩
  have hj : j < l.length := by omega
  obtain ⟨b8, c8, e8, p8⟩ := c_one (k + 8) c7 (m + 10 + 4 * n + 2 + 2 + 2) 24 p7 (by omega) (by omega) (by omega)
  obtain ⟨b9, c9, e9, p9⟩ := c_one (k + 8) c5 (m + 10 + 4 * n + 2) 24 p5 (by omega) (by omega) (by omega)
  have e10 := c_l2Fill (k + 8) 8 8 3 64 (by rfl) (by omega) (by omega) (by omega)
  simp [curO, curE] at e5 e6 e8 e9 H0
  simp [curO, curE, ints] at e7
  simp [intsO] at hH e10
  have lv : ∀ (c : Cur) (q : Nat), c.P q → q ≤ m + 200 → c.P (m + 200) := fun c q h hq => ⟨h.by8, h.len, by have := h.le; omega⟩
  cases b5
  · cases b9
    · refine ⟨w, h', l, c9, ?_, by omega, by omega, lv _ _ p9 (by omega)⟩
      simp [R50_0, R50_1, R50_2, R50_3, R50_4, R50_5, R50_6, R50_7, R50_8, R50_9, R50_10, R50_11, R50_12, R50_13, R50_14, Tryz.f50, lpL50_0, lpM50_0, M50_0, ints_cons, ints_0, ok_cons, Hn, f0, f2, f3, H16, H0, H1, hH, e5, e9, curO, curE, intsO]
    · refine ⟨8, 8, List.replicate 64 3, c9, ?_, by simp, by simp, lv _ _ p9 (by omega)⟩
      simp [R50_0, R50_1, R50_2, R50_3, R50_4, R50_5, R50_6, R50_7, R50_8, R50_9, R50_10, R50_11, R50_12, R50_13, R50_14, Tryz.f50, lpL50_0, lpM50_0, M50_0, ints_cons, ints_0, ok_cons, Hn, f0, f2, f3, H16, H0, H1, hH, e5, e9, e10, curO, curE, intsO]
  · cases b8
    · refine ⟨w, h', l.set j v7, c8, ?_, by simp; omega, by simp; omega, lv _ _ p8 (by omega)⟩
      simp [R50_0, R50_1, R50_2, R50_3, R50_4, R50_5, R50_6, R50_7, R50_8, R50_9, R50_10, R50_11, R50_12, R50_13, R50_14, Tryz.f50, lpL50_0, lpM50_0, M50_0, ints_cons, ints_0, ok_cons, Hn, f0, f2, f3, H16, H0, H1, hH, e5, e6, e7, e8, hj, curO, curE, intsO]
    · refine ⟨8, 8, List.replicate 64 3, c8, ?_, by simp, by simp, lv _ _ p8 (by omega)⟩
      simp [R50_0, R50_1, R50_2, R50_3, R50_4, R50_5, R50_6, R50_7, R50_8, R50_9, R50_10, R50_11, R50_12, R50_13, R50_14, Tryz.f50, lpL50_0, lpM50_0, M50_0, ints_cons, ints_0, ok_cons, Hn, f0, f2, f3, H16, H0, H1, hH, e5, e6, e7, e8, e10, hj, curO, curE, intsO]

end Go.Proofs.YtbjmfjfnilmhhaaGreatDoor.Eng
namespace Go.Proofs.YtbjmfjfnilmhhaaGreatDoor.Eng
open Go Go.Proofs
set_option maxRecDepth 100000
set_option maxHeartbeats 2000000
set_option linter.unusedSimpArgs false
set_option linter.unusedVariables false
attribute [local simp] finK fin1 hpOf xi renQ isRoot runCode runOps stepX inlOf Eng.step wantedV astep val ofO made loadV storeV find V.cells bin binT binA numT numFs eqCells un1 setAt fieldAddrV fieldV indexAddrV indexV bounds sliceV convV lenV foldV max2V min2V callO bor rdsO wrsO seen_none okD_none loops keepIds resV resultsV St.ev TK.agg refs refsL refsO V.one V.isC Value.oneCell' ren renL renO noTag noTagL noTagR noTagO nodup mapO passV frs psi refsR newD loopNext opsAt idx flatAt rootOf backR newsV appendV copyV clearV strV bytesV bldV bufV selfV bytesOf nilCmp buildV fillF chunk freeL frzW cellSame sameV
attribute [local simp] cT cF cX cWR cOW cK cBL X ints_length ints_get ints_getElem ints_drop ints_take ints_append ints_nil ints_set
attribute [local simp] ints_replicate
attribute [local simp] putV_some putV_none putH_app applyD_nil applyD_cons seen_app gc_ρ gc_H gc_tick st0_ρ st0_H st0_tick retV callRo callV_if borL_nil borL_cons ints_snoc take_self callWr cutH_app findQ afterV exportV_0 exportV_n okD_nil okD_cons sub_seq0 sub_seq1 sub_cond0 sub_cond1 sub_block sub_loop sub_nil young_far young_none hidW_nil mayW_nil keepsF_nil keepsF_cons pairs okI ok_0 ok_1 ok_2
attribute [local simp] T3 T4 T5 T9 T22 T24 T33 T36 T38 T45 T48 T51 T52 T54 T56 T71 T72 T74 T77 T99 T104 T117 T121
attribute [local simp] young_near clo cloF Region.binds Nat.testBit hidW declW mayW
theorem lv {c : Cur} {q m : Nat} (h : c.P q) (hq : q ≤ m) : c.P m := ⟨h.by8, h.len, by have := h.le; omega⟩
theorem c_anyField (k : Nat) (c : Cur) (m : Nat) (h : c.P m) (hm : m ≤ 10000000) (hk : 400 ≤ k) : ∃ (w h' : Int) (l : List Int) (off n : Nat) (c' : Cur), callK C k 52 [.p 0 0 3 0 0] [curO c] = some (.ag [.c (.int .i64 w), .c (.int .i64 h'), .s 1 2 1 off n], hpOf [some (curO c')] [intsO l]) ∧ off + n ≤ l.length ∧ l.length ≤ 64 ∧ c'.P (m + 300) := by
  obtain ⟨k, rfl⟩ : ∃ m, k = m + 9 := ⟨k - 9, by omega⟩
  rw [callK_fn rfl F52 code52]
  obtain ⟨w, h', l, c1, e1, l0, l64, p1⟩ := c_field (k + 8) c m h (by omega) (by omega)
  obtain ⟨r2, c2, e2, r2a, r2b, p2⟩ := c_pick (k + 8) c1 (m + 200) 24 p1 (by omega) (by omega) (by omega)
  obtain ⟨i3, hi3, c3, e3, p3⟩ := c_among (k + 8) c2 (m + 200 + 2) true [0, 9, 8, h'] p2 (by omega) (by simp) (by simp) (by omega)
  obtain ⟨v3, hv3⟩ : ∃ b, [(0 : Int), 9, 8, h'][i3] = b := ⟨_, rfl⟩
  rw [hv3] at e3
  obtain ⟨r4, c4, e4, r4a, r4b, p4⟩ := c_pick (k + 8) c2 (m + 200 + 2) l.length p2 (by omega) (by omega) (by omega)
  obtain ⟨i5, hi5, c5, e5, p5⟩ := c_among (k + 8) c4 (m + 200 + 2 + 2) true [9001, -9001, -9998, -9999] p4 (by omega) (by simp) (by simp) (by omega)
  obtain ⟨v5, hv5⟩ : ∃ b, [(9001 : Int), -9001, -9998, -9999][i5] = b := ⟨_, rfl⟩
  rw [hv5] at e5
  obtain ⟨j, rfl⟩ : ∃ j : Nat, r4 = j := ⟨r4.toNat, by omega⟩
  have hj : j < l.length := by omega
  have hl1 : 1 ≤ l.length := l0
  have hl1' : (1 : Int) ≤ (l.length : Int) := by omega
  simp [curO, curE, intsO] at e1 e2 e4
  simp [curO, curE, ints_cons, ints_0] at e3 e5
  by_cases h0 : r2 = 0
  · subst h0
    refine ⟨v3, h', l, 0, l.length, c3, ?_, by omega, l64, lv p3 (by omega)⟩
    simp [R52_0, R52_1, R52_2, R52_3, R52_4, R52_5, R52_6, R52_7, R52_8, R52_9, Tryz.f52, ints_cons, ints_0, ok_cons, e1, e2, e3, curO, curE, intsO]
  · have h0b : (r2 == 0) = false := by simpa using h0
    by_cases h1 : r2 = 1
    · subst h1
      refine ⟨w, h', l.set j v5, 0, l.length, c5, ?_, by simp, by simpa using l64, lv p5 (by omega)⟩
      simp [R52_0, R52_1, R52_2, R52_3, R52_4, R52_5, R52_6, R52_7, R52_8, R52_9, Tryz.f52, ints_cons, ints_0, ok_cons, e1, e2, e4, e5, hj, curO, curE, intsO]
    · have h1b : (r2 == 1) = false := by simpa using h1
      by_cases h2 : r2 = 2
      · subst h2
        refine ⟨w, h', l, 1, l.length - 1, c2, ?_, by omega, l64, lv p2 (by omega)⟩
        simp [R52_0, R52_1, R52_2, R52_3, R52_4, R52_5, R52_6, R52_7, R52_8, R52_9, Tryz.f52, e1, e2, hl1, hl1', curO, curE, intsO]
      · have h2b : (r2 == 2) = false := by simpa using h2
        refine ⟨w, h', l, 0, l.length, c2, ?_, by omega, l64, lv p2 (by omega)⟩
        simp [R52_0, R52_1, R52_2, R52_3, R52_4, R52_5, R52_6, R52_7, R52_8, R52_9, Tryz.f52, e1, e2, h0, h1, h2, h0b, h1b, h2b, curO, curE, intsO]
def LkX (m : Nat) (n : Nat) (i : Nat) (st : St) : Prop := ∃ (c' : Cur) (l : List Int), c'.P (m + 4 * i) ∧ l.length = n ∧ st.H 0 = some (0, curO c') ∧ st.H 1056 = some (2, intsO l)
theorem c_like (k : Nat) (c : Cur) (m : Nat) (b : Bool) (w h' : Int) (l0 : List Int) (h : c.P m) (hm : m ≤ 10000000) (hl : l0.length ≤ 64) (hk : 400 ≤ k) : ∃ (w' h'' : Int) (l : List Int) (c' : Cur), callK C k 51 [.p 0 0 3 0 0, fldV b w h' l0] [curO c] = some (.ag [.c (.int .i64 w'), .c (.int .i64 h''), .s 1 2 1 0 l.length], hpOf [some (curO c')] [intsO l]) ∧ l.length ≤ 64 ∧ c'.P (m + 600) := by
  obtain ⟨k, rfl⟩ : ∃ m, k = m + 9 := ⟨k - 9, by omega⟩
  rw [callK_fn rfl F51 code51]
  obtain ⟨n, hn⟩ : ∃ n, l0.length = n := ⟨_, rfl⟩
  have o1 := c_l2Own (k + 8) b w h' l0 (by omega) (by omega)
  simp [fldV, ownV, intsO] at o1
  have hL := loopHas (body := fun st => runCode C (callK C (k + 8)) (k + 8) (K 51) L51_0 1 st) (keep := [0, 4, 5, 6]) (.ex 0)
    (fun st => st.ρ 0 = .p 0 0 3 0 0 ∧ st.ρ 4 = .p 32 1 3 0 0 ∧ st.ρ 5 = .p 1072 2 3 0 0 ∧ st.H 32 = some (1, ⟨38, 3, false, [[.c (.int .i64 0), .c (.int .i64 0), .c (.slice none 0 0)]]⟩) ∧ st.H 1072 = some (2, ⟨38, 3, false, [[.c (.int .i64 w), .c (.int .i64 h'), .s 1056 2 1 0 n]]⟩) ∧ LkX m n n st)
    (fun i st => st.ρ 0 = .p 0 0 3 0 0 ∧ st.ρ 4 = .p 32 1 3 0 0 ∧ st.ρ 5 = .p 1072 2 3 0 0 ∧ st.ρ 6 = .c (.int .i64 (i : Int)) ∧ st.H 32 = some (1, ⟨38, 3, false, [[.c (.int .i64 0), .c (.int .i64 0), .c (.slice none 0 0)]]⟩) ∧ st.H 1072 = some (2, ⟨38, 3, false, [[.c (.int .i64 w), .c (.int .i64 h'), .s 1056 2 1 0 n]]⟩) ∧ LkX m n i st)
    n (k + 8) (by omega)
    (by
      rintro i st next hi ⟨q0, q4, q5, q6, H32, H1, c', l, pc, hl, H0, Hl⟩ hx
      have hwi := wrap_next hi (by omega : n ≤ 9000000000000000000)
      obtain ⟨s1, d1, f1, s1a, s1b, g1⟩ := c_pick (k + 8) c' (m + 4 * i) 5 pc (by omega) (by omega) (by omega)
      obtain ⟨s2, d2, f2, s2a, s2b, g2⟩ := c_pick (k + 8) d1 (m + 4 * i + 2) 40 g1 (by omega) (by omega) (by omega)
      obtain ⟨s3, d3, f3, g3⟩ := c_one (k + 8) d1 (m + 4 * i + 2) 3 g1 (by omega) (by omega) (by omega)
      simp [curO, curE] at f1 f2 f3 H0
      simp [intsO] at Hl
      have hil : i < l.length := by omega
      have hlen : ∀ v : Int, (l.set i v).length = n := fun v => by simpa using hl
      by_cases h0 : s1 = 0
      · subst h0
        simp [L51_0, R51_0, R51_1, R51_2, R51_3, R51_4, R51_5, R51_6, R51_7, R51_8, R51_9, R51_10, R51_11, R51_12, R51_13, Tryz.f51, lpL51_0, lpM51_0, M51_0, q0, q4, q5, q6, H32, H1, H0, Hl, hi, hil, hwi, f1, f2]
        refine hx _ ⟨?_, ?_, ?_, ?_, ?_, ?_, d2, l.set i s2, lv g2 (by omega), hlen _, ?_, ?_⟩ <;> simp [q0, q4, q5, q6, H32, H1, intsO, curO, curE]
      · have h0b : (s1 == 0) = false := by simpa using h0
        by_cases h1 : s1 = 1
        · subst h1
          cases s3
          · simp [L51_0, R51_0, R51_1, R51_2, R51_3, R51_4, R51_5, R51_6, R51_7, R51_8, R51_9, R51_10, R51_11, R51_12, R51_13, Tryz.f51, lpL51_0, lpM51_0, M51_0, q0, q4, q5, q6, H32, H1, H0, Hl, hi, hil, hwi, f1, f3]
            refine hx _ ⟨?_, ?_, ?_, ?_, ?_, ?_, d3, l, lv g3 (by omega), hl, ?_, ?_⟩ <;> simp [q0, q4, q5, q6, H32, H1, Hl, intsO, curO, curE]
          · simp [L51_0, R51_0, R51_1, R51_2, R51_3, R51_4, R51_5, R51_6, R51_7, R51_8, R51_9, R51_10, R51_11, R51_12, R51_13, Tryz.f51, lpL51_0, lpM51_0, M51_0, q0, q4, q5, q6, H32, H1, H0, Hl, hi, hil, hwi, f1, f3]
            refine hx _ ⟨?_, ?_, ?_, ?_, ?_, ?_, d3, l.set i (-9999), lv g3 (by omega), hlen _, ?_, ?_⟩ <;> simp [q0, q4, q5, q6, H32, H1, intsO, curO, curE]
        · have h1b : (s1 == 1) = false := by simpa using h1
          simp [L51_0, R51_0, R51_1, R51_2, R51_3, R51_4, R51_5, R51_6, R51_7, R51_8, R51_9, R51_10, R51_11, R51_12, R51_13, Tryz.f51, lpL51_0, lpM51_0, M51_0, q0, q4, q5, q6, H32, H1, H0, Hl, hi, hil, hwi, f1, h0, h1, h0b, h1b]
          refine hx _ ⟨?_, ?_, ?_, ?_, ?_, ?_, d1, l, lv g1 (by omega), hl, ?_, ?_⟩ <;> simp [q0, q4, q5, q6, H32, H1, Hl, intsO, curO, curE])
    (by
      rintro st next ⟨q0, q4, q5, q6, H32, H1, c', l, pc, hl, H0, Hl⟩
      simp [curO, curE] at H0
      simp [intsO] at Hl
      simp [L51_0, R51_0, R51_1, R51_2, R51_3, R51_4, R51_5, R51_6, R51_7, R51_8, R51_9, R51_10, R51_11, R51_12, R51_13, Tryz.f51, lpL51_0, lpM51_0, M51_0, q0, q4, q5, q6, H32, H1, H0, Hl]
      exact ⟨c', l, pc, hl, by simp [curO, curE, q0, q4, q5, q6, H32, H1, H0, Hl], by simp [q0, q4, q5, q6, H32, H1, H0, Hl, intsO]⟩)
  simp [R51_0, R51_1, R51_2, R51_3, R51_4, R51_5, R51_6, R51_7, R51_8, R51_9, R51_10, R51_11, R51_12, R51_13, Tryz.f51, lpL51_0, lpM51_0, curO, curE, fldV, o1, hn]
  generalize hr2 : loopRun _ _ _ _ = res
  obtain ⟨s1, rfl, f0, f4, f5, H32, H1, c4, l, p4, hl', H0, Hl⟩ := loop_at hL hr2 ⟨by simp, by simp, by simp, by simp, by simp, by simp, c, l0, lv h (by omega), hn, by simp [curO, curE], by simp [intsO]⟩
  obtain ⟨b5, c5, e5, p5⟩ := c_one (k + 8) c4 (m + 4 * n) 16 p4 (by omega) (by omega) (by omega)
  obtain ⟨w6, h6, l6, c6, e6, l60, l64, p6⟩ := c_field (k + 8) c5 (m + 4 * n + 2) p5 (by omega) (by omega)
  simp [curO, curE] at e5 H0
  simp [curO, curE, intsO] at e6
  simp [intsO] at Hl
  cases b5
  · refine ⟨w, h', l, c5, ?_, by omega, lv p5 (by omega)⟩
    simp [R51_0, R51_1, R51_2, R51_3, R51_4, R51_5, R51_6, R51_7, R51_8, R51_9, R51_10, R51_11, R51_12, R51_13, Tryz.f51, lpL51_0, lpM51_0, M51_0, f0, f4, f5, H32, H1, H0, Hl, e5, curO, curE, intsO, hl']
  · refine ⟨w6, h6, l6, c6, ?_, l64, lv p6 (by omega)⟩
    simp [R51_0, R51_1, R51_2, R51_3, R51_4, R51_5, R51_6, R51_7, R51_8, R51_9, R51_10, R51_11, R51_12, R51_13, Tryz.f51, lpL51_0, lpM51_0, M51_0, f0, f4, f5, H32, H1, H0, Hl, e5, e6, curO, curE, intsO, hl']

end Go.Proofs.YtbjmfjfnilmhhaaGreatDoor.Eng
namespace Go.Proofs.YtbjmfjfnilmhhaaGreatDoor.Eng
open Go Go.Proofs
set_option maxRecDepth 100000
set_option maxHeartbeats 2000000
set_option linter.unusedSimpArgs false
set_option linter.unusedVariables false
attribute [local simp] finK fin1 hpOf xi renQ isRoot runCode runOps stepX inlOf Eng.step wantedV astep val ofO made loadV storeV find V.cells bin binT binA numT numFs eqCells un1 setAt fieldAddrV fieldV indexAddrV indexV bounds sliceV convV lenV foldV max2V min2V callO bor rdsO wrsO seen_none okD_none loops keepIds resV resultsV St.ev TK.agg refs refsL refsO V.one V.isC Value.oneCell' ren renL renO noTag noTagL noTagR noTagO nodup mapO passV frs psi refsR newD loopNext opsAt idx flatAt rootOf backR newsV appendV copyV clearV strV bytesV bldV bufV selfV bytesOf nilCmp buildV fillF chunk freeL frzW cellSame sameV
attribute [local simp] cT cF cX cWR cOW cK cBL X ints_length ints_get ints_getElem ints_drop ints_take ints_append ints_nil ints_set
attribute [local simp] ints_replicate
attribute [local simp] putV_some putV_none putH_app applyD_nil applyD_cons seen_app gc_ρ gc_H gc_tick st0_ρ st0_H st0_tick retV callRo callV_if borL_nil borL_cons ints_snoc take_self callWr cutH_app findQ afterV exportV_0 exportV_n okD_nil okD_cons sub_seq0 sub_seq1 sub_cond0 sub_cond1 sub_block sub_loop sub_nil young_far young_none hidW_nil mayW_nil keepsF_nil keepsF_cons pairs okI ok_0 ok_1 ok_2
attribute [local simp] T3 T4 T5 T9 T22 T24 T33 T36 T38 T45 T48 T51 T52 T54 T56 T71 T72 T74 T77 T99 T104 T117 T121
attribute [local simp] young_near clo cloF Region.binds Nat.testBit hidW declW mayW List.findIdx?_cons
theorem lvE {c : Cur} {q m : Nat} (h : c.P q) (hq : q ≤ m) : c.P m := ⟨h.by8, h.len, by have := h.le; omega⟩
theorem ndL_snoc (l : List (Int × Int)) (a b : Int) : ndL l ++ [[.c (.int .i64 a), .c (.int .i64 b)]] = ndL (l ++ [(a, b)]) := by simp [ndL, ndE]
structure ExF (id : Nat) : Prop where
  a : ¬ id = 0
  b : ¬ id = 9312
  c : ¬ id = 12368
  d : ¬ id = 14384
  e : ¬ id = 14432
  f : ¬ id = 6224
  g : ¬ id = 17504
def ExX (m i : Nat) (st : St) : Prop := ∃ (c' : Cur) (acc : List (Int × Int)) (id tk o : Nat), c'.P (m + 8 * i) ∧ acc.length ≤ i ∧ o ≤ i ∧ ExF id ∧ st.H 0 = some (0, curO c') ∧ st.ρ 3 = .s id tk 2 0 acc.length ∧ st.H id = some (tk, ndO acc) ∧ st.ρ 4 = .c (.int .i64 (o : Int))
def ExY (m n i : Nat) (st : St) : Prop := ∃ (c' : Cur) (acc : List (Int × Int)) (id tk : Nat), c'.P (m + 2 * i) ∧ acc.length ≤ n + i ∧ ExF id ∧ st.H 0 = some (0, curO c') ∧ st.ρ 3 = .s id tk 2 0 acc.length ∧ st.H id = some (tk, ndO acc)
theorem c_expression (k : Nat) (c : Cur) (m : Nat) (h : c.P m) (hm : m ≤ 10000000) (hk : 400 ≤ k) : ∃ (l : List (Int × Int)) (c' : Cur), callK C k 25 [.p 0 0 3 0 0] [curO c] = some (.s 1 2 2 0 l.length, hpOf [some (curO c')] [ndO l]) ∧ l.length ≤ 40 ∧ c'.P (m + 200) := by
  obtain ⟨k, rfl⟩ : ∃ m, k = m + 9 := ⟨k - 9, by omega⟩
  rw [callK_fn rfl F25 code25]
  obtain ⟨r0, c0, e0, r0a, r0b, p0⟩ := c_pick (k + 8) c m 9 h (by omega) (by omega) (by omega)
  have hr9 : r0 < 9 := by omega
  obtain ⟨N, hN⟩ : ∃ N : Nat, 1 + r0 = (N : Int) := ⟨(1 + r0).toNat, by omega⟩
  have hL := loopHas (body := fun st => runCode C (callK C (k + 8)) (k + 8) (K 25) L25_0 1 st) (keep := [0, 3, 4, 5]) (.ex 0)
    (fun st => st.ρ 0 = .p 0 0 3 0 0 ∧ ExX (m + 2) N st)
    (fun i st => st.ρ 0 = .p 0 0 3 0 0 ∧ st.ρ 5 = .c (.int .i64 ((N : Int) - (i : Int))) ∧ ExX (m + 2) i st)
    N (k + 8) (by omega)
    (by
      rintro i st next hi ⟨q0, q5, c', acc, id, tk, o, pc, hl, ho, hf, H0, q3, Hid, q4⟩ hx
      obtain ⟨f1, f2, f3, f4, f5, f6, f7⟩ := hf
      have g0 : (0 : Int) < (N : Int) - (i : Int) := by omega
      have w5 : IntKind.i64.wrap ((N : Int) - (i : Int) - 1) = (N : Int) - ((i : Int) + 1) := by rw [wrap_small (by omega) (by omega)]; omega
      have n1 : (acc.length + 1) * 16 ≤ 140737488355328 := by omega
      have n2 : acc.length + 1 ≤ 9223372036854775807 := by omega
      obtain ⟨b1, c1, e1, p1⟩ := c_one (k + 8) c' _ 2 pc (by omega) (by omega) (by omega)
      obtain ⟨r2, c2, e2, r2a, r2b, p2⟩ := c_pick (k + 8) c1 _ 4 p1 (by omega) (by omega) (by omega)
      have wU : IntKind.i64.wrap ((o : Int) + 1) = ((o + 1 : Nat) : Int) := by rw [wrap_small (by omega) (by omega)]; omega
      by_cases hA : 1 < o ∧ b1 = true
      · obtain ⟨ho1, rfl⟩ := hA
        have ho1' : (1 : Int) < (o : Int) := by omega
        have w4 : IntKind.i64.wrap ((o : Int) - 1) = ((o - 1 : Nat) : Int) := by rw [wrap_small (by omega) (by omega)]; omega
        have w6 : IntKind.i64.wrap (3 + r2) = 3 + r2 := wrap_small (by omega) (by omega)
        simp [curO, curE] at e1 e2 H0
        simp [ndO] at Hid
        simp [L25_0, R25_0, R25_1, R25_2, R25_3, R25_4, R25_5, R25_6, R25_7, R25_8, R25_9, R25_10, R25_11, R25_12, R25_13, R25_14, R25_15, R25_16, R25_17, R25_18, R25_19, Tryz.f25, lpL25_0, lpL25_1, lpM25_0, lpM25_1, M25_0, M25_1, q0, q3, q4, q5, hi, g0, H0, Hid, f1, f2, f3, f4, f5, f6, f7, w5, ndL_length, ndL_take, ndL_snoc, okN, maxLen, n1, n2, ho1, ho1', e1, e2, w4, w6]
        refine hx _ ⟨by simp [q0], by simp, c2, acc ++ [(3 + r2, 0)], 9336, st.tick + 1 + 1, o - 1, lvE p2 (by omega), by simp; omega, by omega, ⟨by simp, by simp, by simp, by simp, by simp, by simp, by simp⟩, ?_, ?_, ?_, ?_⟩
        all_goals simp [f1, Ne.symm f1, f2, f3, f4, f5, f6, f7, H0, curO, curE, ndO, q0, q3, q4]
      · -- no node of two arguments: the cursor stands at d, and the code goes on there
        obtain ⟨d, hd⟩ : ∃ d : Cur, d = (if 1 < o then c1 else c') := ⟨_, rfl⟩
        have pd : d.P (m + 2 + 8 * i + 2) := by
          rw [hd]; split
          · exact p1
          · exact lvE pc (by omega)
        obtain ⟨b3, c3, e3, p3⟩ := c_one (k + 8) d _ 6 pd (by omega) (by omega) (by omega)
        obtain ⟨r4, c4, e4, r4a, r4b, p4⟩ := c_pick (k + 8) c3 _ 30 p3 (by omega) (by omega) (by omega)
        obtain ⟨x, hxd⟩ : ∃ x : Cur, x = (if 0 < o then c3 else d) := ⟨_, rfl⟩
        have px : x.P (m + 2 + 8 * i + 2 + 2) := by
          rw [hxd]; split
          · exact p3
          · exact lvE pd (by omega)
        obtain ⟨b5, c5, e5, p5⟩ := c_one (k + 8) x _ 3 px (by omega) (by omega) (by omega)
        obtain ⟨i6, hi6, c6, e6, p6⟩ := c_among (k + 8) c5 _ true [0, 1, 5, 20, 9000] p5 (by omega) (by simp) (by simp) (by omega)
        obtain ⟨v6, hv6⟩ : ∃ b, [(0 : Int), 1, 5, 20, 9000][i6] = b := ⟨_, rfl⟩
        rw [hv6] at e6
        obtain ⟨r7, c7, e7, r7a, r7b, p7⟩ := c_pick (k + 8) c5 _ 3 p5 (by omega) (by omega) (by omega)
        simp [curO, curE] at e1 e3 e4 e5 e7 H0
        simp [curO, curE, ints_cons, ints_0] at e6
        simp [ndO] at Hid
        by_cases ho1 : 1 < o
        · have hb1 : b1 = false := by
            cases b1
            · rfl
            · exact absurd ⟨ho1, rfl⟩ hA
          subst hb1
          have ho1' : (1 : Int) < (o : Int) := by omega
          have ho0 : 0 < o := by omega
          have ho0' : (0 : Int) < (o : Int) := by omega
          rw [if_pos ho1] at hd
          rw [if_pos ho0] at hxd
          subst hd hxd
          cases b3
          · cases b5
            · simp [L25_0, R25_0, R25_1, R25_2, R25_3, R25_4, R25_5, R25_6, R25_7, R25_8, R25_9, R25_10, R25_11, R25_12, R25_13, R25_14, R25_15, R25_16, R25_17, R25_18, R25_19, Tryz.f25, lpL25_0, lpL25_1, lpM25_0, lpM25_1, M25_0, M25_1, q0, q3, q4, q5, hi, g0, H0, Hid, f1, f2, f3, f4, f5, f6, f7, w5, ndL_length, ndL_take, ndL_snoc, okN, maxLen, n1, n2, ho1, ho1', ho0, ho0', e1, e3, e5, e7, wU]
              refine hx _ ⟨by simp [q0], by simp, c7, acc ++ [(1, r7)], 6248, st.tick + 1 + 1 + 1 + 1, o + 1, lvE p7 (by omega), by simp; omega, by omega, ⟨by simp, by simp, by simp, by simp, by simp, by simp, by simp⟩, ?_, ?_, ?_, ?_⟩
              all_goals simp [f1, Ne.symm f1, f2, f3, f4, f5, f6, f7, H0, curO, curE, ndO, q0, q3, q4]
            · simp [L25_0, R25_0, R25_1, R25_2, R25_3, R25_4, R25_5, R25_6, R25_7, R25_8, R25_9, R25_10, R25_11, R25_12, R25_13, R25_14, R25_15, R25_16, R25_17, R25_18, R25_19, Tryz.f25, lpL25_0, lpL25_1, lpM25_0, lpM25_1, M25_0, M25_1, q0, q3, q4, q5, hi, g0, H0, Hid, f1, f2, f3, f4, f5, f6, f7, w5, ndL_length, ndL_take, ndL_snoc, okN, maxLen, n1, n2, ho1, ho1', ho0, ho0', e1, e3, e5, e6, wU, ints_cons, ints_0, ok_cons]
              refine hx _ ⟨by simp [q0], by simp, c6, acc ++ [(2, v6)], 14456, st.tick + 1 + 1 + 1 + 1, o + 1, lvE p6 (by omega), by simp; omega, by omega, ⟨by simp, by simp, by simp, by simp, by simp, by simp, by simp⟩, ?_, ?_, ?_, ?_⟩
              all_goals simp [f1, Ne.symm f1, f2, f3, f4, f5, f6, f7, H0, curO, curE, ndO, q0, q3, q4]
          · simp [L25_0, R25_0, R25_1, R25_2, R25_3, R25_4, R25_5, R25_6, R25_7, R25_8, R25_9, R25_10, R25_11, R25_12, R25_13, R25_14, R25_15, R25_16, R25_17, R25_18, R25_19, Tryz.f25, lpL25_0, lpL25_1, lpM25_0, lpM25_1, M25_0, M25_1, q0, q3, q4, q5, hi, g0, H0, Hid, f1, f2, f3, f4, f5, f6, f7, w5, ndL_length, ndL_take, ndL_snoc, okN, maxLen, n1, n2, ho1, ho1', ho0, ho0', e1, e3, e4]
            refine hx _ ⟨by simp [q0], by simp, c4, acc ++ [(7, r4)], 12392, st.tick + 1 + 1 + 1, o, lvE p4 (by omega), by simp; omega, by omega, ⟨by simp, by simp, by simp, by simp, by simp, by simp, by simp⟩, ?_, ?_, ?_, ?_⟩
            all_goals simp [f1, Ne.symm f1, f2, f3, f4, f5, f6, f7, H0, curO, curE, ndO, q0, q3, q4]
        · have ho1' : ¬ (1 : Int) < (o : Int) := by omega
          rw [if_neg ho1] at hd
          subst hd
          by_cases ho0 : 0 < o
          · have ho0' : (0 : Int) < (o : Int) := by omega
            rw [if_pos ho0] at hxd
            subst hxd
            cases b3
            · cases b5
              · simp [L25_0, R25_0, R25_1, R25_2, R25_3, R25_4, R25_5, R25_6, R25_7, R25_8, R25_9, R25_10, R25_11, R25_12, R25_13, R25_14, R25_15, R25_16, R25_17, R25_18, R25_19, Tryz.f25, lpL25_0, lpL25_1, lpM25_0, lpM25_1, M25_0, M25_1, q0, q3, q4, q5, hi, g0, H0, Hid, f1, f2, f3, f4, f5, f6, f7, w5, ndL_length, ndL_take, ndL_snoc, okN, maxLen, n1, n2, ho1, ho1', ho0, ho0', e3, e5, e7, wU]
                refine hx _ ⟨by simp [q0], by simp, c7, acc ++ [(1, r7)], 6248, st.tick + 1 + 1 + 1 + 1, o + 1, lvE p7 (by omega), by simp; omega, by omega, ⟨by simp, by simp, by simp, by simp, by simp, by simp, by simp⟩, ?_, ?_, ?_, ?_⟩
                all_goals simp [f1, Ne.symm f1, f2, f3, f4, f5, f6, f7, H0, curO, curE, ndO, q0, q3, q4]
              · simp [L25_0, R25_0, R25_1, R25_2, R25_3, R25_4, R25_5, R25_6, R25_7, R25_8, R25_9, R25_10, R25_11, R25_12, R25_13, R25_14, R25_15, R25_16, R25_17, R25_18, R25_19, Tryz.f25, lpL25_0, lpL25_1, lpM25_0, lpM25_1, M25_0, M25_1, q0, q3, q4, q5, hi, g0, H0, Hid, f1, f2, f3, f4, f5, f6, f7, w5, ndL_length, ndL_take, ndL_snoc, okN, maxLen, n1, n2, ho1, ho1', ho0, ho0', e3, e5, e6, wU, ints_cons, ints_0, ok_cons]
                refine hx _ ⟨by simp [q0], by simp, c6, acc ++ [(2, v6)], 14456, st.tick + 1 + 1 + 1 + 1, o + 1, lvE p6 (by omega), by simp; omega, by omega, ⟨by simp, by simp, by simp, by simp, by simp, by simp, by simp⟩, ?_, ?_, ?_, ?_⟩
                all_goals simp [f1, Ne.symm f1, f2, f3, f4, f5, f6, f7, H0, curO, curE, ndO, q0, q3, q4]
            · simp [L25_0, R25_0, R25_1, R25_2, R25_3, R25_4, R25_5, R25_6, R25_7, R25_8, R25_9, R25_10, R25_11, R25_12, R25_13, R25_14, R25_15, R25_16, R25_17, R25_18, R25_19, Tryz.f25, lpL25_0, lpL25_1, lpM25_0, lpM25_1, M25_0, M25_1, q0, q3, q4, q5, hi, g0, H0, Hid, f1, f2, f3, f4, f5, f6, f7, w5, ndL_length, ndL_take, ndL_snoc, okN, maxLen, n1, n2, ho1, ho1', ho0, ho0', e3, e4]
              refine hx _ ⟨by simp [q0], by simp, c4, acc ++ [(7, r4)], 12392, st.tick + 1 + 1 + 1, o, lvE p4 (by omega), by simp; omega, by omega, ⟨by simp, by simp, by simp, by simp, by simp, by simp, by simp⟩, ?_, ?_, ?_, ?_⟩
              all_goals simp [f1, Ne.symm f1, f2, f3, f4, f5, f6, f7, H0, curO, curE, ndO, q0, q3, q4]
          · have ho0' : ¬ (0 : Int) < (o : Int) := by omega
            rw [if_neg ho0] at hxd
            subst hxd
            cases b5
            · simp [L25_0, R25_0, R25_1, R25_2, R25_3, R25_4, R25_5, R25_6, R25_7, R25_8, R25_9, R25_10, R25_11, R25_12, R25_13, R25_14, R25_15, R25_16, R25_17, R25_18, R25_19, Tryz.f25, lpL25_0, lpL25_1, lpM25_0, lpM25_1, M25_0, M25_1, q0, q3, q4, q5, hi, g0, H0, Hid, f1, f2, f3, f4, f5, f6, f7, w5, ndL_length, ndL_take, ndL_snoc, okN, maxLen, n1, n2, ho1, ho1', ho0, ho0', e5, e7, wU]
              refine hx _ ⟨by simp [q0], by simp, c7, acc ++ [(1, r7)], 6248, st.tick + 1 + 1 + 1 + 1, o + 1, lvE p7 (by omega), by simp; omega, by omega, ⟨by simp, by simp, by simp, by simp, by simp, by simp, by simp⟩, ?_, ?_, ?_, ?_⟩
              all_goals simp [f1, Ne.symm f1, f2, f3, f4, f5, f6, f7, H0, curO, curE, ndO, q0, q3, q4]
            · simp [L25_0, R25_0, R25_1, R25_2, R25_3, R25_4, R25_5, R25_6, R25_7, R25_8, R25_9, R25_10, R25_11, R25_12, R25_13, R25_14, R25_15, R25_16, R25_17, R25_18, R25_19, Tryz.f25, lpL25_0, lpL25_1, lpM25_0, lpM25_1, M25_0, M25_1, q0, q3, q4, q5, hi, g0, H0, Hid, f1, f2, f3, f4, f5, f6, f7, w5, ndL_length, ndL_take, ndL_snoc, okN, maxLen, n1, n2, ho1, ho1', ho0, ho0', e5, e6, wU, ints_cons, ints_0, ok_cons]
              refine hx _ ⟨by simp [q0], by simp, c6, acc ++ [(2, v6)], 14456, st.tick + 1 + 1 + 1 + 1, o + 1, lvE p6 (by omega), by simp; omega, by omega, ⟨by simp, by simp, by simp, by simp, by simp, by simp, by simp⟩, ?_, ?_, ?_, ?_⟩
              all_goals simp [f1, Ne.symm f1, f2, f3, f4, f5, f6, f7, H0, curO, curE, ndO, q0, q3, q4])
    (by
      rintro st next ⟨q0, q5, hX⟩
      obtain ⟨c', acc, id, tk, o, pc, hl, ho, hf, H0, q3, Hid, q4⟩ := hX
      obtain ⟨f1, f2, f3, f4, f5, f6, f7⟩ := hf
      simp [L25_0, R25_0, R25_1, R25_2, R25_3, R25_4, R25_5, R25_6, R25_7, R25_8, R25_9, R25_10, R25_11, R25_12, R25_13, R25_14, R25_15, R25_16, R25_17, R25_18, R25_19, Tryz.f25, lpL25_0, lpL25_1, lpM25_0, lpM25_1, M25_0, M25_1, q0, q5]
      exact ⟨c', acc, id, tk, o, pc, hl, ho, ⟨f1, f2, f3, f4, f5, f6, f7⟩, by simp [H0], by simp [q3], by simp [q3, Hid], by simp [q4]⟩)
  have w0 : IntKind.i64.wrap (1 + r0) = (N : Int) := by rw [wrap_small (by omega) (by omega)]; exact hN
  simp [curO, curE] at e0
  simp [R25_0, R25_1, R25_2, R25_3, R25_4, R25_5, R25_6, R25_7, R25_8, R25_9, R25_10, R25_11, R25_12, R25_13, R25_14, R25_15, R25_16, R25_17, R25_18, R25_19, Tryz.f25, lpL25_0, lpL25_1, lpM25_0, lpM25_1, curO, curE, e0, w0]
  generalize hr2 : loopRun _ _ _ _ = res
  obtain ⟨s1, rfl, q0, c1, acc, id, tk, o, pc, hl, ho, hf, H0, q3, Hid, q4⟩ := loop_at hL hr2 ⟨by simp, by simp, c0, [], 1040, 2, 0, p0, by simp, by simp, ⟨by simp, by simp, by simp, by simp, by simp, by simp, by simp⟩, by simp [curO, curE], by simp, by simp [ndO, ndL], by simp⟩
  obtain ⟨O, hO⟩ : ∃ O, o = O := ⟨_, rfl⟩
  obtain ⟨L, hLe⟩ : ∃ L, acc.length = L := ⟨_, rfl⟩
  rw [hO] at ho q4
  rw [hLe] at hl
  have hM := loopHas (body := fun st => runCode C (callK C (k + 8)) (k + 8) (K 25) L25_1 2 st) (keep := [0, 3, 4]) (.ex 3)
    (fun st => ExY (m + 2 + 8 * N) L (O - 1) st)
    (fun i st => st.ρ 0 = .p 0 0 3 0 0 ∧ st.ρ 4 = .c (.int .i64 ((O : Int) - (i : Int))) ∧ ExY (m + 2 + 8 * N) L i st)
    (O - 1) (k + 8) (by omega)
    (by
      rintro i st next hi ⟨q0, q4, c', acc, id, tk, pc', hl', hf, H0, q3, Hid⟩ hx
      obtain ⟨f1, f2, f3, f4, f5, f6, f7⟩ := hf
      have g0 : (1 : Int) < (O : Int) - (i : Int) := by omega
      have w5 : IntKind.i64.wrap ((O : Int) - (i : Int) - 1) = (O : Int) - ((i : Int) + 1) := by rw [wrap_small (by omega) (by omega)]; omega
      have n1 : (acc.length + 1) * 16 ≤ 140737488355328 := by omega
      have n2 : acc.length + 1 ≤ 9223372036854775807 := by omega
      obtain ⟨r2, c2, e2, r2a, r2b, p2⟩ := c_pick (k + 8) c' _ 4 pc' (by omega) (by omega) (by omega)
      have w6 : IntKind.i64.wrap (3 + r2) = 3 + r2 := wrap_small (by omega) (by omega)
      simp [curO, curE] at e2 H0
      simp [ndO] at Hid
      simp [L25_1, R25_0, R25_1, R25_2, R25_3, R25_4, R25_5, R25_6, R25_7, R25_8, R25_9, R25_10, R25_11, R25_12, R25_13, R25_14, R25_15, R25_16, R25_17, R25_18, R25_19, Tryz.f25, lpL25_0, lpL25_1, lpM25_0, lpM25_1, M25_0, M25_1, q0, q3, q4, g0, H0, Hid, f1, f2, f3, f4, f5, f6, f7, w5, w6, e2, ndL_length, ndL_take, ndL_snoc, okN, maxLen, n1, n2]
      refine hx _ ⟨by simp [q0], by simp, c2, acc ++ [(3 + r2, 0)], 17528, st.tick + 1, lvE p2 (by omega), by simp; omega, ⟨by simp, by simp, by simp, by simp, by simp, by simp, by simp⟩, ?_, ?_, ?_⟩
      all_goals simp [f1, Ne.symm f1, f2, f3, f4, f5, f6, f7, H0, curO, curE, ndO, q0, q3, q4])
    (by
      rintro st next ⟨q0, q4, c', acc, id, tk, pc', hl', hf, H0, q3, Hid⟩
      obtain ⟨f1, f2, f3, f4, f5, f6, f7⟩ := hf
      have g0 : ¬ (1 : Int) < (O : Int) - ((O - 1 : Nat) : Int) := by omega
      simp [L25_1, R25_0, R25_1, R25_2, R25_3, R25_4, R25_5, R25_6, R25_7, R25_8, R25_9, R25_10, R25_11, R25_12, R25_13, R25_14, R25_15, R25_16, R25_17, R25_18, R25_19, Tryz.f25, lpL25_0, lpL25_1, lpM25_0, lpM25_1, M25_0, M25_1, q0, q4, g0]
      exact ⟨c', acc, id, tk, pc', hl', ⟨f1, f2, f3, f4, f5, f6, f7⟩, by simp [H0], by simp [q3], by simp [q3, Hid]⟩)
  simp [R25_0, R25_1, R25_2, R25_3, R25_4, R25_5, R25_6, R25_7, R25_8, R25_9, R25_10, R25_11, R25_12, R25_13, R25_14, R25_15, R25_16, R25_17, R25_18, R25_19, Tryz.f25, lpL25_0, lpL25_1, lpM25_0, lpM25_1, M25_0, M25_1]
  generalize hr3 : loopRun _ _ _ _ = res2
  obtain ⟨s2, rfl, c2, acc2, id2, tk2, pc2, hl2, hf2, H02, q32, Hid2⟩ := loop_at hM hr3 ⟨by simp [q0], by simp [q4], c1, acc, id, tk, by simpa using pc, by omega, hf, by simp [H0], by simp [q3], by simp [Hid]⟩
  obtain ⟨f1, f2, f3, f4, f5, f6, f7⟩ := hf2
  refine ⟨acc2, c2, ?_, by omega, lvE pc2 (by omega)⟩
  simp [curO, curE] at H02
  simp [ndO] at Hid2
  simp [H02, q32, Hid2, f1, ndL_length, ndO, curO, curE]
theorem ndL_set2 (l : List (Int × Int)) (i : Nat) (a b : Int) : (ndL l).set i [.c (.int .i64 a), .c (.int .i64 b)] = ndL (l.set i (a, b)) := ndL_set l i (a, b)
theorem c_anyExpression (k : Nat) (c : Cur) (m : Nat) (h : c.P m) (hm : m ≤ 1000000) (hk : 450 ≤ k) : ∃ (l : List (Int × Int)) (c' : Cur), callK C k 28 [.p 0 0 3 0 0] [curO c] = some (.s 1 2 2 0 l.length, hpOf [some (curO c')] [ndO l]) ∧ l.length ≤ 41 ∧ c'.P (m + 300) := by
  obtain ⟨k, rfl⟩ : ∃ m, k = m + 9 := ⟨k - 9, by omega⟩
  rw [callK_fn rfl F28 code28]
  obtain ⟨l, c1, e1, l40, p1⟩ := c_expression (k + 8) c m h (by omega) (by omega)
  obtain ⟨r2, c2, e2, r2a, r2b, p2⟩ := c_pick (k + 8) c1 _ 20 p1 (by omega) (by omega) (by omega)
  obtain ⟨r3, c3, e3, r3a, r3b, p3⟩ := c_pick (k + 8) c2 _ 9 p2 (by omega) (by omega) (by omega)
  obtain ⟨r4, c4, e4, r4a, r4b, p4⟩ := c_pick (k + 8) c3 _ 5 p3 (by omega) (by omega) (by omega)
  obtain ⟨r5, c5, e5, r5a, r5b, p5⟩ := c_pick (k + 8) c2 _ l.length p2 (by omega) (by omega) (by omega)
  obtain ⟨r6, c6, e6, r6a, r6b, p6⟩ := c_pick (k + 8) c5 _ 9 p5 (by omega) (by omega) (by omega)
  obtain ⟨i7, hi7, c7, e7, p7⟩ := c_among (k + 8) c6 _ true [0, 3, 4, -1, 9000, 9001] p6 (by omega) (by simp) (by simp) (by omega)
  obtain ⟨v7, hv7⟩ : ∃ b, [(0 : Int), 3, 4, -1, 9000, 9001][i7] = b := ⟨_, rfl⟩
  rw [hv7] at e7
  obtain ⟨j, rfl⟩ : ∃ j : Nat, r5 = j := ⟨r5.toNat, by omega⟩
  have n1 : (l.length + 1) * 16 ≤ 140737488355328 := by omega
  have n2 : l.length + 1 ≤ 9223372036854775807 := by omega
  have hz : ndL [] = [] := rfl
  simp [curO, curE, ndO] at e1 e2 e3 e4 e5 e6
  simp [curO, curE, ints_cons, ints_0] at e7
  by_cases h0 : r2 = 0
  · subst h0
    refine ⟨l ++ [(r3, r4)], c4, ?_, by simp; omega, lvE p4 (by omega)⟩
    simp [R28_0, R28_1, R28_2, R28_3, R28_4, R28_5, R28_6, R28_7, R28_8, R28_9, R28_10, Tryz.f28, e1, e2, e3, e4, curO, curE, ndO, ndL_length, ndL_take, ndL_snoc, okN, maxLen, n1, n2]
  · have h0b : (r2 == 0) = false := by simpa using h0
    by_cases h1 : r2 = 1
    · subst h1
      by_cases hl0 : 0 < l.length
      · have hj : j < l.length := by omega
        have hl0' : (0 : Int) < (l.length : Int) := by omega
        refine ⟨l.set j (r6, v7), c7, ?_, by simp; omega, lvE p7 (by omega)⟩
        simp [R28_0, R28_1, R28_2, R28_3, R28_4, R28_5, R28_6, R28_7, R28_8, R28_9, R28_10, Tryz.f28, e1, e2, e5, e6, e7, hl0, hl0', hj, curO, curE, ndO, ndL_length, ndL_take, ndL_at, ndE, ndL_set2, okN, ints_cons, ints_0, ok_cons]
      · have hl0' : ¬ (0 : Int) < (l.length : Int) := by omega
        refine ⟨l, c2, ?_, by omega, lvE p2 (by omega)⟩
        simp [R28_0, R28_1, R28_2, R28_3, R28_4, R28_5, R28_6, R28_7, R28_8, R28_9, R28_10, Tryz.f28, e1, e2, hl0, hl0', curO, curE, ndO, ndL_length, ndL_take]
    · have h1b : (r2 == 1) = false := by simpa using h1
      by_cases h2 : r2 = 2
      · subst h2
        refine ⟨[], c2, ?_, by simp, lvE p2 (by omega)⟩
        simp [R28_0, R28_1, R28_2, R28_3, R28_4, R28_5, R28_6, R28_7, R28_8, R28_9, R28_10, Tryz.f28, e1, e2, curO, curE, ndO, hz]
      · have h2b : (r2 == 2) = false := by simpa using h2
        refine ⟨l, c2, ?_, by omega, lvE p2 (by omega)⟩
        simp [R28_0, R28_1, R28_2, R28_3, R28_4, R28_5, R28_6, R28_7, R28_8, R28_9, R28_10, Tryz.f28, e1, e2, h0, h1, h2, h0b, h1b, h2b, curO, curE, ndO, ndL_length]

end Go.Proofs.YtbjmfjfnilmhhaaGreatDoor.Eng
namespace Go.Proofs.YtbjmfjfnilmhhaaGreatDoor.Eng
open Go Go.Proofs
set_option maxRecDepth 100000
set_option maxHeartbeats 2000000
set_option linter.unusedSimpArgs false
set_option linter.unusedVariables false
attribute [local simp] finK fin1 hpOf xi renQ isRoot runCode runOps stepX inlOf Eng.step wantedV astep val ofO made loadV storeV find V.cells bin binT binA numT numFs eqCells un1 setAt fieldAddrV fieldV indexAddrV indexV bounds sliceV convV lenV foldV max2V min2V callO bor rdsO wrsO seen_none okD_none loops keepIds resV resultsV St.ev TK.agg refs refsL refsO V.one V.isC Value.oneCell' ren renL renO noTag noTagL noTagR noTagO nodup mapO passV frs psi refsR newD loopNext opsAt idx flatAt rootOf backR newsV appendV copyV clearV strV bytesV bldV bufV selfV bytesOf nilCmp buildV fillF chunk freeL frzW cellSame sameV
attribute [local simp] cT cF cX cWR cOW cK cBL X ints_length ints_get ints_getElem ints_drop ints_take ints_append ints_nil ints_set
attribute [local simp] ints_replicate
attribute [local simp] putV_some putV_none putH_app applyD_nil applyD_cons seen_app gc_ρ gc_H gc_tick st0_ρ st0_H st0_tick retV callRo callV_if borL_nil borL_cons ints_snoc take_self callWr cutH_app findQ afterV exportV_0 exportV_n okD_nil okD_cons sub_seq0 sub_seq1 sub_cond0 sub_cond1 sub_block sub_loop sub_nil young_far young_none hidW_nil mayW_nil keepsF_nil keepsF_cons pairs okI ok_0 ok_1 ok_2
attribute [local simp] T3 T4 T5 T9 T22 T24 T33 T36 T38 T45 T48 T51 T52 T54 T56 T71 T72 T74 T77 T99 T104 T117 T121
attribute [local simp] young_near clo cloF Region.binds Nat.testBit hidW declW mayW List.findIdx?_cons
/-- Fields of one's own whose cells are a piece of a list. -/
structure Fg where
  w : Int
  h : Int
  id : Nat
  vr : Nat
  off : Nat
  n : Nat
  l : List Int
def Fg.row (q : Fg) : List V := [.c (.int .i64 q.w), .c (.int .i64 q.h), .s q.id q.vr 1 q.off q.n]
def Fg.fd (q : Fg) : Fd := ⟨true, q.w, q.h, (q.l.drop q.off).take q.n⟩
def flG (P : List Fg) : Eng.Obj := ⟨38, 3, false, P.map Fg.row⟩
def HasG (H : Hp) (P : List Fg) (lo hi : Nat) : Prop := ∀ q ∈ P, H q.id = some (q.vr, intsO q.l) ∧ lo ≤ q.id ∧ q.id < hi ∧ q.off + q.n ≤ q.l.length
theorem HasG.keep {H H' : Hp} {P : List Fg} {lo hi hi' : Nat} (h : HasG H P lo hi) (hk : ∀ id, lo ≤ id → id < hi → H' id = H id) (h2 : hi ≤ hi') : HasG H' P lo hi' := by
  intro q hq
  obtain ⟨a, b, c, d⟩ := h q hq
  exact ⟨by rw [hk _ b c]; exact a, b, by omega, d⟩
theorem HasG.borE {H : Hp} {P : List Fg} {lo hi : Nat} (h : HasG H P lo hi) (n : Nat) : mapO (mapO (Eng.bor H (n + 1))) (P.map Fg.row) = some ((P.map Fg.fd).map Fd.cells) := by
  induction P with
  | nil => rfl
  | cons q r ih =>
    obtain ⟨hq, _, _, hle⟩ := h q (by simp)
    have e : Eng.bor H (n + 1) (.s q.id q.vr 1 q.off q.n) = some (.sq true true 1 (ints ((q.l.drop q.off).take q.n))) := by
      simp [Eng.bor, find, hq, intsO, ints_take, ints_drop, hle]
    have ih' := ih fun x hx => h x (List.mem_cons_of_mem _ hx)
    simp only [List.map_cons, mapO, Fg.row, bor_c, e] at ih' ⊢
    rw [ih']
    rfl
theorem bor_flG {H : Hp} {P : List Fg} {lo hi : Nat} (h : HasG H P lo hi) {id vr : Nat} (hH : H id = some (vr, flG P)) (n : Nat) : Eng.bor H (n + 2) (.s id vr 3 0 P.length) = some (.sq true false 3 ((P.map Fg.fd).map Fd.cells)) := by
  have hm := h.borE n
  have hl : (P.map Fg.row).length = P.length := by simp
  have ht : (P.map Fg.row).take P.length = P.map Fg.row := by rw [← hl]; exact List.take_length
  have hf : find H id vr = some (flG P) := by simp [find, hH]
  unfold Eng.bor
  simp only [hf, flG, hl, ht, List.drop_zero, Nat.zero_add, Nat.le_refl, and_self, if_true, Bool.false_eq_true, if_false, hm]
theorem okG (ty : TypeId) (P : List Fg) : okObj ⟨ty, 3, false, P.map Fg.row⟩ = true := by
  simp [okObj, Fg.row, V.one, Value.oneCell']
/-- What is drawn so far: n fields. -/
structure FsI (cid cvr aid avr lo m n : Nat) (H0 : Hp) (c : Cur) (q1 : Fg) (P : List Fg) (id vr : Nat) (s : St) : Prop where
  q0 : s.ρ 0 = .p cid cvr 3 0 0
  q3 : s.ρ 3 = .p aid avr 3 0 0
  q4 : s.ρ 4 = .s id vr 3 0 P.length
  Hc : s.H cid = some (cvr, curO c)
  pc : c.P m
  Ha : s.H aid = some (avr, ⟨38, 3, false, [q1.row]⟩)
  hw : q1.off = 0 ∧ q1.n = q1.l.length ∧ q1.l.length ≤ 64
  h1 : HasG s.H [q1] lo (Bt s.tick)
  Ho : s.H id = some (vr, flG P)
  hP : HasG s.H P lo (Bt s.tick)
  ln : P.length = n
  a0 : lo ≤ aid
  a1 : aid < Bt s.tick
  i0 : lo ≤ id
  i1 : id < Bt s.tick
  ic : cid < lo
  b1 : Bt 1 ≤ cid
  lt : lo ≤ Bt s.tick
  old : ∀ x, x < lo → x ≠ cid → s.H x = H0 x
  na : aid ≠ id
  n1 : q1.id ≠ id
  n2 : q1.id ≠ aid
  ni : ∀ q ∈ P, q.id ≠ id
theorem FsI.push {cid cvr aid avr lo m n : Nat} {H0 : Hp} {c : Cur} {q1 : Fg} {P : List Fg} {id vr : Nat} {s : St} (I : FsI cid cvr aid avr lo m n H0 c q1 P id vr s) {c' : Cur} {m' : Nat} (pc' : c'.P m') {r : Fg} {A B D T : Nat} {X : Option (Nat × Eng.Obj)} (s' : St) (hA : Bt s.tick ≤ A) (hAB : A < B) (hBD : B < D) (hD : D < Bt s'.tick) (hr : r.id = A ∧ r.vr = T ∧ r.off + r.n ≤ r.l.length)
    (q0 : s'.ρ 0 = .p cid cvr 3 0 0) (q3 : s'.ρ 3 = .p aid avr 3 0 0) (q4 : s'.ρ 4 = .s D T 3 0 (P.length + 1)) (hH : s'.H = putH (putH (putH (putH (putH s.H cid (some (cvr, curO c'))) A (some (T, intsO r.l))) B X) id none) D (some (T, ⟨38, 3, false, P.map Fg.row ++ [r.row]⟩))) : FsI cid cvr aid avr lo m' (n + 1) H0 c' q1 (P ++ [r]) D T s' := by
  obtain ⟨_, _, _, Hc, pc, Ha, hw, h1, Ho, hP, ln, a0, a1, i0, i1, ic, b1, lt, old, na, n1, n2, ni⟩ := I
  have hold : ∀ x, lo ≤ x → x < Bt s.tick → x ≠ id → s'.H x = s.H x := by
    intro x hx hx2 hx3
    rw [hH]
    simp [putH_app, show ¬ x = cid by omega, show ¬ x = A by omega, show ¬ x = B by omega, show ¬ x = D by omega, hx3]
  have hq1 := h1 q1 (by simp)
  refine ⟨q0, q3, by rw [q4]; simp, ?_, pc', ?_, hw, ?_, ?_, ?_, by simp [ln], a0, by omega, by omega, hD, ic, b1, by omega, ?_, by omega, by have := hq1.2.2.1; omega, n2, ?_⟩
  · rw [hH]
    simp [putH_app, show ¬ cid = A by omega, show ¬ cid = B by omega, show ¬ cid = D by omega, show ¬ cid = id by omega]
  · rw [hold aid a0 a1 na, Ha]
  · intro q hq
    rw [List.mem_singleton] at hq
    subst hq
    obtain ⟨x1, x2, x3, x4⟩ := hq1
    exact ⟨by rw [hold _ x2 x3 n1]; exact x1, x2, by omega, x4⟩
  · rw [hH]
    simp [putH_app, flG]
  · intro q hq
    rcases List.mem_append.1 hq with hq | hq
    · obtain ⟨x1, x2, x3, x4⟩ := hP q hq
      exact ⟨by rw [hold _ x2 x3 (ni q hq)]; exact x1, x2, by omega, x4⟩
    · rw [List.mem_singleton] at hq
      subst hq
      obtain ⟨y1, y2, y3⟩ := hr
      refine ⟨?_, by omega, by omega, y3⟩
      rw [hH, y1, y2]
      simp [putH_app, show ¬ A = B by omega, show ¬ A = D by omega, show ¬ A = id by omega]
  · intro x hx hxc
    rw [hH]
    simp [putH_app, hxc, show ¬ x = A by omega, show ¬ x = B by omega, show ¬ x = D by omega, show ¬ x = id by omega]
    exact old x hx hxc
  · intro q hq
    rcases List.mem_append.1 hq with hq | hq
    · have := (hP q hq).2.2.1
      omega
    · rw [List.mem_singleton] at hq
      subst hq
      have := hr.1
      omega
theorem FsI.cur {cid cvr aid avr lo m n : Nat} {H0 : Hp} {c : Cur} {q1 : Fg} {P : List Fg} {id vr : Nat} {s : St} (I : FsI cid cvr aid avr lo m n H0 c q1 P id vr s) {c' : Cur} {m' : Nat} (pc' : c'.P m') (s' : St) (ht : s.tick ≤ s'.tick) (q0 : s'.ρ 0 = .p cid cvr 3 0 0) (q3 : s'.ρ 3 = .p aid avr 3 0 0) (q4 : s'.ρ 4 = .s id vr 3 0 P.length) (hH : s'.H = putH s.H cid (some (cvr, curO c'))) : FsI cid cvr aid avr lo m' n H0 c' q1 P id vr s' := by
  obtain ⟨_, _, _, Hc, pc, Ha, hw, h1, Ho, hP, ln, a0, a1, i0, i1, ic, b1, lt, old, na, n1, n2, ni⟩ := I
  have hb := Bt_mono ht
  have hold : ∀ x, lo ≤ x → x < Bt s.tick → s'.H x = s.H x := by
    intro x hx hx2
    rw [hH]
    simp [putH_app, show ¬ x = cid by omega]
  refine ⟨q0, q3, q4, by rw [hH]; simp [putH_app], pc', by rw [hold aid a0 a1]; exact Ha, hw, h1.keep hold hb, by rw [hold id i0 i1]; exact Ho, hP.keep hold hb, ln, a0, by omega, i0, by omega, ic, b1, by omega, ?_, na, n1, n2, ni⟩
  intro x hx hxc
  rw [hH]
  simp [putH_app, hxc]
  exact old x hx hxc
theorem FsI.tk {cid cvr aid avr lo m n : Nat} {H0 : Hp} {c : Cur} {q1 : Fg} {P : List Fg} {id vr : Nat} {s : St} (I : FsI cid cvr aid avr lo m n H0 c q1 P id vr s) (s' : St) (q0 : s'.ρ 0 = s.ρ 0) (q3 : s'.ρ 3 = s.ρ 3) (q4 : s'.ρ 4 = s.ρ 4) (hH : s'.H = s.H) (ht : s.tick ≤ s'.tick) : FsI cid cvr aid avr lo m n H0 c q1 P id vr s' := by
  obtain ⟨z0, z3, z4, Hc, pc, Ha, hw, h1, Ho, hP, ln, a0, a1, i0, i1, ic, b1, lt, old, na, n1, n2, ni⟩ := I
  have hb := Bt_mono ht
  exact ⟨by rw [q0, z0], by rw [q3, z3], by rw [q4, z4], by rw [hH]; exact Hc, pc, by rw [hH]; exact Ha, hw, by rw [hH]; exact h1.keep (fun _ _ _ => rfl) hb, by rw [hH]; exact Ho, by rw [hH]; exact hP.keep (fun _ _ _ => rfl) hb, ln, a0, by omega, i0, by omega, ic, b1, by omega, by rw [hH]; exact old, na, n1, n2, ni⟩
theorem fs_round (k cid cvr aid avr lo m n : Nat) (H0 : Hp) (c : Cur) (q1 : Fg) (P : List Fg) (id vr : Nat) (s : St) (I : FsI cid cvr aid avr lo m n H0 c q1 P id vr s) (hm : m ≤ 100000) (hn : n ≤ 8) (hk : 500 ≤ k) (i : Int) (q5 : s.ρ 5 = .c (.int .i64 i)) (hi : 0 < i) (hi2 : i ≤ 10) :
    ∃ s' c' P' id' vr', runCode C (callK C k) k (K 29) L29_0 1 s = some (.nrm, s') ∧ FsI cid cvr aid avr lo (m + 600) (n + 1) H0 c' q1 P' id' vr' s' ∧ s'.ρ 5 = .c (.int .i64 (i - 1)) := by
  obtain ⟨q0, q3, q4, Hc, pc, Ha, ⟨w0, w1, w2⟩, h1, Ho, hP, ln, a0, a1, i0, i1, ic, b1, lt, old, na, n1, n2, ni⟩ := I
  obtain ⟨w', h', l, c', e, l64, p'⟩ := c_like k c m true q1.w q1.h q1.l pc (by omega) w2 (by omega)
  have hq1 := (h1 q1 (by simp)).1
  have hq2 := (h1 q1 (by simp)).2.1
  have e1 : ¬ q1.id = cid := by omega
  have e2 : ¬ id = cid := by omega
  have e3 : ¬ aid = cid := by omega
  have hwn : IntKind.i64.wrap (i - 1) = i - 1 := wrap_small (by omega) (by omega)
  have m0 : Bt s.tick ≤ Bt (s.tick + 1) := Bt_mono (by omega)
  have m1 : Bt (s.tick + 1 + 1) ≤ Bt (s.tick + 1 + 1 + 1) := Bt_mono (by omega)
  obtain ⟨N, hN⟩ : ∃ N, FR 6 (s.tick + 1) * 64 = N := ⟨_, rfl⟩
  have n5 := FR_lo 6 (s.tick + 1) 4
  have n5' := FR_hi 6 (s.tick + 1) 6 (by omega)
  rw [hN] at n5 n5'
  have i3 : ¬ id = 16 * (N + 3 + 1) := by omega
  have i4 : ¬ id = 16 * (N + 4 + 1) := by omega
  have i5 : ¬ id = 16 * (N + 5 + 1) + 8 := by omega
  have hok : okObj ⟨38, 3, false, P.map Fg.row ++ [[.c (.int .i64 w'), .c (.int .i64 h'), .s (16 * (N + 3 + 1)) (s.tick + 1) 1 0 l.length]]⟩ = true := by
    simp [okObj, Fg.row, V.one, Value.oneCell']
  have htk : (P.map Fg.row).take P.length = P.map Fg.row := List.take_of_length_le (by simp)
  have hmx : P.length + 1 ≤ maxLen := by unfold maxLen; omega
  have h40 : (P.length + 1) * 40 ≤ 140737488355328 := by omega
  simp [fldV, intsO, curO, curE] at e
  have Ha0 := Ha
  have Hc0 := Hc
  have Ho0 := Ho
  simp [Fg.row, w0, w1] at Ha
  simp [curO, curE] at Hc
  simp [flG] at Ho
  simp [intsO] at hq1
  simp [L29_0, R29_0, R29_1, R29_2, R29_3, R29_4, R29_5, R29_6, R29_7, R29_8, R29_9, Tryz.f29, lpL29_0, lpM29_0, M29_0, q0, q3, q4, q5, hi, Ha, Hc, Ho, e1, e2, e3, hq1, ints_take, e, hN, i3, i4, i5, hok, htk, hmx, h40, hwn]
  refine ⟨c', P ++ [⟨w', h', 16 * (N + 3 + 1), s.tick + 1, 0, l.length, l⟩], 16 * (N + 5 + 1) + 8, s.tick + 1, ?_⟩
  exact FsI.push ⟨q0, q3, q4, Hc0, pc, Ha0, ⟨w0, w1, w2⟩, h1, Ho0, hP, ln, a0, a1, i0, i1, ic, b1, lt, old, na, n1, n2, ni⟩ (A := 16 * (N + 3 + 1)) (B := 16 * (N + 4 + 1)) (T := s.tick + 1) p' _ (by omega) (by omega) (by omega) (by simp <;> omega) ⟨rfl, rfl, by simp⟩ (by simp [q0]) (by simp [q3]) (by simp) rfl
theorem FsI.gc {cid cvr aid avr lo m n : Nat} {H0 : Hp} {c : Cur} {q1 : Fg} {P : List Fg} {id vr : Nat} {s : St} (I : FsI cid cvr aid avr lo m n H0 c q1 P id vr s) : FsI cid cvr aid avr lo m n H0 c q1 P id vr (Eng.gc [0, 3, 4, 5, 999] s) := by
  obtain ⟨q0, q3, q4, Hc, pc, Ha, hw, h1, Ho, hP, ln, a0, a1, i0, i1, ic, b1, lt, old, na, n1, n2, ni⟩ := I
  have hg : (Eng.gc [0, 3, 4, 5, 999] s).H = s.H := gc_all _ _ (by decide)
  exact ⟨by simp [q0], by simp [q3], by simp [q4], by rw [hg]; exact Hc, pc, by rw [hg]; exact Ha, hw, by rw [hg]; exact h1, by rw [hg]; exact Ho, by rw [hg]; exact hP, ln, a0, a1, i0, i1, ic, b1, lt, by rw [hg]; exact old, na, n1, n2, ni⟩
/-- The last piece: perhaps one more field. -/
theorem fs_end (k cid cvr aid avr lo m n : Nat) (H0 : Hp) (c : Cur) (q1 : Fg) (P : List Fg) (id vr : Nat) (s : St) (I : FsI cid cvr aid avr lo m n H0 c q1 P id vr s) (hm : m ≤ 100000) (hn : n ≤ 8) (hk : 500 ≤ k) :
    ∃ s' P' id' vr', runCode C (callK C k) k (K 29) M29_0 1 s = some (.ret, s') ∧ s'.ρ 2 = .s id' vr' 3 0 P'.length ∧ P'.length ≤ 9 ∧ HasG s'.H P' lo (Bt s'.tick) ∧ s'.H id' = some (vr', flG P') ∧ lo ≤ id' ∧ id' < Bt s'.tick ∧ (∀ x, x < lo → x ≠ cid → s'.H x = H0 x) ∧ s.tick ≤ s'.tick := by
  have I0 := I
  obtain ⟨q0, q3, q4, Hc, pc, Ha, ⟨w0, w1, w2⟩, h1, Ho, hP, ln, a0, a1, i0, i1, ic, b1, lt, old, na, n1, n2, ni⟩ := I
  obtain ⟨b, c1, e1, p1⟩ := c_one k c m 24 pc (by omega) (by omega) (by omega)
  simp [curO, curE] at e1
  have Hc0 := Hc
  simp [curO, curE] at Hc
  have mm : Bt s.tick ≤ Bt (s.tick + 1 + 1) := Bt_mono (by omega)
  have mm1 : Bt s.tick ≤ Bt (s.tick + 1) := Bt_mono (by omega)
  cases b
  · simp [R29_0, R29_1, R29_2, R29_3, R29_4, R29_5, R29_6, R29_7, R29_8, R29_9, Tryz.f29, lpL29_0, lpM29_0, M29_0, q0, q4, Hc, e1]
    refine ⟨P, id, vr, by simp, by omega, ?_, ?_, i0, ?_, ?_, by omega⟩
    · intro q hq
      obtain ⟨x1, x2, x3, x4⟩ := hP q hq
      exact ⟨by simp [putH_app, show ¬ q.id = cid by omega, x1], x2, by omega, x4⟩
    · simp [putH_app, show ¬ id = cid by omega, Ho]
    · omega
    · intro x hx hxc
      simp [putH_app, hxc, old x hx hxc]
  · obtain ⟨w', h', l, off, nn, c2, e2, lo2, l64, p2⟩ := c_anyField k c1 (m + 2) p1 (by omega) (by omega)
    simp [curO, curE, intsO] at e2
    have J := I0.cur p1 ⟨s.ρ, putH s.H cid (some (cvr, curO c1)), s.tick + 1⟩ (by simp) q0 q3 q4 rfl
    have m0 : Bt s.tick ≤ Bt (s.tick + 1) := Bt_mono (by omega)
    have m1 : Bt (s.tick + 1 + 1) ≤ Bt (s.tick + 1 + 1 + 1) := Bt_mono (by omega)
    obtain ⟨N, hN⟩ : ∃ N, FR 8 (s.tick + 1) * 64 = N := ⟨_, rfl⟩
    have n5 := FR_lo 8 (s.tick + 1) 3
    have n5' := FR_hi 8 (s.tick + 1) 6 (by omega)
    rw [hN] at n5 n5'
    have i3 : ¬ id = 16 * (N + 2 + 1) := by omega
    have i4 : ¬ id = 16 * (N + 3 + 1) := by omega
    have i5 : ¬ id = 16 * (N + 4 + 1) + 8 := by omega
    have i6 : ¬ id = cid := by omega
    have hok : okObj ⟨38, 3, false, P.map Fg.row ++ [[.c (.int .i64 w'), .c (.int .i64 h'), .s (16 * (N + 2 + 1)) (s.tick + 1) 1 off nn]]⟩ = true := by
      simp [okObj, Fg.row, V.one, Value.oneCell']
    have htk : (P.map Fg.row).take P.length = P.map Fg.row := List.take_of_length_le (by simp)
    have hmx : P.length + 1 ≤ maxLen := by unfold maxLen; omega
    have h40 : (P.length + 1) * 40 ≤ 140737488355328 := by omega
    simp [flG] at Ho
    simp [R29_0, R29_1, R29_2, R29_3, R29_4, R29_5, R29_6, R29_7, R29_8, R29_9, Tryz.f29, lpL29_0, lpM29_0, M29_0, q0, q4, Hc, Ho, e1, e2, hN, i3, i4, i5, i6, hok, htk, hmx, h40]
    obtain ⟨s', hs'⟩ : ∃ s' : St, s' = ⟨fun x => if x = 4 then .s (16 * (N + 4 + 1) + 8) (s.tick + 1) 3 0 (P.length + 1) else s.ρ x, putH (putH (putH (putH (putH (putH s.H cid (some (cvr, curO c1))) cid (some (cvr, curO c2))) (16 * (N + 2 + 1)) (some (s.tick + 1, intsO l))) (16 * (N + 3 + 1)) (some (s.tick + 1, ⟨38, 3, false, [[.c (.int .i64 w'), .c (.int .i64 h'), .s (16 * (N + 2 + 1)) (s.tick + 1) 1 off nn]]⟩))) id none) (16 * (N + 4 + 1) + 8) (some (s.tick + 1, ⟨38, 3, false, P.map Fg.row ++ [[.c (.int .i64 w'), .c (.int .i64 h'), .s (16 * (N + 2 + 1)) (s.tick + 1) 1 off nn]]⟩)), s.tick + 1 + 1⟩ := ⟨_, rfl⟩
    have F := FsI.push J (r := ⟨w', h', 16 * (N + 2 + 1), s.tick + 1, off, nn, l⟩) (A := 16 * (N + 2 + 1)) (B := 16 * (N + 3 + 1)) (D := 16 * (N + 4 + 1) + 8) (T := s.tick + 1) p2 s' (by simp <;> omega) (by omega) (by omega) (by rw [hs'] <;> simp <;> omega) ⟨rfl, rfl, lo2⟩ (by rw [hs']; simp [q0]) (by rw [hs']; simp [q3]) (by rw [hs']; simp) (by rw [hs']; rfl)
    subst hs'
    refine ⟨P ++ [(⟨w', h', 16 * (N + 2 + 1), s.tick + 1, off, nn, l⟩ : Fg)], 16 * (N + 4 + 1) + 8, s.tick + 1, by simp, by simp; omega, F.hP.keep (fun _ _ _ => rfl) m1, F.Ho, F.i0, ?_, fun x hx hxc => F.old x hx hxc, by omega⟩
    exact Nat.lt_of_lt_of_le F.i1 m1
/-- Fields drawn: a list of one's own. -/
theorem i_fields (k cid cvr : Nat) (c : Cur) (m : Nat) (H : Hp) (tick : Nat) (hc : H cid = some (cvr, curO c)) (pc : c.P m) (hm : m ≤ 10000) (b1 : Bt 1 ≤ cid) (ic : cid < Bt tick) (hk : 600 ≤ k) :
    ∃ P id vr H' tk', (callK C (k + 1)).inl 29 [.p cid cvr 3 0 0] H tick = some (.s id vr 3 0 P.length, H', tk') ∧ P.length ≤ 9 ∧ HasG H' P (Bt tick) (Bt tk') ∧ H' id = some (vr, flG P) ∧ Bt tick ≤ id ∧ id < Bt tk' ∧ (∀ x, x < Bt tick → x ≠ cid → H' x = H x) ∧ tick ≤ tk' := by
  rw [callI_fn F29 code29]
  obtain ⟨w, h', l, c1, e1, l0, l64, p1⟩ := c_field k c m pc (by omega) (by omega)
  obtain ⟨r, c2, e2, r0, r1, p2⟩ := c_pick k c1 (m + 200) 4 p1 (by omega) (by omega) (by omega)
  obtain ⟨n, rfl⟩ : ∃ n : Nat, r = n := ⟨r.toNat, by omega⟩
  have hn : n ≤ 4 := by omega
  have hc0 := hc
  simp [curO, curE, intsO] at e1 e2 hc
  have m0 : Bt tick ≤ Bt (tick + 1) := Bt_mono (by omega)
  have m1 : Bt (tick + 1 + 1 + 1) ≤ Bt (tick + 1 + 1 + 1 + 1) := Bt_mono (by omega)
  obtain ⟨N, hN⟩ : ∃ N, FR 1 (tick + 1) * 64 = N := ⟨_, rfl⟩
  obtain ⟨M, hM⟩ : ∃ M, FR 2 (tick + 1 + 1) * 64 = M := ⟨_, rfl⟩
  have n1 := FR_lo 1 (tick + 1) 2
  have n1' := FR_hi 1 (tick + 1) 3 (by omega)
  have n2 := FR_lo 2 (tick + 1 + 1) 2
  have n2' := FR_hi 2 (tick + 1 + 1) 3 (by omega)
  rw [hN] at n1 n1'
  rw [hM] at n2 n2'
  have e5 : ¬ cid = 16 * (N + 1 + 1) := by omega
  have e6 : ¬ cid = 16 * (N + 2 + 1) := by omega
  have e7 : ¬ cid = 16 * (M + 1 + 1) := by omega
  simp [R29_0, R29_1, R29_2, R29_3, R29_4, R29_5, R29_6, R29_7, R29_8, R29_9, Tryz.f29, lpL29_0, lpM29_0, hc, e1, e2, hN, hM, e5, e6, e7]
  have hL := loopHas (body := fun st => runCode C (callK C k) k (K 29) L29_0 1 st) (keep := [0, 3, 4, 5, 999]) (.ex 0) (fun s => ∃ c P id vr, FsI cid cvr (16 * (N + 2 + 1)) (tick + 1) (Bt tick) (m + 202 + 600 * n) (1 + n) H c ⟨w, h', 16 * (N + 1 + 1), tick + 1, 0, l.length, l⟩ P id vr s)
    (fun i st => ∃ c P id vr, FsI cid cvr (16 * (N + 2 + 1)) (tick + 1) (Bt tick) (m + 202 + 600 * i) (1 + i) H c ⟨w, h', 16 * (N + 1 + 1), tick + 1, 0, l.length, l⟩ P id vr st ∧ st.ρ 5 = .c (.int .i64 ((n : Int) - (i : Int))))
    n k (by omega)
    (by
      rintro i st next hi ⟨c3, P, id, vr, I, q5⟩ hx
      obtain ⟨s', c4, P', id', vr', e, I', q5'⟩ := fs_round k cid cvr _ _ _ _ _ H c3 _ P id vr _ I.gc (by omega) (by omega) (by omega) ((n : Int) - (i : Int)) (by simp [q5]) (by omega) (by omega)
      simp only [e, loopNext]
      exact hx s' ⟨c4, P', id', vr', by rw [show m + 202 + 600 * (i + 1) = m + 202 + 600 * i + 600 by omega, show 1 + (i + 1) = 1 + i + 1 by omega]; exact I', by rw [q5']; congr 2; omega⟩)
    (by
      rintro st next ⟨c3, P, id, vr, I, q5⟩
      have q5' : (Eng.gc [0, 3, 4, 5, 999] st).ρ 5 = .c (.int .i64 0) := by simp [q5]
      have I' := I.gc
      obtain ⟨s1, hs1⟩ : ∃ s1, Eng.gc [0, 3, 4, 5, 999] st = s1 := ⟨_, rfl⟩
      rw [hs1] at q5' I' ⊢
      simp [L29_0, R29_0, R29_1, R29_2, R29_3, R29_4, R29_5, R29_6, R29_7, R29_8, R29_9, Tryz.f29, lpL29_0, lpM29_0, M29_0, q5']
      exact ⟨c3, P, id, vr, I'.tk _ (by simp) (by simp) (by simp) rfl (by simp)⟩)
  generalize hr : loopRun _ _ _ _ = res
  obtain ⟨s1, rfl, c3, P, id, vr, I⟩ := loop_at hL hr ⟨c2, [(⟨w, h', 16 * (N + 1 + 1), tick + 1, 0, l.length, l⟩ : Fg)], 16 * (M + 1 + 1), tick + 1 + 1, by
    refine ⟨by simp, by simp, by simp, by simp [putH_app, curO, curE], p2, ?_, ⟨rfl, rfl, l64⟩, ?_, ?_, ?_, by simp, by omega, ?_, by omega, ?_, ic, b1, ?_, ?_, by omega, ?_, ?_, ?_⟩
    · simp only [putH_app]
      rw [if_neg (by omega), if_neg (by omega), if_pos True.intro]
      rfl
    · intro q hq
      rw [List.mem_singleton] at hq
      subst hq
      refine ⟨?_, by show _ ≤ 16 * (N + 1 + 1); omega, by show 16 * (N + 1 + 1) < Bt (tick + 1 + 1 + 1 + 1); omega, by simp⟩
      simp only [putH_app]
      rw [if_neg (by omega), if_neg (by omega), if_neg (by omega), if_neg (by omega), if_pos True.intro]
      rfl
    · simp only [putH_app]
      rw [if_neg (by omega), if_pos True.intro]
      rfl
    · intro q hq
      rw [List.mem_singleton] at hq
      subst hq
      refine ⟨?_, by show _ ≤ 16 * (N + 1 + 1); omega, by show 16 * (N + 1 + 1) < Bt (tick + 1 + 1 + 1 + 1); omega, by simp⟩
      simp only [putH_app]
      rw [if_neg (by omega), if_neg (by omega), if_neg (by omega), if_neg (by omega), if_pos True.intro]
      rfl
    · show _ < Bt (tick + 1 + 1 + 1 + 1)
      omega
    · show _ < Bt (tick + 1 + 1 + 1 + 1)
      omega
    · show _ ≤ Bt (tick + 1 + 1 + 1 + 1)
      omega
    · intro x hx hxc
      simp only [putH_app]
      rw [if_neg hxc, if_neg (by omega), if_neg (by omega), if_neg (by omega), if_neg (by omega), if_neg hxc]
    · show 16 * (N + 1 + 1) ≠ _
      omega
    · show 16 * (N + 1 + 1) ≠ _
      omega
    · intro q hq
      rw [List.mem_singleton] at hq
      subst hq
      show 16 * (N + 1 + 1) ≠ _
      omega, by simp⟩
  obtain ⟨s', P', id', vr', e, a2, a3, a4, a5, a6, a7, a8, a9⟩ := fs_end k cid cvr _ _ _ _ _ H c3 _ P id vr s1 I (by omega) (by omega) (by omega)
  have lt := I.lt
  simp [e, finI, a2]
  exact ⟨_, _, _, _, _, ⟨⟨rfl, rfl, rfl⟩, rfl, rfl⟩, a3, a4, a5, a6, a7, a8, by unfold Bt at lt; omega⟩

end Go.Proofs.YtbjmfjfnilmhhaaGreatDoor.Eng
namespace Go.Proofs.YtbjmfjfnilmhhaaGreatDoor.Eng
open Go Go.Proofs
set_option maxRecDepth 100000
set_option maxHeartbeats 2000000
set_option linter.unusedSimpArgs false
set_option linter.unusedVariables false
attribute [local simp] finK fin1 hpOf xi renQ isRoot runCode runOps stepX inlOf Eng.step wantedV astep val ofO made loadV storeV find V.cells bin binT binA numT numFs eqCells un1 setAt fieldAddrV fieldV indexAddrV indexV bounds sliceV convV lenV foldV max2V min2V callO bor rdsO wrsO seen_none okD_none loops keepIds resV resultsV St.ev TK.agg refs refsL refsO V.one V.isC Value.oneCell' ren renL renO noTag noTagL noTagR noTagO nodup mapO passV frs psi refsR newD loopNext opsAt idx flatAt rootOf backR newsV appendV copyV clearV strV bytesV bldV bufV selfV bytesOf nilCmp buildV fillF chunk freeL frzW cellSame sameV
attribute [local simp] cT cF cX cWR cOW cK cBL X ints_length ints_get ints_getElem ints_drop ints_take ints_append ints_nil ints_set
attribute [local simp] ints_replicate
attribute [local simp] putV_some putV_none putH_app applyD_nil applyD_cons seen_app gc_ρ gc_H gc_tick st0_ρ st0_H st0_tick retV callRo callV_if borL_nil borL_cons ints_snoc take_self callWr cutH_app findQ afterV exportV_0 exportV_n okD_nil okD_cons sub_seq0 sub_seq1 sub_cond0 sub_cond1 sub_block sub_loop sub_nil young_far young_none hidW_nil mayW_nil keepsF_nil keepsF_cons pairs okI ok_0 ok_1 ok_2
attribute [local simp] T3 T4 T5 T9 T22 T24 T33 T36 T38 T45 T48 T51 T52 T54 T56 T71 T72 T74 T77 T99 T104 T117 T121
attribute [local simp] young_near clo cloF Region.binds Nat.testBit hidW declW mayW List.findIdx?_cons
theorem HasG.lo {H : Hp} {P : List Fg} {lo lo' hi : Nat} (h : HasG H P lo hi) (hl : lo' ≤ lo) : HasG H P lo' hi := by
  intro q hq
  obtain ⟨a, b, c, d⟩ := h q hq
  exact ⟨a, by omega, c, d⟩
theorem i_DrawEvaluate (k : Nat) (code : List Int) (hb : ∀ x ∈ code, 0 ≤ x ∧ x ≤ 255) (hl : code.length ≤ maxLen) (H : Hp) (tick : Nat) (ht : 1 ≤ tick) (hk : 700 ≤ k) :
    ∃ l nid nvr P id vr H' tk', (callK C (k + 1)).inl 12 [.sq false true 1 (u8s code)] H tick = some (.tp [.s nid nvr 2 0 l.length, .s id vr 3 0 P.length], H', tk') ∧ l.length ≤ 41 ∧ H' nid = some (nvr, ndO l) ∧ Bt tick ≤ nid ∧ nid < Bt tk' ∧ P.length ≤ 9 ∧ HasG H' P (Bt tick) (Bt tk') ∧ H' id = some (vr, flG P) ∧ Bt tick ≤ id ∧ id < Bt tk' ∧ (∀ x, x < Bt tick → H' x = H x) ∧ tick ≤ tk' := by
  rw [callI_fn F12 code12]
  obtain ⟨k, rfl⟩ : ∃ m, k = m + 1 := ⟨k - 1, by omega⟩
  obtain ⟨l, c1, e1, l41, p1⟩ := c_anyExpression (k + 1) ⟨code, 0, 0⟩ 0 ⟨hb, hl, Nat.le_refl _⟩ (by omega) (by omega)
  simp [curO, curE, ndO] at e1
  have hb1 := Bt_mono ht
  have m0 : Bt tick ≤ Bt (tick + 1) := Bt_mono (by omega)
  obtain ⟨N, hN⟩ : ∃ N, FR 1 (tick + 1) * 64 = N := ⟨_, rfl⟩
  obtain ⟨M, hM⟩ : ∃ M, FR 2 (tick + 1 + 1) * 64 = M := ⟨_, rfl⟩
  have n1 := FR_lo 1 (tick + 1) 3
  have n1' := FR_hi 1 (tick + 1) 3 (by omega)
  have n2 := FR_lo 2 (tick + 1 + 1) 2
  have n2' := FR_hi 2 (tick + 1 + 1) 3 (by omega)
  rw [hN] at n1 n1'
  rw [hM] at n2 n2'
  have m1 : Bt (tick + 1 + 1 + 1) ≤ Bt (tick + 1 + 1 + 1 + 1) := Bt_mono (by omega)
  have m2 : Bt (tick + 1) ≤ Bt (tick + 1 + 1) := Bt_mono (by omega)
  simp [R12_0, R12_1, R12_2, R12_3, Tryz.f12, e1, hN, hM]
  generalize hr : (callK C (k + 1)).inl 29 _ _ _ = res
  obtain ⟨P, id, vr, H', tk', e, P9, hP, Ho, i0, i1, old, le⟩ := i_fields k (16 * (N + 2 + 1)) (tick + 1) c1 300 (putH (putH (putH H (16 * (N + 2 + 1)) (some (tick + 1, curO ⟨code, 0, 0⟩))) (16 * (N + 2 + 1)) (some (tick + 1, curO c1))) (16 * (M + 1 + 1)) (some (tick + 1 + 1, ndO l))) (tick + 1 + 1 + 1 + 1) (by simp only [putH_app]; rw [if_neg (by omega), if_pos True.intro]) (by simpa using p1) (by omega) (by omega) (by omega) (by omega)
  have hr' := hr.symm.trans e
  subst hr'
  have ml := Bt_mono le
  have m3 : Bt tk' ≤ Bt (tk' + 1) := Bt_mono (by omega)
  simp [finI]
  refine ⟨_, _, _, _, _, _, _, _, ⟨⟨⟨rfl, rfl, rfl⟩, rfl, rfl, rfl⟩, rfl, rfl⟩, l41, ?_, by omega, by omega, P9, ?_, Ho, by omega, by omega, ?_, by omega⟩
  · rw [old _ (by omega) (by omega), putH_app, if_pos rfl]
  · exact (hP.lo (by omega)).keep (fun _ _ _ => rfl) m3
  · intro x hx
    rw [old x (by omega) (by omega)]
    simp only [putH_app]
    rw [if_neg (by omega), if_neg (by omega), if_neg (by omega)]

end Go.Proofs.YtbjmfjfnilmhhaaGreatDoor.Eng
namespace Go.Proofs.YtbjmfjfnilmhhaaGreatDoor.Eng
open Go Go.Proofs
set_option maxRecDepth 100000
set_option maxHeartbeats 2000000
set_option linter.unusedSimpArgs false
set_option linter.unusedVariables false
attribute [local simp] finK fin1 hpOf xi renQ isRoot runCode runOps stepX inlOf Eng.step wantedV astep val ofO made loadV storeV find V.cells bin binT binA numT numFs eqCells un1 setAt fieldAddrV fieldV indexAddrV indexV bounds sliceV convV lenV foldV max2V min2V callO bor rdsO wrsO seen_none okD_none loops keepIds resV resultsV St.ev TK.agg refs refsL refsO V.one V.isC Value.oneCell' ren renL renO noTag noTagL noTagR noTagO nodup mapO passV frs psi refsR newD loopNext opsAt idx flatAt rootOf backR newsV appendV copyV clearV strV bytesV bldV bufV selfV bytesOf nilCmp buildV fillF chunk freeL frzW cellSame sameV
attribute [local simp] cT cF cX cWR cOW cK cBL X ints_length ints_get ints_getElem ints_drop ints_take ints_append ints_nil ints_set
attribute [local simp] ints_replicate
attribute [local simp] putV_some putV_none putH_app applyD_nil applyD_cons seen_app gc_ρ gc_H gc_tick st0_ρ st0_H st0_tick retV callRo callV_if borL_nil borL_cons ints_snoc take_self callWr cutH_app findQ afterV exportV_0 exportV_n okD_nil okD_cons sub_seq0 sub_seq1 sub_cond0 sub_cond1 sub_block sub_loop sub_nil young_far young_none hidW_nil mayW_nil keepsF_nil keepsF_cons pairs okI ok_0 ok_1 ok_2
attribute [local simp] T3 T4 T5 T9 T22 T24 T33 T36 T38 T45 T48 T51 T52 T54 T56 T71 T72 T74 T77 T99 T104 T117 T121
def bs (l : List UInt8) : ByteArray := ⟨l.toArray⟩
theorem bs_size (l : List UInt8) : (bs l).size = l.length := by simp [bs, ByteArray.size]
theorem bs_append (l m : List UInt8) : bs l ++ bs m = bs (l ++ m) := by
  apply ByteArray.ext
  simp [bs]
theorem dig_slice (c : Nat) (h : c < 10) : sliceV T 9 (.c (.string ⟨#[48, 49, 50, 51, 52, 53, 54, 55, 56, 57]⟩)) (some (.c (.int .i64 (c : Int)))) (some (.c (.int .i64 ((c : Int) + 1)))) none = some (.c (.string (bs [UInt8.ofNat (48 + c)]))) := by
  have : c = 0 ∨ c = 1 ∨ c = 2 ∨ c = 3 ∨ c = 4 ∨ c = 5 ∨ c = 6 ∨ c = 7 ∨ c = 8 ∨ c = 9 := by omega
  rcases this with rfl | rfl | rfl | rfl | rfl | rfl | rfl | rfl | rfl | rfl <;> rfl
theorem dec_length {u : Nat} (h : u ≤ 9223372036854775807) : (Lib.decDigits u).length ≤ 21 := by
  have := Lib.itoa_length_le (u : Int) (by omega) (by omega)
  rwa [Lib.itoa_nonneg] at this
theorem c_l1NumNat : ∀ m u : Nat, u < 10 ^ m → u ≤ 1000000000000 → ∀ k, m + 1 ≤ k → callK C k 45 [.c (.int .i64 (u : Int))] [] = some (.c (.string (bs (Lib.decDigits u))), hpOf [] []) := by
  intro m
  induction m with
  | zero =>
    intro u hu _ k hk
    obtain rfl : u = 0 := by omega
    obtain ⟨k, rfl⟩ : ∃ m, k = m + 1 := ⟨k - 1, by omega⟩
    rw [callK_fn rfl F45 code45]
    have hd := dig_slice 0 (by omega)
    have e : Lib.decDigits 0 = [UInt8.ofNat (48 + 0)] := Lib.decDigits_one (by omega)
    simp [-sliceV] at hd
    simp [-sliceV, R45_0, R45_1, R45_2, R45_3, R45_4, R45_5, Tryz.f45, hd, e, wrap_1]
  | succ m ih =>
    intro u hu hu' k hk
    obtain ⟨k, rfl⟩ : ∃ m, k = m + 1 := ⟨k - 1, by omega⟩
    rw [callK_fn rfl F45 code45]
    by_cases h : u < 10
    · have hd := dig_slice u h
      have e := Lib.decDigits_one h
      have w1 : IntKind.i64.wrap ((u : Int) + 1) = (u : Int) + 1 := wrap_small (by omega) (by omega)
      have g1 : ¬ ((u : Int) < 0) := by omega
      have g2 : (u : Int) < 10 := by omega
      simp [-sliceV, R45_0, R45_1, R45_2, R45_3, R45_4, R45_5, Tryz.f45, hd, e, w1, g1, g2]
    · rw [Nat.pow_succ] at hu
      obtain ⟨q, hq⟩ : ∃ q, u / 10 = q := ⟨_, rfl⟩
      obtain ⟨c, hc⟩ : ∃ c, u % 10 = c := ⟨_, rfl⟩
      have hr := ih q (by omega) (by omega) k (by omega)
      have hd := dig_slice c (by omega)
      have e1 : (u : Int) / 10 = (q : Int) := by omega
      have e2 : (u : Int).tmod 10 = (c : Int) := by rw [← hc]; rfl
      have e3 : Lib.decDigits u = Lib.decDigits q ++ [UInt8.ofNat (48 + c)] := by rw [Lib.decDigits, dif_neg h, hq, hc]
      have w0 : IntKind.i64.wrap (q : Int) = (q : Int) := wrap_small (by omega) (by omega)
      have w1 : IntKind.i64.wrap ((c : Int) + 1) = (c : Int) + 1 := wrap_small (by omega) (by omega)
      have g1 : ¬ ((u : Int) < 0) := by omega
      have g2 : ¬ ((u : Int) < 10) := by omega
      have l1 := dec_length (u := q) (by omega)
      have l2 : (Lib.decDigits q).length + 1 ≤ 9223372036854775807 := by omega
      simp [-sliceV, R45_0, R45_1, R45_2, R45_3, R45_4, R45_5, Tryz.f45, hr, hd, e1, e2, e3, w0, w1, g1, g2, bs_size, bs_append, l2]
theorem c_l1Num (k : Nat) (n : Int) (h0 : -1000000000000 ≤ n) (h1 : n ≤ 1000000000000) (hk : 30 ≤ k) : callK C k 45 [.c (.int .i64 n)] [] = some (.c (.string (bs (Lib.itoa n))), hpOf [] []) := by
  by_cases h : n < 0
  · obtain ⟨k, rfl⟩ : ∃ m, k = m + 1 := ⟨k - 1, by omega⟩
    rw [callK_fn rfl F45 code45]
    obtain ⟨u, rfl⟩ : ∃ u : Nat, n = -(u : Int) := ⟨n.natAbs, by omega⟩
    have hr := c_l1NumNat 13 u (by omega) (by omega) k (by omega)
    have e : Lib.itoa (-(u : Int)) = 45 :: Lib.decDigits u := Lib.itoa_neg u (by omega)
    have w1 : IntKind.i64.wrap (u : Int) = (u : Int) := wrap_small (by omega) (by omega)
    have l1 := dec_length (u := u) (by omega)
    have l2 : 1 + (Lib.decDigits u).length ≤ 9223372036854775807 := by omega
    have b1 : (⟨#[45]⟩ : ByteArray) = bs [45] := rfl
    have hu : 0 < u := by omega
    simp [R45_0, R45_1, R45_2, R45_3, R45_4, R45_5, Tryz.f45, hr, e, w1, b1, bs_size, bs_append, l2, hu]
  · obtain ⟨u, rfl⟩ : ∃ u : Nat, n = (u : Int) := ⟨n.toNat, by omega⟩
    rw [Lib.itoa_nonneg]
    exact c_l1NumNat 13 u (by omega) (by omega) k (by omega)
theorem c_Itoa (k : Nat) (n : Int) (h0 : -9223372036854775808 ≤ n) (h1 : n ≤ 9223372036854775807) (hk : 1 ≤ k) : callK C k 40 [.c (.int .i64 n)] [] = some (.c (.string (bs (Lib.itoa n))), hpOf [] []) := by
  obtain ⟨k, rfl⟩ : ∃ m, k = m + 1 := ⟨k - 1, by omega⟩
  simp only [callK]
  have hx : C.ext 40 = some ext40 := rfl
  rw [hx]
  simp [ext40, h0, h1, bs]

end Go.Proofs.YtbjmfjfnilmhhaaGreatDoor.Eng
namespace Go.Proofs.YtbjmfjfnilmhhaaGreatDoor.Eng
open Go Go.Proofs
set_option maxRecDepth 100000
set_option maxHeartbeats 2000000
set_option linter.unusedSimpArgs false
set_option linter.unusedVariables false
attribute [local simp] finK fin1 hpOf xi renQ isRoot runCode runOps stepX inlOf Eng.step wantedV astep val ofO made loadV storeV find V.cells bin binT binA numT numFs eqCells un1 setAt fieldAddrV fieldV indexAddrV indexV bounds sliceV convV lenV foldV max2V min2V callO bor rdsO wrsO seen_none okD_none loops keepIds resV resultsV St.ev TK.agg refs refsL refsO V.one V.isC Value.oneCell' ren renL renO noTag noTagL noTagR noTagO nodup mapO passV frs psi refsR newD loopNext opsAt idx flatAt rootOf backR newsV appendV copyV clearV strV bytesV bldV bufV selfV bytesOf nilCmp buildV fillF chunk freeL frzW cellSame sameV
attribute [local simp] cT cF cX cWR cOW cK cBL X ints_length ints_get ints_getElem ints_drop ints_take ints_append ints_nil ints_set
attribute [local simp] ints_replicate
attribute [local simp] putV_some putV_none putH_app applyD_nil applyD_cons seen_app gc_ρ gc_H gc_tick st0_ρ st0_H st0_tick retV callRo callV_if borL_nil borL_cons ints_snoc take_self callWr cutH_app findQ afterV exportV_0 exportV_n okD_nil okD_cons sub_seq0 sub_seq1 sub_cond0 sub_cond1 sub_block sub_loop sub_nil young_far young_none hidW_nil mayW_nil keepsF_nil keepsF_cons pairs okI ok_0 ok_1 ok_2
attribute [local simp] T3 T4 T5 T9 T22 T24 T33 T36 T38 T45 T48 T51 T52 T54 T56 T71 T72 T74 T77 T99 T104 T117 T121
theorem lit0 : (⟨#[]⟩ : ByteArray) = bs [] := rfl
theorem lit1 (a : UInt8) : (⟨#[a]⟩ : ByteArray) = bs [a] := rfl
theorem bs_data (l : List UInt8) : (bs l).data.toList = l := by simp [bs]
theorem bs_of (s : ByteArray) : ∃ l, s = bs l := ⟨s.data.toList, by cases s; simp [bs]⟩
theorem byteAt_bs {l : List UInt8} {i : Nat} (h : i < l.length) : byteAt (bs l) (i : Int) = ((l[i].toNat : Nat) : Int) := by
  unfold byteAt
  rw [bs_data]
  simp [List.getD, List.getElem?_eq_getElem h]
def ckS (h : Int) (c : UInt8) : Int := (41 * h + (c.toNat : Int) + 1).tmod 999979
def ckL (l : List UInt8) : Int := l.foldl ckS 7
theorem ck_bound : ∀ (l : List UInt8) (h : Int), 0 ≤ h → h < 999979 → 0 ≤ l.foldl ckS h ∧ l.foldl ckS h < 999979
  | [], h, a, b => ⟨a, b⟩
  | c :: l, h, a, b => by
    rw [List.foldl_cons]
    have hc : c.toNat < 256 := c.toNat_lt
    exact ck_bound l _ (Int.tmod_nonneg _ (by omega)) (Int.tmod_lt_of_pos _ (by omega))
theorem ck_take {l : List UInt8} {i : Nat} (h : i < l.length) : ckL (l.take (i + 1)) = ckS (ckL (l.take i)) l[i] := by
  unfold ckL
  rw [List.take_succ_eq_append_getElem h, List.foldl_append]
  rfl
def hasB1 (l : List UInt8) : Bool := decide (0 ≤ Lib.indexByte l 35)
def sealL (l : List UInt8) : List UInt8 := l ++ (35 :: Lib.itoa (ckL l))
theorem itoa_len (l : List UInt8) : (Lib.itoa (ckL l)).length ≤ 21 := by
  have b := ck_bound l 7 (by omega) (by omega)
  unfold ckL
  exact Lib.itoa_length_le _ (by omega) (by omega)
def appB (l : List UInt8) : Bool := decide (l.length ≤ 4000) && (!hasB1 l && decide ((sealL l).length ≤ 4000))

end Go.Proofs.YtbjmfjfnilmhhaaGreatDoor.Eng
namespace Go.Proofs.YtbjmfjfnilmhhaaGreatDoor.Eng
open Go Go.Proofs
set_option maxRecDepth 100000
set_option maxHeartbeats 2000000
set_option linter.unusedSimpArgs false
set_option linter.unusedVariables false
attribute [local simp] finK fin1 hpOf xi renQ isRoot runCode runOps stepX inlOf Eng.step wantedV astep val ofO made loadV storeV find V.cells bin binT binA numT numFs eqCells un1 setAt fieldAddrV fieldV indexAddrV indexV bounds sliceV convV lenV foldV max2V min2V callO bor rdsO wrsO seen_none okD_none loops keepIds resV resultsV St.ev TK.agg refs refsL refsO V.one V.isC Value.oneCell' ren renL renO noTag noTagL noTagR noTagO nodup mapO passV frs psi refsR newD loopNext opsAt idx flatAt rootOf backR newsV appendV copyV clearV strV bytesV bldV bufV selfV bytesOf nilCmp buildV fillF chunk freeL frzW cellSame sameV
attribute [local simp] cT cF cX cWR cOW cK cBL X ints_length ints_get ints_getElem ints_drop ints_take ints_append ints_nil ints_set
attribute [local simp] ints_replicate
attribute [local simp] putV_some putV_none putH_app applyD_nil applyD_cons seen_app gc_ρ gc_H gc_tick st0_ρ st0_H st0_tick retV callRo callV_if borL_nil borL_cons ints_snoc take_self callWr cutH_app findQ afterV exportV_0 exportV_n okD_nil okD_cons sub_seq0 sub_seq1 sub_cond0 sub_cond1 sub_block sub_loop sub_nil young_far young_none hidW_nil mayW_nil keepsF_nil keepsF_cons pairs okI ok_0 ok_1 ok_2
attribute [local simp] T3 T4 T5 T9 T22 T24 T33 T36 T38 T45 T48 T51 T52 T54 T56 T71 T72 T74 T77 T99 T104 T117 T121
theorem bs_toList (l : List UInt8) : (bs l).toList = l := by rw [Lib.toList_data, bs_data]
theorem bs_neq (l m : List UInt8) : ((bs l).toList == (bs m).toList) = decide (l = m) := by
  rw [bs_toList, bs_toList]
  by_cases h : l = m <;> simp [h]
theorem bs_extract (l : List UInt8) (a b : Nat) : (bs l).extract a b = bs ((l.drop a).take (b - a)) := by
  apply ByteArray.ext
  simp [bs, ByteArray.data_extract]
def spS (l : List UInt8) (b : UInt8) : Nat → List (List UInt8) × Nat
  | 0 => ([], 0)
  | i + 1 => if l[i]? = some b then ((spS l b i).1 ++ [(l.drop (spS l b i).2).take (i - (spS l b i).2)], i + 1) else spS l b i
def splitL (l : List UInt8) (b : UInt8) : List (List UInt8) := (spS l b l.length).1 ++ [l.drop (spS l b l.length).2]
theorem spS_le (l : List UInt8) (b : UInt8) : ∀ i, (spS l b i).2 ≤ i ∧ (spS l b i).1.length ≤ i
  | 0 => by simp [spS]
  | i + 1 => by
    have := spS_le l b i
    unfold spS
    split
    · simp; omega
    · omega
theorem spS_yes {l : List UInt8} {b : UInt8} {i : Nat} (h : l[i]? = some b) : spS l b (i + 1) = ((spS l b i).1 ++ [(l.drop (spS l b i).2).take (i - (spS l b i).2)], i + 1) := by simp [spS, h]
theorem spS_no {l : List UInt8} {b : UInt8} {i : Nat} (h : ¬ l[i]? = some b) : spS l b (i + 1) = spS l b i := by simp [spS, h]
/-- What stands ahead of the first byte b. -/
def headL (l : List UInt8) (b : UInt8) : List UInt8 := if Lib.indexByte l b = -1 then l else l.take (Lib.indexByte l b).toNat
theorem spS_none {l : List UInt8} {b : UInt8} (o : Nat) (h : ∀ k, k < o → l[k]? ≠ some b) : ∀ i, i ≤ o → spS l b i = ([], 0)
  | 0, _ => rfl
  | i + 1, hi => by rw [spS_no (h i (by omega)), spS_none o h i (by omega)]
theorem spS_some {l : List UInt8} {b : UInt8} {o : Nat} (h0 : l[o]? = some b) (h : ∀ k, k < o → l[k]? ≠ some b) : ∀ d, ∃ r, (spS l b (o + 1 + d)).1 = l.take o :: r
  | 0 => by
    refine ⟨[], ?_⟩
    rw [Nat.add_zero, spS_yes h0, spS_none o h o (Nat.le_refl _)]
    simp
  | d + 1 => by
    obtain ⟨r, hr⟩ := spS_some h0 h d
    by_cases hx : l[o + 1 + d]? = some b
    · rw [← Nat.add_assoc, spS_yes hx]
      exact ⟨r ++ [(l.drop (spS l b (o + 1 + d)).2).take (o + 1 + d - (spS l b (o + 1 + d)).2)], by rw [hr]; rfl⟩
    · rw [← Nat.add_assoc, spS_no hx]
      exact ⟨r, hr⟩
theorem split_head (l : List UInt8) (b : UInt8) : ∃ r, splitL l b = headL l b :: r := by
  unfold splitL headL
  by_cases hn : Lib.indexByte l b = -1
  · have hno := Lib.indexByte_none hn
    rw [spS_none l.length (fun k _ => hno k) l.length (Nat.le_refl _), if_pos hn]
    exact ⟨[], by simp⟩
  · have hge := Lib.indexByte_ge l b
    obtain ⟨o, ho⟩ : ∃ o : Nat, Lib.indexByte l b = o := ⟨(Lib.indexByte l b).toNat, by omega⟩
    obtain ⟨h1, h2⟩ := Lib.indexByte_some ho
    have hol : o < l.length := (List.getElem?_eq_some_iff.1 h1).1
    obtain ⟨r, hr⟩ := spS_some h1 h2 (l.length - (o + 1))
    rw [show o + 1 + (l.length - (o + 1)) = l.length by omega] at hr
    rw [if_neg hn, hr, ho]
    exact ⟨r ++ [l.drop (spS l b l.length).2], by simp⟩
def strs (p : List (List UInt8)) : List (List V) := p.map fun x => [.c (.string (bs x))]
def strsO (p : List (List UInt8)) : Eng.Obj := ⟨9, 1, true, strs p⟩
theorem strs_snoc (p : List (List UInt8)) (x : List UInt8) : strs p ++ [[V.c (.string (bs x))]] = strs (p ++ [x]) := by simp [strs]
theorem strs_length (p : List (List UInt8)) : (strs p).length = p.length := by simp [strs]
theorem strs_take (p : List (List UInt8)) (n : Nat) : (strs p).take n = strs (p.take n) := by simp [strs]
theorem strs_nil : strs [] = [] := rfl
theorem okS (ty : TypeId) (p : List (List UInt8)) : okObj ⟨ty, 1, true, strs p⟩ = true := by simp [okObj, strs, V.one, V.isC, Value.oneCell']
theorem strs_one (x : List UInt8) : [[V.c (.string (bs x))]] = strs [x] := rfl
/-- A list of texts that grows. -/
def Cs (v : V) (H : Hp) (p : List (List UInt8)) : Prop := (p = [] ∧ v = .s 1040 2 1 0 0 ∧ H 1040 = some (2, strsO [])) ∨ (p ≠ [] ∧ ∃ tk, v = .s 7288 tk 1 0 p.length ∧ H 7288 = some (tk, strsO p))

end Go.Proofs.YtbjmfjfnilmhhaaGreatDoor.Eng
namespace Go.Proofs.YtbjmfjfnilmhhaaGreatDoor.Eng
open Go Go.Proofs
set_option maxRecDepth 100000
set_option maxHeartbeats 2000000
set_option linter.unusedSimpArgs false
set_option linter.unusedVariables false
attribute [local simp] finK fin1 hpOf xi renQ isRoot runCode runOps stepX inlOf Eng.step wantedV astep val ofO made loadV storeV find V.cells bin binT binA numT numFs eqCells un1 setAt fieldAddrV fieldV indexAddrV indexV bounds sliceV convV lenV foldV max2V min2V callO bor rdsO wrsO seen_none okD_none loops keepIds resV resultsV St.ev TK.agg refs refsL refsO V.one V.isC Value.oneCell' ren renL renO noTag noTagL noTagR noTagO nodup mapO passV frs psi refsR newD loopNext opsAt idx flatAt rootOf backR newsV appendV copyV clearV strV bytesV bldV bufV selfV bytesOf nilCmp buildV fillF chunk freeL frzW cellSame sameV
attribute [local simp] cT cF cX cWR cOW cK cBL X ints_length ints_get ints_getElem ints_drop ints_take ints_append ints_nil ints_set
attribute [local simp] ints_replicate
attribute [local simp] putV_some putV_none putH_app applyD_nil applyD_cons seen_app gc_ρ gc_H gc_tick st0_ρ st0_H st0_tick retV callRo callV_if borL_nil borL_cons ints_snoc take_self callWr cutH_app findQ afterV exportV_0 exportV_n okD_nil okD_cons sub_seq0 sub_seq1 sub_cond0 sub_cond1 sub_block sub_loop sub_nil young_far young_none hidW_nil mayW_nil keepsF_nil keepsF_cons pairs okI ok_0 ok_1 ok_2
attribute [local simp] T3 T4 T5 T9 T22 T24 T33 T36 T38 T45 T48 T51 T52 T54 T56 T71 T72 T74 T77 T99 T104 T117 T121
theorem decFrom_append : ∀ (l m : List UInt8) (acc : Nat), Lib.decFrom acc (l ++ m) = (Lib.decFrom acc l).bind fun n => Lib.decFrom n m
  | [], m, acc => by simp [Lib.decFrom]
  | b :: l, m, acc => by
    simp only [List.cons_append, Lib.decFrom]
    cases Lib.digitVal b with
    | none => rfl
    | some d => exact decFrom_append l m _
theorem digit_ofNat {d : Nat} (h : d < 10) : Lib.digitVal (UInt8.ofNat (48 + d)) = some d := by
  unfold Lib.digitVal
  have : (UInt8.ofNat (48 + d)).toNat = 48 + d := by rw [UInt8.toNat_ofNat']; omega
  rw [this, if_pos (by omega)]
  congr 1
  omega
theorem dec_digits (u : Nat) : Lib.decFrom 0 (Lib.decDigits u) = some u := by
  induction u using Nat.strongRecOn with
  | _ u ih =>
    rw [Lib.decDigits]
    split
    · rename_i h
      simp only [Lib.decFrom, digit_ofNat h, Nat.zero_mul, Nat.zero_add]
    · rename_i h
      rw [decFrom_append, ih (u / 10) (by omega)]
      simp only [Option.bind_some, Lib.decFrom, digit_ofNat (by omega : u % 10 < 10)]
      congr 1
      omega
theorem dec_pos (u : Nat) : 0 < (Lib.decDigits u).length := by
  rw [Lib.decDigits]
  split <;> simp
theorem dec_head (u : Nat) : ∃ b r, Lib.decDigits u = b :: r ∧ 48 ≤ b.toNat ∧ b.toNat ≤ 57 := by
  obtain ⟨b, r, h⟩ : ∃ b r, Lib.decDigits u = b :: r := by
    cases h : Lib.decDigits u with
    | nil => have := dec_pos u; rw [h] at this; simp at this
    | cons b r => exact ⟨b, r, rfl⟩
  obtain ⟨d, hd⟩ := Lib.digit_of_decFrom _ _ _ (dec_digits u) 0 b (by rw [h]; rfl)
  unfold Lib.digitVal at hd
  split at hd
  · rename_i hh; exact ⟨b, r, h, hh⟩
  · cases hd
theorem dec_lt : ∀ (l : List UInt8) (acc n k : Nat), Lib.decFrom acc l = some n → acc < 10 ^ k → n < 10 ^ (k + l.length)
  | [], acc, n, k, h, ha => by simp only [Lib.decFrom, Option.some.injEq] at h; subst h; simpa using ha
  | b :: l, acc, n, k, h, ha => by
    simp only [Lib.decFrom] at h
    cases hb : Lib.digitVal b with
    | none => rw [hb] at h; cases h
    | some d =>
      rw [hb] at h
      have hd : d < 10 := by
        unfold Lib.digitVal at hb
        split at hb
        · cases hb; omega
        · cases hb
      have := dec_lt l (acc * 10 + d) n (k + 1) h (by rw [Nat.pow_succ]; omega)
      rw [show k + (b :: l).length = k + 1 + l.length by simp; omega]
      exact this
theorem dec_len6 {u : Nat} (h : u ≤ 999999) : (Lib.decDigits u).length ≤ 6 := by
  rw [Lib.decDigits_length]
  have : ∀ (k u : Nat), u < 10 ^ (k + 1) → Lib.nDigits u ≤ k + 1 := by
    intro k
    induction k with
    | zero => intro u hu; rw [Lib.nDigits_small (by omega)]; omega
    | succ k ih =>
      intro u hu
      by_cases h10 : u < 10
      · rw [Lib.nDigits_small h10]; omega
      · rw [Lib.nDigits_big h10]
        have := ih (u / 10) (by rw [Nat.pow_succ] at hu; omega)
        omega
  exact this 5 u (by omega)
/-- A number's text without its sign. -/
def unsg (l : List UInt8) : List UInt8 := if 1 < l.length ∧ l[0]? = some 45 then l.drop 1 else l
theorem unsg_itoa (n : Int) : unsg (Lib.itoa n) = Lib.decDigits n.natAbs ∧ ((unsg (Lib.itoa n)).length < (Lib.itoa n).length ↔ n < 0) := by
  obtain ⟨b, r, hb, h1, h2⟩ := dec_head n.natAbs
  have hp := dec_pos n.natAbs
  unfold Lib.itoa
  by_cases h : n < 0
  · rw [if_pos h]
    have : unsg (45 :: Lib.decDigits n.natAbs) = Lib.decDigits n.natAbs := by
      unfold unsg
      rw [if_pos (by simp; exact hp)]
      rfl
    rw [this]
    simp [h]
  · rw [if_neg h]
    have e : n.toNat = n.natAbs := by omega
    rw [e]
    have : unsg (Lib.decDigits n.natAbs) = Lib.decDigits n.natAbs := by
      unfold unsg
      rw [if_neg]
      rw [hb]
      rintro ⟨_, h3⟩
      simp at h3
      subst h3
      simp at h1
    rw [this]
    simp [h]
/-- The number whose text this is. -/
noncomputable def pI (l : List UInt8) : Option Int := open Classical in if h : ∃ n : Int, -999999 ≤ n ∧ n ≤ 999999 ∧ Lib.itoa n = l then some h.choose else none
theorem dec_inj {u v : Nat} (h : Lib.decDigits u = Lib.decDigits v) : u = v := by
  have := dec_digits u
  rw [h, dec_digits v] at this
  exact (Option.some.inj this).symm
theorem itoa_inj {n m : Int} (h : Lib.itoa n = Lib.itoa m) : n = m := by
  obtain ⟨a1, a2⟩ := unsg_itoa n
  obtain ⟨b1, b2⟩ := unsg_itoa m
  rw [h] at a1 a2
  have := dec_inj (a1.symm.trans b1)
  by_cases hn : n < 0
  · have hm := b2.1 (a2.2 hn); omega
  · have hm : ¬ m < 0 := fun hm => hn (a2.1 (b2.2 hm)); omega
theorem pI_some {n : Int} (h0 : -999999 ≤ n) (h1 : n ≤ 999999) : pI (Lib.itoa n) = some n := by
  have hx : ∃ m : Int, -999999 ≤ m ∧ m ≤ 999999 ∧ Lib.itoa m = Lib.itoa n := ⟨n, h0, h1, rfl⟩
  unfold pI
  rw [dif_pos hx]
  exact congrArg some (itoa_inj hx.choose_spec.2.2)
theorem pI_inv {l : List UInt8} {n : Int} (h : pI l = some n) : -999999 ≤ n ∧ n ≤ 999999 ∧ Lib.itoa n = l := by
  unfold pI at h
  split at h
  · rename_i hx; cases h; exact hx.choose_spec
  · cases h
theorem itoa_len7 {n : Int} (h0 : -999999 ≤ n) (h1 : n ≤ 999999) : (Lib.itoa n).length ≤ 7 := by
  have := dec_len6 (u := n.natAbs) (by omega)
  unfold Lib.itoa
  split
  · simp; omega
  · rw [show n.toNat = n.natAbs by omega]; omega
theorem atoi_itoa (n : Int) : Lib.atoi (Lib.itoa n) = some n := by
  obtain ⟨b, r, hb, h1, h2⟩ := dec_head n.natAbs
  have hd := dec_digits n.natAbs
  have hdn : Lib.decNat (Lib.decDigits n.natAbs) = some n.natAbs := by
    unfold Lib.decNat
    rw [hd, hb]
    rfl
  unfold Lib.itoa
  by_cases h : n < 0
  · rw [if_pos h]
    simp only [Lib.atoi, beq_self_eq_true, if_true, hdn, Option.map_some]
    congr 1
    omega
  · rw [if_neg h, show n.toNat = n.natAbs by omega]
    rw [hb] at hdn ⊢
    have e1 : (b == 45) = false := by
      rw [beq_eq_false_iff_ne]; rintro rfl; simp at h1
    have e2 : (b == 43) = false := by
      rw [beq_eq_false_iff_ne]; rintro rfl; simp at h1
    simp only [Lib.atoi, e1, e2, Bool.false_eq_true, if_false, hdn, Option.map_some]
    congr 1
    omega
theorem atoiAll_itoa {n : Int} (h0 : -999999 ≤ n) (h1 : n ≤ 999999) : Lib.atoiAll (Lib.itoa n) = .ok n := by
  rw [Lib.atoiAll_short _ (by have := itoa_len7 h0 h1; omega), atoi_itoa]
  rfl
noncomputable def pV (l : List UInt8) : Int := (pI l).getD 0
noncomputable def pB (l : List UInt8) : Bool := (pI l).isSome
theorem c_implParse (k : Nat) (l : List UInt8) (h20 : l.length ≤ 281474976710656) (hk : 10 ≤ k) : callK C k 94 [.c (.string (bs l))] [] = some (.tp [.c (.int .i64 (pV l)), .c (.bool (pB l))], hpOf [] []) := by
  obtain ⟨k, rfl⟩ : ∃ m, k = m + 3 := ⟨k - 3, by omega⟩
  rw [callK_fn rfl F94 code94]
  have hx : callK C (k + 2) 106 [.c (.string (bs l))] [] = (match Lib.atoiAll l with
    | .ok v => some (.tp [.c (.int .i64 v), .c .nilIface], hpOf [] [])
    | .«syntax» => some (.tp [.c (.int .i64 0), .er], hpOf [] [])
    | .range => some (.tp [.c (.int .i64 (Lib.atoiSat l)), .er], hpOf [] [])) := by
    simp only [callK, cX, X, ext106, bs_size, h20, if_true]
    have : (bs l).data.toList = l := by simp [bs]
    rw [this]
    cases Lib.atoiAll l <;> simp
  have hwf : ∀ v : Int, callK C (k + 2) 30 [.c (.int .i64 v), .c (.int .i64 (-999999)), .c (.int .i64 999999)] [] = some (.c (.bool (decide (-999999 ≤ v) && decide (v ≤ 999999))), hpOf [] []) := fun v => c_within (k + 2) v (-999999) 999999 (by omega)
  cases ha : Lib.atoiAll l with
  | ok v =>
    rw [ha] at hx
    simp only [] at hx
    have hw := hwf v
    by_cases hr : -999999 ≤ v ∧ v ≤ 999999
    · have hit := c_Itoa (k + 2) v (by omega) (by omega) (by omega)
      simp [hr] at hw
      by_cases he : Lib.itoa v = l
      · have e := pI_some hr.1 hr.2
        rw [he] at e
        have hbq : ((bs (Lib.itoa v)).toList == (bs l).toList) = true := by rw [he]; simp
        have hbe : (bs (Lib.itoa v)).toList = (bs l).toList := by rw [he]
        simp [R94_0, R94_1, R94_2, R94_3, R94_4, Tryz.f94, hx, hw, hit, hbq, hbe, undef, pV, pB, e]
      · have e : pI l = none := by
          cases h : pI l with
          | none => rfl
          | some n =>
            obtain ⟨h1, h2, h3⟩ := pI_inv h
            have := atoiAll_itoa h1 h2
            rw [h3, ha] at this
            cases this
            exact absurd h3 he
        have hbe : ¬ (bs (Lib.itoa v)).toList = (bs l).toList := by
          rw [Lib.toList_data, Lib.toList_data]
          simpa [bs] using he
        simp [R94_0, R94_1, R94_2, R94_3, R94_4, Tryz.f94, hx, hw, hit, hbe, undef, pV, pB, e]
    · have e : pI l = none := by
        cases h : pI l with
        | none => rfl
        | some n =>
          obtain ⟨h1, h2, h3⟩ := pI_inv h
          have := atoiAll_itoa h1 h2
          rw [h3, ha] at this
          cases this
          exact absurd ⟨h1, h2⟩ hr
      have hb : (decide (-999999 ≤ v) && decide (v ≤ 999999)) = false := by
        simp only [Bool.and_eq_false_iff, decide_eq_false_iff_not]; omega
      rw [hb] at hw
      simp [R94_0, R94_1, R94_2, R94_3, R94_4, Tryz.f94, hx, hw, undef, pV, pB, e]
  | «syntax» =>
    rw [ha] at hx
    simp only [] at hx
    have e : pI l = none := by
      cases h : pI l with
      | none => rfl
      | some n =>
        obtain ⟨h1, h2, h3⟩ := pI_inv h
        have := atoiAll_itoa h1 h2
        rw [h3, ha] at this
        cases this
    simp [R94_0, R94_1, R94_2, R94_3, R94_4, Tryz.f94, hx, nilCmp, undef, pV, pB, e]
  | range =>
    rw [ha] at hx
    simp only [] at hx
    have e : pI l = none := by
      cases h : pI l with
      | none => rfl
      | some n =>
        obtain ⟨h1, h2, h3⟩ := pI_inv h
        have := atoiAll_itoa h1 h2
        rw [h3, ha] at this
        cases this
    simp [R94_0, R94_1, R94_2, R94_3, R94_4, Tryz.f94, hx, nilCmp, undef, pV, pB, e]
theorem pI_unsg {l : List UInt8} {n : Int} (h : pI l = some n) : unsg l = Lib.decDigits n.natAbs ∧ 1 ≤ (unsg l).length ∧ (unsg l).length ≤ 6 := by
  obtain ⟨h1, h2, h3⟩ := pI_inv h
  obtain ⟨a1, a2⟩ := unsg_itoa n
  rw [h3] at a1
  rw [a1]
  exact ⟨rfl, dec_pos _, dec_len6 (by omega)⟩
theorem c_l1In2 (k : Nat) (x a b : Int) (hk : 1 ≤ k) : callK C k 60 [.c (.int .i64 x), .c (.int .i64 a), .c (.int .i64 b)] [] = some (.c (.bool (decide (a ≤ x) && decide (x ≤ b))), hpOf [] []) := c_l1In k x a b hk
theorem pow6 {k : Nat} (h : k ≤ 6) : 10 ^ k ≤ 1000000 := Nat.le_trans (Nat.pow_le_pow_right (by decide) h) (by decide)
def RdX (t : List UInt8) (i : Nat) (st : St) : Prop := ∃ m : Nat, Lib.decFrom 0 (t.take i) = some m ∧ st.ρ 5 = .c (.int .i64 (m : Int))
theorem dec_none {t : List UInt8} (h : Lib.decFrom 0 t = none) : ∃ (j m : Nat) (hj : j < t.length), Lib.decFrom 0 (t.take j) = some m ∧ Lib.digitVal t[j] = none := by
  have key : ∀ (t : List UInt8) (acc : Nat), Lib.decFrom acc t = none → ∃ (j m : Nat) (hj : j < t.length), Lib.decFrom acc (t.take j) = some m ∧ Lib.digitVal t[j] = none := by
    intro t
    induction t with
    | nil => intro acc h; cases h
    | cons b t ih =>
      intro acc h
      simp only [Lib.decFrom] at h
      cases hb : Lib.digitVal b with
      | none => exact ⟨0, acc, by simp, rfl, hb⟩
      | some d =>
        rw [hb] at h
        obtain ⟨j, m, hj, h1, h2⟩ := ih _ h
        refine ⟨j + 1, m, by simpa using hj, ?_, by simpa using h2⟩
        rw [List.take_succ_cons]
        simp only [Lib.decFrom, hb]
        exact h1
  exact key t 0 h
theorem dec_take {t : List UInt8} {i m : Nat} (h : Lib.decFrom 0 (t.take i) = some m) (h6 : t.length ≤ 6) : m < 1000000 := by
  have := dec_lt (t.take i) 0 m 0 h (by decide)
  have h2 : 0 + (t.take i).length ≤ 6 := by rw [List.length_take]; omega
  exact Nat.lt_of_lt_of_le this (pow6 h2)
theorem dig_iff (b : UInt8) : (∃ d, Lib.digitVal b = some d ∧ 48 ≤ b.toNat ∧ b.toNat ≤ 57 ∧ b.toNat = 48 + d) ∨ (Lib.digitVal b = none ∧ (b.toNat < 48 ∨ 57 < b.toNat)) := by
  unfold Lib.digitVal
  by_cases h : 48 ≤ b.toNat ∧ b.toNat ≤ 57
  · left; exact ⟨b.toNat - 48, by rw [if_pos h], h.1, h.2, by omega⟩
  · right; exact ⟨by rw [if_neg h], by omega⟩

end Go.Proofs.YtbjmfjfnilmhhaaGreatDoor.Eng
namespace Go.Proofs.YtbjmfjfnilmhhaaGreatDoor.Eng
open Go Go.Proofs
set_option maxRecDepth 100000
set_option maxHeartbeats 2000000
set_option linter.unusedSimpArgs false
set_option linter.unusedVariables false
attribute [local simp] finK fin1 hpOf xi renQ isRoot runCode runOps stepX inlOf Eng.step wantedV astep val ofO made loadV storeV find V.cells bin binT binA numT numFs eqCells un1 setAt fieldAddrV fieldV indexAddrV indexV bounds sliceV convV lenV foldV max2V min2V callO bor rdsO wrsO seen_none okD_none loops keepIds resV resultsV St.ev TK.agg refs refsL refsO V.one V.isC Value.oneCell' ren renL renO noTag noTagL noTagR noTagO nodup mapO passV frs psi refsR newD loopNext opsAt idx flatAt rootOf backR newsV appendV copyV clearV strV bytesV bldV bufV selfV bytesOf nilCmp buildV fillF chunk freeL frzW cellSame sameV
attribute [local simp] cT cF cX cWR cOW cK cBL X ints_length ints_get ints_getElem ints_drop ints_take ints_append ints_nil ints_set
attribute [local simp] ints_replicate
attribute [local simp] putV_some putV_none putH_app applyD_nil applyD_cons seen_app gc_ρ gc_H gc_tick st0_ρ st0_H st0_tick retV callRo callV_if borL_nil borL_cons ints_snoc take_self callWr cutH_app findQ afterV exportV_0 exportV_n okD_nil okD_cons sub_seq0 sub_seq1 sub_cond0 sub_cond1 sub_block sub_loop sub_nil young_far young_none hidW_nil mayW_nil keepsF_nil keepsF_cons pairs okI ok_0 ok_1 ok_2
attribute [local simp] T3 T4 T5 T9 T22 T24 T33 T36 T38 T45 T48 T51 T52 T54 T56 T71 T72 T74 T77 T99 T104 T117 T121
/-- A sum or a difference. -/
def smB (q : Int × Int) : Bool := decide (q.1 = 3) || decide (q.1 = 4)
/-- A field's name, or a number. -/
def atT (q : Int × Int) : List UInt8 := if q.1 = 1 then [UInt8.ofNat (97 + q.2.toNat)] else Lib.decDigits q.2.toNat
/-- above(.., n) -/
def abT (q : Int × Int) (t : List UInt8) : List UInt8 := [97, 98, 111, 118, 101, 40] ++ t ++ [44] ++ Lib.decDigits q.2.toNat ++ [41]
/-- A node of two arguments: the left one, the right one, whether that is a sum. -/
def biT (q : Int × Int) (x y : List UInt8) (s : Bool) : List UInt8 := if q.1 = 5 then [109, 105, 110, 40] ++ x ++ [44] ++ y ++ [41] else if q.1 = 6 then [109, 97, 120, 40] ++ x ++ [44] ++ y ++ [41] else x ++ [if q.1 = 3 then 43 else 45] ++ (if s then [40] ++ y ++ [41] else y)
/-- The texts behind i nodes, the last one ahead, each with whether it is a sum. -/
def tks (l : List (Int × Int)) : Nat → List (List UInt8 × Bool)
  | 0 => []
  | i + 1 => if arI (l.getD i (0, 0)) = 0 then (atT (l.getD i (0, 0)), smB (l.getD i (0, 0))) :: tks l i else if arI (l.getD i (0, 0)) = 1 then (match tks l i with
    | (t, _) :: s => (abT (l.getD i (0, 0)) t, smB (l.getD i (0, 0))) :: s
    | [] => []) else (match tks l i with
    | (y, b) :: (x, _) :: s => (biT (l.getD i (0, 0)) x y b, smB (l.getD i (0, 0))) :: s
    | s => s)
theorem tks_0 {l : List (Int × Int)} {i : Nat} (h : arI (l.getD i (0, 0)) = 0) : tks l (i + 1) = (atT (l.getD i (0, 0)), smB (l.getD i (0, 0))) :: tks l i := by rw [tks, if_pos h]
theorem tks_1 {l : List (Int × Int)} {i : Nat} {t : List UInt8} {b : Bool} {s : List (List UInt8 × Bool)} (h : arI (l.getD i (0, 0)) = 1) (hs : tks l i = (t, b) :: s) : tks l (i + 1) = (abT (l.getD i (0, 0)) t, smB (l.getD i (0, 0))) :: s := by rw [tks, if_neg (by omega), if_pos h, hs]
theorem tks_2 {l : List (Int × Int)} {i : Nat} {x y : List UInt8} {b c : Bool} {s : List (List UInt8 × Bool)} (h : arI (l.getD i (0, 0)) = 2) (hs : tks l i = (y, b) :: (x, c) :: s) : tks l (i + 1) = (biT (l.getD i (0, 0)) x y b, smB (l.getD i (0, 0))) :: s := by rw [tks, if_neg (by omega), if_neg (by omega), hs]
theorem tks_len {l : List (Int × Int)} : ∀ i, 0 ≤ runO l i → ((tks l i).length : Int) = runO l i
  | 0, _ => by simp [tks, runO]
  | i + 1, h => by
    obtain ⟨h1, h2, h3, h4⟩ := runO_back h
    have ih := tks_len i h1
    rw [h4]
    rcases ar_cases (l.getD i (0, 0)) with e | e | e | e
    · rw [tks_0 e, e]; simp only [List.length_cons]; omega
    · cases hs : tks l i with
      | nil => rw [hs] at ih; simp only [List.length_nil] at ih; omega
      | cons x s => obtain ⟨a, d⟩ := x; rw [tks_1 e hs, e]; rw [hs] at ih; simp only [List.length_cons] at ih ⊢; omega
    · cases hs : tks l i with
      | nil => rw [hs] at ih; simp only [List.length_nil] at ih; omega
      | cons x s =>
        cases s with
        | nil => rw [hs] at ih; simp only [List.length_cons, List.length_nil] at ih; omega
        | cons y s => obtain ⟨a2, d2⟩ := x; obtain ⟨a, d1⟩ := y; rw [tks_2 e hs, e]; rw [hs] at ih; simp only [List.length_cons] at ih ⊢; omega
    · omega
/-- Behind a node: its text, on what lay there where its expression begins. -/
theorem tks_top {l : List (Int × Int)} : ∀ i, 0 ≤ runO l (i + 1) → ∀ a d s, stk l (i + 1) = (a, d) :: s → ∃ t, tks l (i + 1) = (t, smB (l.getD i (0, 0))) :: tks l a := by
  intro i
  induction i using Nat.strongRecOn with
  | _ i ih =>
    intro h a d s hst
    obtain ⟨h1, h2, h3, h4⟩ := runO_back h
    rcases ar_cases (l.getD i (0, 0)) with e | e | e | e
    · rw [stk_0 e] at hst
      injection hst with e1 _
      injection e1 with e1 _
      subst e1
      exact ⟨_, tks_0 e⟩
    · obtain ⟨j, rfl⟩ : ∃ j, i = j + 1 := by
        cases i with
        | zero => rw [e] at h3; exact absurd h3 (by simp [runO])
        | succ j => exact ⟨j, rfl⟩
      obtain ⟨a1, d1, ha, hs⟩ := stk_top j h1
      rw [stk_1 e hs] at hst
      injection hst with e1 _
      injection e1 with e1 _
      subst e1
      obtain ⟨t, ht⟩ := ih j (by omega) h1 _ _ _ hs
      exact ⟨_, tks_1 e ht⟩
    · obtain ⟨j, rfl⟩ : ∃ j, i = j + 1 := by
        cases i with
        | zero => rw [e] at h3; exact absurd h3 (by simp [runO])
        | succ j => exact ⟨j, rfl⟩
      obtain ⟨a1, d1, ha, hs⟩ := stk_top j h1
      have hl := stk_len (j + 1) h1
      have ha0 : 0 ≤ runO l a1 := runO_mono h1 (j + 1 - a1) a1 (by omega)
      have hla := stk_len a1 ha0
      rw [hs] at hl
      simp only [List.length_cons] at hl
      obtain ⟨b, rfl⟩ : ∃ b, a1 = b + 1 := by
        cases a1 with
        | zero => simp only [stk, List.length_nil] at hl; omega
        | succ b => exact ⟨b, rfl⟩
      obtain ⟨a2, d2, hc, hs'⟩ := stk_top b ha0
      rw [stk_2 e (by rw [hs, hs'])] at hst
      injection hst with e1 _
      injection e1 with e1 _
      subst e1
      obtain ⟨t, ht⟩ := ih j (by omega) h1 _ _ _ hs
      obtain ⟨t2, ht2⟩ := ih b (by omega) ha0 _ _ _ hs'
      rw [ht2] at ht
      exact ⟨_, tks_2 e ht⟩
    · omega
def lenT (s : List (List UInt8 × Bool)) : Nat := (s.map fun x => x.1.length).sum
theorem dig_short {v : Int} (h0 : 0 ≤ v) (h : v ≤ 9000) : (Lib.decDigits v.toNat).length ≤ 21 := by
  have := Lib.itoa_length_le v (by omega) (by omega)
  rw [show v = ((v.toNat : Nat) : Int) by omega, Lib.itoa_nonneg] at this
  exact this
theorem ar_range {q : Int × Int} : (arI q = 0 → (q.1 = 1 ∧ 0 ≤ q.2 ∧ q.2 ≤ 3) ∨ (q.1 = 2 ∧ 0 ≤ q.2 ∧ q.2 ≤ 9000)) ∧ (arI q = 1 → q.1 = 7 ∧ 0 ≤ q.2 ∧ q.2 ≤ 9000) ∧ (arI q = 2 → 3 ≤ q.1 ∧ q.1 ≤ 6 ∧ q.2 = 0) := by
  unfold arI
  split
  · rename_i h
    refine ⟨fun _ => h, fun e => absurd e (by decide), fun e => absurd e (by decide)⟩
  · split
    · rename_i h
      exact ⟨fun e => absurd e (by decide), fun e => absurd e (by decide), fun _ => ⟨h.1.1, h.1.2, h.2⟩⟩
    · split
      · rename_i h
        exact ⟨fun e => absurd e (by decide), fun _ => ⟨h.1, h.2.1, h.2.2⟩, fun e => absurd e (by decide)⟩
      · exact ⟨fun e => absurd e (by decide), fun e => absurd e (by decide), fun e => absurd e (by decide)⟩
theorem tks_bound {l : List (Int × Int)} : ∀ i, 0 ≤ runO l i → lenT (tks l i) ≤ 40 * i
  | 0, _ => by simp [tks, lenT]
  | i + 1, h => by
    obtain ⟨h1, h2, h3, h4⟩ := runO_back h
    have ih := tks_bound i h1
    obtain ⟨r0, r1, r2⟩ := ar_range (q := l.getD i (0, 0))
    rcases ar_cases (l.getD i (0, 0)) with e | e | e | e
    · rw [tks_0 e]
      have hat : (atT (l.getD i (0, 0))).length ≤ 21 := by
        unfold atT
        split
        · simp
        · rename_i hn
          rcases r0 e with hr | hr
          · exact absurd hr.1 hn
          · exact dig_short hr.2.1 hr.2.2
      simp only [lenT, List.map_cons, List.sum_cons] at ih ⊢
      omega
    · have hl := tks_len i h1
      cases hs : tks l i with
      | nil => rw [hs] at hl; simp only [List.length_nil] at hl; omega
      | cons x s =>
        obtain ⟨t, b⟩ := x
        rw [tks_1 e hs]
        rw [hs] at ih
        have hd := dig_short (r1 e).2.1 (r1 e).2.2
        simp only [lenT, List.map_cons, List.sum_cons, abT, List.length_append, List.length_cons, List.length_nil] at ih ⊢
        omega
    · have hl := tks_len i h1
      cases hs : tks l i with
      | nil => rw [hs] at hl; simp only [List.length_nil] at hl; omega
      | cons x s =>
        cases s with
        | nil => rw [hs] at hl; simp only [List.length_cons, List.length_nil] at hl; omega
        | cons y s =>
          obtain ⟨t, b⟩ := x
          obtain ⟨u, c⟩ := y
          rw [tks_2 e hs]
          rw [hs] at ih
          have hb : (biT (l.getD i (0, 0)) u t b).length ≤ u.length + t.length + 6 := by
            unfold biT
            split
            · simp only [List.length_append, List.length_cons, List.length_nil]; omega
            · split
              · simp only [List.length_append, List.length_cons, List.length_nil]; omega
              · cases b
                · simp only [List.length_append, List.length_cons, List.length_nil, Bool.false_eq_true, if_false]; omega
                · simp only [List.length_append, List.length_cons, List.length_nil, if_true]; omega
          simp only [lenT, List.map_cons, List.sum_cons] at ih ⊢
          omega
    · omega

end Go.Proofs.YtbjmfjfnilmhhaaGreatDoor.Eng
namespace Go.Proofs.YtbjmfjfnilmhhaaGreatDoor.Eng
open Go Go.Proofs
set_option maxRecDepth 100000
set_option maxHeartbeats 2000000
set_option linter.unusedSimpArgs false
set_option linter.unusedVariables false
attribute [local simp] finK fin1 hpOf xi renQ isRoot runCode runOps stepX inlOf Eng.step wantedV astep val ofO made loadV storeV find V.cells bin binT binA numT numFs eqCells un1 setAt fieldAddrV fieldV indexAddrV indexV bounds sliceV convV lenV foldV max2V min2V callO bor rdsO wrsO seen_none okD_none loops keepIds resV resultsV St.ev TK.agg refs refsL refsO V.one V.isC Value.oneCell' ren renL renO noTag noTagL noTagR noTagO nodup mapO passV frs psi refsR newD loopNext opsAt idx flatAt rootOf backR newsV appendV copyV clearV strV bytesV bldV bufV selfV bytesOf nilCmp buildV fillF chunk freeL frzW cellSame sameV
attribute [local simp] cT cF cX cWR cOW cK cBL X ints_length ints_get ints_getElem ints_drop ints_take ints_append ints_nil ints_set
attribute [local simp] ints_replicate
attribute [local simp] putV_some putV_none putH_app applyD_nil applyD_cons seen_app gc_ρ gc_H gc_tick st0_ρ st0_H st0_tick retV callRo callV_if borL_nil borL_cons ints_snoc take_self callWr cutH_app findQ afterV exportV_0 exportV_n okD_nil okD_cons sub_seq0 sub_seq1 sub_cond0 sub_cond1 sub_block sub_loop sub_nil young_far young_none hidW_nil mayW_nil keepsF_nil keepsF_cons pairs okI ok_0 ok_1 ok_2
attribute [local simp] T3 T4 T5 T9 T22 T24 T33 T36 T38 T45 T48 T51 T52 T54 T56 T71 T72 T74 T77 T99 T104 T117 T121
attribute [local simp] young_near clo cloF Region.binds Nat.testBit hidW declW mayW List.findIdx?_cons
theorem litA : (⟨#[97, 98, 111, 118, 101, 40]⟩ : ByteArray) = bs [97, 98, 111, 118, 101, 40] := rfl
theorem litM : (⟨#[109, 105, 110, 40]⟩ : ByteArray) = bs [109, 105, 110, 40] := rfl
theorem litX : (⟨#[109, 97, 120, 40]⟩ : ByteArray) = bs [109, 97, 120, 40] := rfl
theorem ifL {α : Type} {n : Nat} {a b : α} (h : n ≤ 9223372036854775807) : (if n ≤ 9223372036854775807 then a else b) = a := if_pos h
theorem itoa_nn {v : Int} (h : 0 ≤ v) : Lib.itoa v = Lib.decDigits v.toNat := by
  conv => lhs; rw [show v = ((v.toNat : Nat) : Int) by omega]
  exact Lib.itoa_nonneg _
theorem abc_slice (v : Int) (h : 0 ≤ v ∧ v ≤ 3) : sliceV T 9 (.c (.string ⟨#[97, 98, 99, 100]⟩)) (some (.c (.int .i64 v))) (some (.c (.int .i64 (v + 1)))) none = some (.c (.string (bs [UInt8.ofNat (97 + v.toNat)]))) := by
  have : v = 0 ∨ v = 1 ∨ v = 2 ∨ v = 3 := by omega
  rcases this with rfl | rfl | rfl | rfl <;> rfl
theorem c_l5Sum (k : Nat) (q : Int × Int) (hk : 3 ≤ k) : callK C k 47 [.ag (ndE q)] [] = some (.c (.bool (smB q)), hpOf [] []) := by
  obtain ⟨k, rfl⟩ : ∃ m, k = m + 1 := ⟨k - 1, by omega⟩
  rw [callK_fn rfl F47 code47]
  by_cases h : q.1 = 3
  · simp [R47_0, R47_1, Tryz.f47, undef, ndE, smB, h]
  · have hb : (q.1 == 3) = false := by simpa using h
    by_cases h4 : q.1 = 4
    · simp [R47_0, R47_1, Tryz.f47, undef, ndE, smB, h, hb, h4]
    · have hb4 : (q.1 == 4) = false := by simpa using h4
      simp [R47_0, R47_1, Tryz.f47, undef, ndE, smB, h, hb, h4, hb4]
theorem c_isSum (k : Nat) (q : Int × Int) (hk : 3 ≤ k) : callK C k 41 [.ag (ndE q)] [] = some (.c (.bool (smB q)), hpOf [] []) := by
  obtain ⟨k, rfl⟩ : ∃ m, k = m + 1 := ⟨k - 1, by omega⟩
  rw [callK_fn rfl F41 code41]
  by_cases h : q.1 = 3
  · simp [R41_0, R41_1, Tryz.f41, undef, ndE, smB, h]
  · have hb : (q.1 == 3) = false := by simpa using h
    by_cases h4 : q.1 = 4
    · simp [R41_0, R41_1, Tryz.f41, undef, ndE, smB, h, hb, h4]
    · have hb4 : (q.1 == 4) = false := by simpa using h4
      simp [R41_0, R41_1, Tryz.f41, undef, ndE, smB, h, hb, h4, hb4]
theorem c_l5Text (b : Bool) (l : List (Int × Int)) (h15 : l.length ≤ 15) : ∀ (i : Nat), i < l.length → 0 ≤ runO l (i + 1) → ∀ k, i + 60 ≤ k → ∀ t c s, tks l (i + 1) = (t, c) :: s →
    callK C k 22 [.sq b true 2 (ndL l), .c (.int .i64 (i : Int))] [] = some (.c (.string (bs t)), hpOf [] []) := by
  intro i
  induction i using Nat.strongRecOn with
  | _ i ih =>
    intro hi h k hk t c s hs
    obtain ⟨k, rfl⟩ : ∃ m, k = m + 1 := ⟨k - 1, by omega⟩
    rw [callK_fn rfl F22 code22]
    obtain ⟨h1, h2, h3, h4⟩ := runO_back h
    obtain ⟨r0, r1, r2⟩ := ar_range (q := l.getD i (0, 0))
    have hg := getD_nd hi
    have hn := ndL_get l i hi
    rcases ar_cases (l.getD i (0, 0)) with e | e | e | e
    · rw [tks_0 e] at hs
      injection hs with hs1 hs2
      injection hs1 with hs1 hs3
      subst hs1
      have r0 := r0 e
      rw [hg] at r0 ⊢
      obtain ⟨q, hq⟩ : ∃ q, l[i] = q := ⟨_, rfl⟩
      rw [hq] at r0 hn ⊢
      obtain ⟨q1, q2⟩ := q
      simp only [] at r0
      rcases r0 with ⟨rfl, ra, rb⟩ | ⟨rfl, ra, rb⟩
      · have hd := abc_slice q2 ⟨ra, rb⟩
        have hw : IntKind.i64.wrap (q2 + 1) = q2 + 1 := wrap_small (by omega) (by omega)
        simp [-sliceV] at hd
        simp [-sliceV, R22_0, R22_1, R22_2, R22_3, R22_4, R22_5, R22_6, R22_7, R22_8, R22_9, R22_10, R22_11, R22_12, R22_13, R22_14, R22_15, R22_16, R22_17, R22_18, R22_19, R22_20, Tryz.f22, ndL_length, hi, hn, ndL_at, hq, ndE, hw, hd, atT]
      · have hd := c_l1Num k q2 (by omega) (by omega) (by omega)
        rw [itoa_nn ra] at hd
        simp [R22_0, R22_1, R22_2, R22_3, R22_4, R22_5, R22_6, R22_7, R22_8, R22_9, R22_10, R22_11, R22_12, R22_13, R22_14, R22_15, R22_16, R22_17, R22_18, R22_19, R22_20, Tryz.f22, ndL_length, hi, hn, ndL_at, hq, ndE, hd, atT]
    · obtain ⟨j, rfl⟩ : ∃ j, i = j + 1 := by
        cases i with
        | zero => rw [e] at h3; exact absurd h3 (by simp [runO])
        | succ j => exact ⟨j, rfl⟩
      have hj0 : (0 : Int) ≤ (j : Int) + 1 := by omega
      have hl := tks_len (j + 1) h1
      have hbd := tks_bound (l := l) (j + 1) h1
      cases hk2 : tks l (j + 1) with
      | nil => rw [hk2] at hl; simp only [List.length_nil] at hl; omega
      | cons x s2 =>
        obtain ⟨t2, c2⟩ := x
        rw [hk2] at hbd
        simp only [lenT, List.map_cons, List.sum_cons] at hbd
        rw [tks_1 e hk2] at hs
        injection hs with hs1 hs2
        injection hs1 with hs1 hs3
        subst hs1
        have r1 := r1 e
        rw [hg] at r1 ⊢
        obtain ⟨q, hq⟩ : ∃ q, l[j + 1] = q := ⟨_, rfl⟩
        rw [hq] at r1 hn ⊢
        obtain ⟨q1, q2⟩ := q
        simp only [] at r1
        obtain ⟨rfl, ra, rb⟩ := r1
        have hd := c_l1Num k q2 (by omega) (by omega) (by omega)
        rw [itoa_nn ra] at hd
        have hdl := dig_short ra rb
        have hrec := ih j (by omega) (by omega) h1 k (by omega) t2 c2 _ hk2
        have hw' : IntKind.i64.wrap (j : Int) = (j : Int) := wrap_small (by omega) (by omega)
        try simp at hn
        try simp at hi
        have z1 : 6 + t2.length ≤ 9223372036854775807 := by omega
        have z2 : t2.length + 6 + 1 ≤ 9223372036854775807 := by omega
        have z2b : t2.length + 7 ≤ 9223372036854775807 := by omega
        have z3 : t2.length + 1 + 1 + 1 + 1 + 1 + 1 + 1 + (Lib.decDigits q2.toNat).length ≤ 9223372036854775807 := by omega
        have z4 : t2.length + ((Lib.decDigits q2.toNat).length + 1) + 1 + 1 + 1 + 1 + 1 + 1 + 1 ≤ 9223372036854775807 := by omega
        have z4b : t2.length + ((Lib.decDigits q2.toNat).length + 1) + 7 ≤ 9223372036854775807 := by omega
        simp [R22_0, R22_1, R22_2, R22_3, R22_4, R22_5, R22_6, R22_7, R22_8, R22_9, R22_10, R22_11, R22_12, R22_13, R22_14, R22_15, R22_16, R22_17, R22_18, R22_19, R22_20, Tryz.f22, ndL_length, hi, hn, ndL_at, hq, ndE, hd, hj0, hw', hrec, litA, lit1, bs_append, bs_size, z1, z2, z2b, z3, z4, z4b, abT]
    · obtain ⟨j, rfl⟩ : ∃ j, i = j + 1 := by
        cases i with
        | zero => rw [e] at h3; exact absurd h3 (by simp [runO])
        | succ j => exact ⟨j, rfl⟩
      have hj0 : (0 : Int) ≤ (j : Int) + 1 := by omega
      obtain ⟨a2, d2, ha2, hs'⟩ := stk_top j h1
      have hl := stk_len (j + 1) h1
      have ha0 : 0 ≤ runO l a2 := runO_mono h1 (j + 1 - a2) a2 (by omega)
      have hla := stk_len a2 ha0
      rw [hs'] at hl
      simp only [List.length_cons] at hl
      obtain ⟨f, rfl⟩ : ∃ f, a2 = f + 1 := by
        cases a2 with
        | zero => simp only [stk, List.length_nil] at hl; omega
        | succ f => exact ⟨f, rfl⟩
      obtain ⟨a1, d1, ha1, hs1⟩ := stk_top f ha0
      obtain ⟨y, hy⟩ := tks_top j h1 _ _ _ hs'
      obtain ⟨x, hx⟩ := tks_top f ha0 _ _ _ hs1
      have hbd := tks_bound (l := l) (j + 1) h1
      have hst := c_l5Start b l h15 j (by omega) h1 k (by omega) (f + 1) d2 _ hs'
      have hrec1 := ih j (by omega) (by omega) h1 k (by omega) y _ _ hy
      have hrec2 := ih f (by omega) (by omega) ha0 k (by omega) x _ _ hx
      rw [hx] at hy
      rw [hy] at hbd
      simp only [lenT, List.map_cons, List.sum_cons] at hbd
      rw [tks_2 e hy] at hs
      injection hs with hs1 hs2
      injection hs1 with hs1 hs3
      subst hs1
      have r2 := r2 e
      have hjl : j < l.length := by omega
      have hgj := getD_nd hjl
      rw [hg] at r2 ⊢
      rw [hgj]
      obtain ⟨q, hq⟩ : ∃ q, l[j + 1] = q := ⟨_, rfl⟩
      have hS := c_l5Sum k l[j] (by omega)
      have hnj := ndL_get l j hjl
      obtain ⟨u, hu⟩ : ∃ u, smB l[j] = u := ⟨_, rfl⟩
      rw [hu] at hS ⊢
      rw [hq] at r2 hn ⊢
      obtain ⟨q1, q2⟩ := q
      simp only [] at r2
      obtain ⟨ra, rb, rfl⟩ := r2
      have hw' : IntKind.i64.wrap (j : Int) = (j : Int) := wrap_small (by omega) (by omega)
      have hw2 : IntKind.i64.wrap (f : Int) = (f : Int) := wrap_small (by omega) (by omega)
      simp [ndE] at hS
      try simp at hn
      try simp at hi
      try simp at hst
      have zA : 4 + x.length ≤ 9223372036854775807 := by omega
      have zB : x.length + 4 + 1 ≤ 9223372036854775807 := by omega
      have zB2 : x.length + 5 ≤ 9223372036854775807 := by omega
      have zB3 : x.length + 1 + 1 + 1 + 1 + 1 ≤ 9223372036854775807 := by omega
      have zC : x.length + 1 + 1 + 1 + 1 + 1 + y.length ≤ 9223372036854775807 := by omega
      have zD : x.length + (y.length + 1) + 1 + 1 + 1 + 1 + 1 ≤ 9223372036854775807 := by omega
      have zD2 : x.length + (y.length + 1) + 5 ≤ 9223372036854775807 := by omega
      have zE : x.length + 1 ≤ 9223372036854775807 := by omega
      have zF : x.length + 1 + y.length ≤ 9223372036854775807 := by omega
      have zG : 1 + y.length ≤ 9223372036854775807 := by omega
      have zH : y.length + 1 + 1 ≤ 9223372036854775807 := by omega
      have zH2 : y.length + 2 ≤ 9223372036854775807 := by omega
      have zI : x.length + 1 + (y.length + 1 + 1) ≤ 9223372036854775807 := by omega
      have zI2 : x.length + 1 + (y.length + 2) ≤ 9223372036854775807 := by omega
      have hcase : q1 = 3 ∨ q1 = 4 ∨ q1 = 5 ∨ q1 = 6 := by omega
      rcases hcase with rfl | rfl | rfl | rfl
      · cases u
        · simp [R22_0, R22_1, R22_2, R22_3, R22_4, R22_5, R22_6, R22_7, R22_8, R22_9, R22_10, R22_11, R22_12, R22_13, R22_14, R22_15, R22_16, R22_17, R22_18, R22_19, R22_20, Tryz.f22, ndL_length, hi, hn, hnj, hjl, ndL_at, hq, ndE, hj0, hw', hw2, hst, hrec1, hrec2, hS, lit1, bs_append, bs_size, zE, zF, biT]
        · simp [R22_0, R22_1, R22_2, R22_3, R22_4, R22_5, R22_6, R22_7, R22_8, R22_9, R22_10, R22_11, R22_12, R22_13, R22_14, R22_15, R22_16, R22_17, R22_18, R22_19, R22_20, Tryz.f22, ndL_length, hi, hn, hnj, hjl, ndL_at, hq, ndE, hj0, hw', hw2, hst, hrec1, hrec2, hS, lit1, bs_append, bs_size, zE, zF, zG, zH, zH2, zI, zI2, biT]
      · cases u
        · simp [R22_0, R22_1, R22_2, R22_3, R22_4, R22_5, R22_6, R22_7, R22_8, R22_9, R22_10, R22_11, R22_12, R22_13, R22_14, R22_15, R22_16, R22_17, R22_18, R22_19, R22_20, Tryz.f22, ndL_length, hi, hn, hnj, hjl, ndL_at, hq, ndE, hj0, hw', hw2, hst, hrec1, hrec2, hS, lit1, bs_append, bs_size, zE, zF, biT]
        · simp [R22_0, R22_1, R22_2, R22_3, R22_4, R22_5, R22_6, R22_7, R22_8, R22_9, R22_10, R22_11, R22_12, R22_13, R22_14, R22_15, R22_16, R22_17, R22_18, R22_19, R22_20, Tryz.f22, ndL_length, hi, hn, hnj, hjl, ndL_at, hq, ndE, hj0, hw', hw2, hst, hrec1, hrec2, hS, lit1, bs_append, bs_size, zE, zF, zG, zH, zH2, zI, zI2, biT]
      · simp [R22_0, R22_1, R22_2, R22_3, R22_4, R22_5, R22_6, R22_7, R22_8, R22_9, R22_10, R22_11, R22_12, R22_13, R22_14, R22_15, R22_16, R22_17, R22_18, R22_19, R22_20, Tryz.f22, ndL_length, hi, hn, hnj, hjl, ndL_at, hq, ndE, hj0, hw', hw2, hst, hrec1, hrec2, litM, lit1, bs_append, bs_size, zA, zB, zB2, zB3, zC, zD, zD2, biT]
      · simp [R22_0, R22_1, R22_2, R22_3, R22_4, R22_5, R22_6, R22_7, R22_8, R22_9, R22_10, R22_11, R22_12, R22_13, R22_14, R22_15, R22_16, R22_17, R22_18, R22_19, R22_20, Tryz.f22, ndL_length, hi, hn, hnj, hjl, ndL_at, hq, ndE, hj0, hw', hw2, hst, hrec1, hrec2, litX, lit1, bs_append, bs_size, zA, zB, zB2, zB3, zC, zD, zD2, biT]
    · omega

end Go.Proofs.YtbjmfjfnilmhhaaGreatDoor.Eng
