/- A deterministic reading of Go code over plain data: what functions of the program compute. No conditions. -/
import Derived.Test.YtfdlllhcjfhknaaLmbase
import Derived.Test.YtfdlllhcjfhknaaLmimpl
import Derived.Test.YtfdlllhcjfhknaaLmnodes
import Derived.Test.YtfdlllhcjfhknaaLmnodep
import Derived.Test.YtfdlllhcjfhknaaLmnodefn
import Derived.Test.YtfdlllhcjfhknaaLmisexpr
import Derived.Test.YtfdlllhcjfhknaaLmput
import Derived.Test.YtfdlllhcjfhknaaLmfused
import Derived.Test.YtfdlllhcjfhknaaLmfuplain
import Derived.Test.YtfdlllhcjfhknaaLmisort
import Derived.Test.YtfdlllhcjfhknaaLmpsort
import Derived.Test.YtfdlllhcjfhknaaLmcompact
import Derived.Test.YtfdlllhcjfhknaaLmfusedi
import Derived.Test.YtfdlllhcjfhknaaLmfuplain2
import Derived.Test.YtfdlllhcjfhknaaLmfuplain3
import Derived.Test.YtfdlllhcjfhknaaEngT
namespace Go.Proofs.Ytfdlllhcjfhknaa.Eng
open Go Go.Proofs
set_option maxRecDepth 100000
set_option maxHeartbeats 2000000
set_option linter.unusedSimpArgs false
set_option linter.unusedVariables false
attribute [local simp] finK fin1 hpOf xi renQ isRoot runCode runOps Eng.step wantedV astep val ofO made loadV storeV find V.cells bin binT binA numT numFs eqCells un1 setAt fieldAddrV fieldV indexAddrV indexV bounds sliceV convV lenV foldV max2V min2V callO bor rdsO wrsO seen_none okD_none loops keepIds resV resultsV St.ev TK.agg refs refsL refsO V.one V.isC Value.oneCell' ren renL renO noTag noTagL noTagR noTagO nodup mapO passV frs psi refsR newD loopNext opsAt idx flatAt rootOf backR newsV appendV copyV clearV strV bytesOf nilCmp buildV fillF chunk
attribute [local simp] cT cF cX cWR cOW cK X ints_length ints_get ints_getElem ints_drop ints_take ints_append ints_nil ints_set
attribute [local simp] ints_replicate
attribute [local simp] putV_some putV_none putH_app applyD_nil applyD_cons seen_app gc_ρ gc_H gc_tick st0_ρ st0_H st0_tick retV callRo callV_if borL_nil borL_cons ints_snoc take_self callWr cutH_app findQ afterV exportV_0 exportV_n okD_nil okD_cons sub_seq0 sub_seq1 sub_cond0 sub_cond1 sub_block sub_loop sub_nil young_far young_none hidW_nil mayW_nil pairs okI ok_0 ok_1 ok_2
attribute [local simp] T3 T4 T5 T9 T22 T24 T29 T36 T73 T75 T86 T89 T103 T104 T106 T108 T109 T114 T134 T136 T157 T161 T168
/-- One node behind a stack of depths, the last one ahead. -/
def stp (q : Int × Int) (s : List Int) : Option (List Int) := if arI q = 0 then some (1 :: s) else if arI q = 1 then (match s with
  | d :: t => some ((d + 1) :: t)
  | [] => none) else if arI q = 2 then (match s with
  | b :: a :: t => some (((if a > b then a else b) + 1) :: t)
  | _ => none) else none
theorem stp_0 {q : Int × Int} (h : arI q = 0) (s : List Int) : stp q s = some (1 :: s) := by unfold stp; rw [if_pos h]
theorem stp_1 {q : Int × Int} (h : arI q = 1) (d : Int) (t : List Int) : stp q (d :: t) = some ((d + 1) :: t) := by unfold stp; rw [if_neg (by omega), if_pos h]
theorem stp_1n {q : Int × Int} (h : arI q = 1) : stp q [] = none := by unfold stp; rw [if_neg (by omega), if_pos h]
theorem stp_2 {q : Int × Int} (h : arI q = 2) (b a : Int) (t : List Int) : stp q (b :: a :: t) = some (((if a > b then a else b) + 1) :: t) := by unfold stp; rw [if_neg (by omega), if_neg (by omega), if_pos h]
theorem stp_2n {q : Int × Int} (h : arI q = 2) : stp q [] = none := by unfold stp; rw [if_neg (by omega), if_neg (by omega), if_pos h]
theorem stp_2m {q : Int × Int} (h : arI q = 2) (b : Int) : stp q [b] = none := by unfold stp; rw [if_neg (by omega), if_neg (by omega), if_pos h]
theorem stp_n {q : Int × Int} (h : arI q = -1) (s : List Int) : stp q s = none := by unfold stp; rw [if_neg (by omega), if_neg (by omega), if_neg (by omega)]
def dS : List (Int × Int) → List Int → Option (List Int)
  | [], s => some s
  | q :: r, s => (stp q s).bind (dS r)
theorem dS_append : ∀ (l m : List (Int × Int)) (s : List Int), dS (l ++ m) s = (dS l s).bind (dS m)
  | [], m, s => rfl
  | q :: r, m, s => by
    show (stp q s).bind (dS (r ++ m)) = ((stp q s).bind (dS r)).bind (dS m)
    cases stp q s with
    | none => rfl
    | some t => exact dS_append r m t
theorem dS_one (q : Int × Int) (s : List Int) : dS [q] s = stp q s := by
  show (stp q s).bind (dS []) = stp q s
  cases stp q s <;> rfl
theorem dS_take (l : List (Int × Int)) (i : Nat) (h : i < l.length) (s : List Int) : dS (l.take (i + 1)) s = (dS (l.take i) s).bind (stp l[i]) := by
  rw [List.take_succ_eq_append_getElem h, dS_append]
  congr 1
  funext t
  exact dS_one _ _
theorem dS_stk (l : List (Int × Int)) : ∀ i, i ≤ l.length → dS (l.take i) [] = if 0 ≤ runO l i then some ((stk l i).map (·.2)) else none
  | 0, _ => by simp [dS, runO, stk]
  | i + 1, h => by
    have ih := dS_stk l i (by omega)
    have hi : i < l.length := by omega
    rw [dS_take l i hi, ih]
    have hr := runO_succ l i
    rw [getD_nd hi] at hr
    by_cases h0 : 0 ≤ runO l i
    · rw [if_pos h0]
      have hlen := stk_len i h0
      show stp l[i] ((stk l i).map (·.2)) = _
      rcases ar_cases l[i] with e | e | e | e
      · have e' : arI (l.getD i (0, 0)) = 0 := by rw [getD_nd hi]; exact e
        rw [if_neg (by omega)] at hr
        rw [if_pos (by omega), stk_0 e', stp_0 e]
        rfl
      · have e' : arI (l.getD i (0, 0)) = 1 := by rw [getD_nd hi]; exact e
        cases hs : stk l i with
        | nil =>
          rw [hs] at hlen
          simp only [List.length_nil] at hlen
          rw [if_pos (by omega)] at hr
          rw [if_neg (by omega)]
          exact stp_1n e
        | cons x s =>
          obtain ⟨a, d⟩ := x
          rw [hs] at hlen
          simp only [List.length_cons] at hlen
          rw [if_neg (by omega)] at hr
          rw [if_pos (by omega), stk_1 e' hs]
          exact stp_1 e _ _
      · have e' : arI (l.getD i (0, 0)) = 2 := by rw [getD_nd hi]; exact e
        cases hs : stk l i with
        | nil =>
          rw [hs] at hlen
          simp only [List.length_nil] at hlen
          rw [if_pos (by omega)] at hr
          rw [if_neg (by omega)]
          exact stp_2n e
        | cons x s =>
          cases s with
          | nil =>
            rw [hs] at hlen
            simp only [List.length_cons, List.length_nil] at hlen
            rw [if_pos (by omega)] at hr
            rw [if_neg (by omega)]
            exact stp_2m e _
          | cons y s =>
            obtain ⟨a2, d2⟩ := x
            obtain ⟨a, d1⟩ := y
            rw [hs] at hlen
            simp only [List.length_cons] at hlen
            rw [if_neg (by omega)] at hr
            rw [if_pos (by omega), stk_2 e' hs]
            exact stp_2 e _ _ _
      · rw [if_pos (by omega)] at hr
        rw [if_neg (by omega)]
        exact stp_n e _
    · rw [if_neg h0]
      rw [if_pos (by omega)] at hr
      rw [if_neg (by omega)]
      rfl
theorem dS_good {l : List (Int × Int)} (h : goodE l = true) : l.length ≤ 15 ∧ dS l [] = some [depthI l] := by
  obtain ⟨h1, h2⟩ := good_run h
  refine ⟨h1, ?_⟩
  have hs := dS_stk l l.length (Nat.le_refl _)
  rw [List.take_length, if_pos (by omega)] at hs
  have hlen := stk_len l.length (by omega : 0 ≤ runO l l.length)
  cases hk : stk l l.length with
  | nil => rw [hk] at hlen; simp only [List.length_nil] at hlen; omega
  | cons x s =>
    obtain ⟨a, d⟩ := x
    rw [hk] at hlen
    simp only [List.length_cons] at hlen
    obtain rfl : s = [] := List.length_eq_zero_iff.1 (by omega)
    rw [hs, hk, (depth_top h hk).1]
    rfl
theorem good_of_dS {l : List (Int × Int)} {d : Int} (h : dS l [] = some [d]) (h15 : l.length ≤ 15) : goodE l = true ∧ depthI l = d := by
  have hs := dS_stk l l.length (Nat.le_refl _)
  rw [List.take_length, h] at hs
  by_cases h0 : 0 ≤ runO l l.length
  · rw [if_pos h0] at hs
    have hlen := stk_len l.length h0
    have hs := Option.some.inj hs
    have hl2 : (stk l l.length).length = 1 := by
      have := congrArg List.length hs
      rw [List.length_map] at this
      rw [← this]; rfl
    have hg : goodE l = true := by
      unfold goodE
      rw [hl2] at hlen
      simp [h15]
      omega
    refine ⟨hg, ?_⟩
    have hd := (dS_good hg).2
    rw [h] at hd
    have := Option.some.inj hd
    injection this with e _
    exact e.symm
  · rw [if_neg h0] at hs
    cases hs
theorem stp_more {q : Int × Int} {s t : List Int} (h : stp q s = some t) (u : List Int) : stp q (s ++ u) = some (t ++ u) := by
  unfold stp at h ⊢
  split
  · rename_i e; rw [if_pos e] at h; cases h; rfl
  · rename_i e; rw [if_neg e] at h
    split
    · rename_i e1; rw [if_pos e1] at h
      cases s with
      | nil => cases h
      | cons d s => cases h; rfl
    · rename_i e1; rw [if_neg e1] at h
      split
      · rename_i e2; rw [if_pos e2] at h
        cases s with
        | nil => cases h
        | cons b s =>
          cases s with
          | nil => cases h
          | cons a s => cases h; rfl
      · rename_i e2; rw [if_neg e2] at h; cases h
theorem dS_more : ∀ (l : List (Int × Int)) (s t : List Int), dS l s = some t → ∀ u, dS l (s ++ u) = some (t ++ u)
  | [], s, t, h, u => by cases h; rfl
  | q :: r, s, t, h, u => by
    have h' : (stp q s).bind (dS r) = some t := h
    cases hq : stp q s with
    | none => rw [hq] at h'; cases h'
    | some v =>
      rw [hq] at h'
      show (stp q (s ++ u)).bind (dS r) = _
      rw [stp_more hq u]
      exact dS_more r v t h' u
def le2 : List Int → List Int → Prop
  | [], [] => True
  | a :: s, b :: t => a ≤ b ∧ le2 s t
  | _, _ => False
theorem stp_le {q : Int × Int} {s t v : List Int} (h : le2 s t) (hq : stp q s = some v) : ∃ w, stp q t = some w ∧ le2 v w := by
  unfold stp at hq ⊢
  split
  · rename_i e; rw [if_pos e] at hq; cases hq
    exact ⟨_, rfl, Int.le_refl _, h⟩
  · rename_i e; rw [if_neg e] at hq
    split
    · rename_i e1; rw [if_pos e1] at hq
      cases s with
      | nil => cases hq
      | cons d s =>
        cases t with
        | nil => exact absurd h (by simp [le2])
        | cons c t =>
          cases hq
          obtain ⟨h1, h2⟩ := h
          exact ⟨_, rfl, by omega, h2⟩
    · rename_i e1; rw [if_neg e1] at hq
      split
      · rename_i e2; rw [if_pos e2] at hq
        cases s with
        | nil => cases hq
        | cons b s =>
          cases s with
          | nil => cases hq
          | cons a s =>
            cases t with
            | nil => exact absurd h (by simp [le2])
            | cons b' t =>
              cases t with
              | nil => exact absurd h.2 (by simp [le2])
              | cons a' t =>
                cases hq
                obtain ⟨h1, h2, h3⟩ := h
                refine ⟨_, rfl, ?_, h3⟩
                show (if a > b then a else b) + 1 ≤ (if a' > b' then a' else b') + 1
                split <;> split <;> omega
      · rename_i e2; rw [if_neg e2] at hq; cases hq
def rpL (f : Int) (m : List (Int × Int)) (l : List (Int × Int)) : List (Int × Int) := l.flatMap fun q => if q.1 = 1 ∧ q.2 = f then m else [q]
theorem rpL_nil (f : Int) (m : List (Int × Int)) : rpL f m [] = [] := rfl
theorem rpL_cons (f : Int) (m : List (Int × Int)) (q : Int × Int) (l : List (Int × Int)) : rpL f m (q :: l) = (if q.1 = 1 ∧ q.2 = f then m else [q]) ++ rpL f m l := by simp [rpL]
theorem rpL_take (f : Int) (m l : List (Int × Int)) (i : Nat) (h : i < l.length) : rpL f m (l.take (i + 1)) = rpL f m (l.take i) ++ (if l[i].1 = 1 ∧ l[i].2 = f then m else [l[i]]) := by
  rw [List.take_succ_eq_append_getElem h]
  unfold rpL
  rw [List.flatMap_append, List.flatMap_singleton]
theorem rpL_len (f : Int) (m l : List (Int × Int)) (hm : m.length ≤ 15) : (rpL f m l).length ≤ 15 * l.length := by
  induction l with
  | nil => simp [rpL]
  | cons q l ih =>
    rw [rpL_cons, List.length_append]
    simp only [List.length_cons]
    split
    · omega
    · simp only [List.length_cons, List.length_nil]; omega
theorem rpL_dS (f : Int) (hf : 0 ≤ f ∧ f ≤ 3) (m : List (Int × Int)) (d : Int) (hm : dS m [] = some [d]) (hd : 1 ≤ d) : ∀ (l : List (Int × Int)) (s t v : List Int), le2 s t → dS l s = some v → ∃ w, dS (rpL f m l) t = some w ∧ le2 v w
  | [], s, t, v, h, hl => by cases hl; exact ⟨t, rfl, h⟩
  | q :: r, s, t, v, h, hl => by
    have hl' : (stp q s).bind (dS r) = some v := hl
    rw [rpL_cons, dS_append]
    cases hq : stp q s with
    | none => rw [hq] at hl'; cases hl'
    | some s1 =>
      rw [hq] at hl'
      by_cases hqf : q.1 = 1 ∧ q.2 = f
      · rw [if_pos hqf]
        have ha : arI q = 0 := by
          unfold arI
          rw [if_pos (.inl ⟨hqf.1, by rw [hqf.2]; exact hf⟩)]
        have hs1 : s1 = 1 :: s := by
          rw [stp_0 ha] at hq
          exact (Option.some.inj hq).symm
        have hmt := dS_more m [] [d] hm t
        rw [List.nil_append] at hmt
        rw [hmt]
        exact rpL_dS f hf m d hm hd r s1 (d :: t) v (by rw [hs1]; exact ⟨hd, h⟩) hl'
      · rw [if_neg hqf, dS_one]
        obtain ⟨w, hw, hw2⟩ := stp_le h hq
        rw [hw]
        exact rpL_dS f hf m d hm hd r s1 w v hw2 hl'
theorem depth_pos {l : List (Int × Int)} (h : goodE l = true) : 1 ≤ depthI l := by
  have hr := good_run h
  have hlen := stk_len l.length (by omega : 0 ≤ runO l l.length)
  cases hk : stk l l.length with
  | nil => rw [hk] at hlen; simp only [List.length_nil] at hlen; omega
  | cons x s =>
    obtain ⟨a, d⟩ := x
    rw [(depth_top h hk).1]
    exact (stk_pos l.length (a, d) (by rw [hk]; simp)).1
/-- The law's word on ReplaceField: the result is an expression where it is not too long, and not less deep. -/
theorem rp_good (f : Int) (hf : 0 ≤ f ∧ f ≤ 3) {l m : List (Int × Int)} (hl : goodE l = true) (hm : goodE m = true) : goodE (rpL f m l) = decide ((rpL f m l).length ≤ 15) ∧ ((rpL f m l).length ≤ 15 → depthI l ≤ depthI (rpL f m l)) := by
  obtain ⟨w, hw, hw2⟩ := rpL_dS f hf m _ (dS_good hm).2 (depth_pos hm) l [] [] _ (by simp [le2]) (dS_good hl).2
  cases w with
  | nil => exact absurd hw2 (by simp [le2])
  | cons d w =>
    cases w with
    | cons e w => exact absurd hw2.2 (by simp [le2])
    | nil =>
      by_cases h15 : (rpL f m l).length ≤ 15
      · obtain ⟨g1, g2⟩ := good_of_dS hw h15
        refine ⟨by rw [g1]; simp [h15], fun _ => ?_⟩
        rw [g2]
        exact hw2.1
      · refine ⟨?_, fun h => absurd h h15⟩
        simp [goodE, h15]
theorem us_mem (l : List (Int × Int)) (x : Int) : x ∈ usL l ↔ (1, x) ∈ l := by
  unfold usL
  constructor
  · intro h
    obtain ⟨q, hq, rfl⟩ := List.mem_map.1 h
    obtain ⟨h1, h2⟩ := List.mem_filter.1 hq
    have h2 : q.1 = 1 := by simpa using h2
    have : (1, q.2) = q := by rw [← h2]
    rw [this]; exact h1
  · intro h
    exact List.mem_map.2 ⟨(1, x), List.mem_filter.2 ⟨h, by simp⟩, rfl⟩
/-- The law's word on FieldsUsed of a replaced expression. -/
theorem rp_used (f : Int) (l m : List (Int × Int)) (x : Int) : x ∈ fuL (rpL f m l) ↔ (x ∈ fuL l ∧ x ≠ f) ∨ (f ∈ fuL l ∧ x ∈ fuL m) := by
  rw [fuL_mem, fuL_mem, fuL_mem, fuL_mem, us_mem, us_mem, us_mem, us_mem]
  unfold rpL
  rw [List.mem_flatMap]
  constructor
  · rintro ⟨q, hq, hx⟩
    split at hx
    · rename_i e
      refine .inr ⟨?_, hx⟩
      have : (1, f) = q := by rw [← e.1, ← e.2]
      rw [this]; exact hq
    · rename_i e
      have hx := List.mem_singleton.1 hx
      subst hx
      exact .inl ⟨hq, fun e2 => e ⟨rfl, e2⟩⟩
  · rintro (⟨h1, h2⟩ | ⟨h1, h2⟩)
    · exact ⟨(1, x), h1, by rw [if_neg (fun e => h2 e.2)]; simp⟩
    · exact ⟨(1, f), h1, by rw [if_pos ⟨rfl, rfl⟩]; exact h2⟩

end Go.Proofs.Ytfdlllhcjfhknaa.Eng
