/- A deterministic reading of Go code over plain data: what functions of the program compute. No conditions. -/
import Derived.Test.YtalpgpjhloohfaaDoorLmbase
import Derived.Test.YtalpgpjhloohfaaDoorLmimpl
import Derived.Test.YtalpgpjhloohfaaDoorLmgood
import Derived.Test.YtalpgpjhloohfaaDoorLmitoa
import Derived.Test.YtalpgpjhloohfaaDoorLmappendck
import Derived.Test.YtalpgpjhloohfaaDoorLmquantity
import Derived.Test.YtalpgpjhloohfaaDoorLmsplit
import Derived.Test.YtalpgpjhloohfaaDoorLmnumtext
import Derived.Test.YtalpgpjhloohfaaDoorLmjoins
import Derived.Test.YtalpgpjhloohfaaDoorLmcuts
import Derived.Test.YtalpgpjhloohfaaDoorLmpfield
import Derived.Test.YtalpgpjhloohfaaDoorEngT
import Derived.Lib.IndexLaws
import Derived.Lib.ItoaLen
import Derived.Lib.Join
namespace Go.Proofs.YtalpgpjhloohfaaDoor.Eng
open Go Go.Proofs
set_option maxRecDepth 100000
set_option maxHeartbeats 2000000
set_option linter.unusedSimpArgs false
set_option linter.unusedVariables false
attribute [local simp] finK fin1 hpOf xi renQ isRoot runCode runOps Eng.step wantedV astep val ofO made loadV storeV find V.cells bin binT binA numT numFs eqCells un1 setAt fieldAddrV fieldV indexAddrV indexV bounds sliceV convV lenV foldV max2V min2V callO bor rdsO wrsO seen_none okD_none loops keepIds resV resultsV St.ev TK.agg refs refsL refsO V.one V.isC Value.oneCell' ren renL renO noTag noTagL noTagR noTagO nodup mapO passV frs psi refsR newD loopNext opsAt idx flatAt rootOf backR newsV appendV copyV clearV strV bytesV bldV bufV selfV bytesOf nilCmp buildV fillF chunk
attribute [local simp] cT cF cX cWR cOW cK cBL X ints_length ints_get ints_getElem ints_drop ints_take ints_append ints_nil ints_set
attribute [local simp] ints_replicate
attribute [local simp] putV_some putV_none putH_app applyD_nil applyD_cons seen_app gc_ρ gc_H gc_tick st0_ρ st0_H st0_tick retV callRo callV_if borL_nil borL_cons ints_snoc take_self callWr cutH_app findQ afterV exportV_0 exportV_n okD_nil okD_cons sub_seq0 sub_seq1 sub_cond0 sub_cond1 sub_block sub_loop sub_nil young_far young_none hidW_nil mayW_nil pairs okI ok_0 ok_1 ok_2
attribute [local simp] T3 T4 T9 T22 T24 T28 T55 T70
theorem cut_snoc (b : UInt8) : ∀ (p : List (List UInt8)) (l : List UInt8), CutOf b p l → CutOf b (p ++ [[]]) (l ++ [b])
  | [], _, h => absurd h (by simp [CutOf])
  | [x], l, h => ⟨h.2, [], by rw [h.1], rfl, by simp⟩
  | x :: y :: r, l, h => by
    obtain ⟨h1, l', e, h2⟩ := h
    have := cut_snoc b (y :: r) l' h2
    exact ⟨h1, l' ++ [b], by rw [e]; simp, this⟩
theorem cut_of (b : UInt8) : ∀ (p : List (List UInt8)), p ≠ [] → (∀ x ∈ p, b ∉ x) → CutOf b p (joinB p b)
  | [], h, _ => absurd rfl h
  | [x], _, h => ⟨by simp [joinB, Lib.join_one], h x (by simp)⟩
  | x :: y :: r, _, h => by
    have ih := cut_of b (y :: r) (by simp) (fun z hz => h z (List.mem_cons_of_mem _ hz))
    refine ⟨h x (by simp), joinB (y :: r) b, ?_, ih⟩
    unfold joinB
    rw [Lib.join_cons, Lib.join_cons]
    simp [Lib.joinTail]
theorem flat_join (b : UInt8) : ∀ (p : List (List UInt8)), p ≠ [] → p.flatMap (fun x => x ++ [b]) = joinB p b ++ [b]
  | [], h => absurd rfl h
  | [x], _ => by simp [joinB, Lib.join_one]
  | x :: y :: r, _ => by
    have ih := flat_join b (y :: r) (by simp)
    rw [List.flatMap_cons, ih]
    unfold joinB
    rw [Lib.join_cons, Lib.join_cons]
    simp [Lib.joinTail]
theorem split_is {b : UInt8} {p : List (List UInt8)} {l : List UInt8} (h : CutOf b p l) : splitL l b = p := cut_unique b _ _ l (splitL_cut l b) h
theorem split_ne (l : List UInt8) (b : UInt8) : splitL l b ≠ [] := by simp [splitL]
theorem row_split {r : List Int} (h : r ≠ []) : splitL (rowT r) 32 = r.map cellT := by
  refine split_is (cut_of 32 _ (by simpa using h) (fun x hx => ?_))
  obtain ⟨n, _, rfl⟩ := List.mem_map.1 hx
  exact cellT_no n 32 (.inl rfl)
theorem join_mem {b c : UInt8} : ∀ {p : List (List UInt8)}, c ∈ joinB p b → c = b ∨ ∃ x ∈ p, c ∈ x
  | [], h => by simp [joinB, Lib.join_nil] at h
  | [x], h => by simp [joinB, Lib.join_one] at h; exact .inr ⟨x, by simp, h⟩
  | x :: y :: r, h => by
    have e : joinB (x :: y :: r) b = x ++ b :: joinB (y :: r) b := by
      unfold joinB
      rw [Lib.join_cons, Lib.join_cons]
      simp [Lib.joinTail]
    rw [e, List.mem_append, List.mem_cons] at h
    rcases h with h | h | h
    · exact .inr ⟨x, by simp, h⟩
    · exact .inl h
    · rcases join_mem h with h | ⟨z, hz, h⟩
      · exact .inl h
      · exact .inr ⟨z, List.mem_cons_of_mem _ hz, h⟩
theorem row_no (r : List Int) : (10 : UInt8) ∉ rowT r := by
  intro h
  rcases join_mem h with h | ⟨x, hx, h⟩
  · exact absurd h (by decide)
  · obtain ⟨n, _, rfl⟩ := List.mem_map.1 hx
    exact cellT_no n 10 (.inr rfl) h
theorem rows_cut {R : List (List Int)} (h : R ≠ []) : CutOf 10 (R.map rowT) (joinB (R.map rowT) 10) ∧ rowsT R = joinB (R.map rowT) 10 ++ [10] := by
  refine ⟨cut_of 10 _ (by simpa using h) (fun x hx => ?_), ?_⟩
  · obtain ⟨r, _, rfl⟩ := List.mem_map.1 hx
    exact row_no r
  · rw [← flat_join 10 _ (by simpa using h)]
    simp [rowsT, List.flatMap_map]
/-- What was read, line by line: rows of one width. -/
theorem preI_rows (L : List (List UInt8)) : ∀ i, i ≤ L.length → ∀ w acc, preI L i = some (w, acc) → ∃ R : List (List Int), acc = R.flatten ∧ L.take i = R.map rowT ∧ (∀ r ∈ R, r.length = w) ∧ (i = 0 → w = 0) ∧ (0 < i → 0 < w)
  | 0, _, w, acc, h => by
    simp only [preI, List.take_zero, List.foldl_nil, Option.some.injEq, Prod.mk.injEq] at h
    obtain ⟨rfl, rfl⟩ := h
    exact ⟨[], rfl, by simp, by simp, fun _ => rfl, fun h => absurd h (by omega)⟩
  | i + 1, hi, w, acc, h => by
    rw [preI_succ L i (by omega)] at h
    cases hp : preI L i with
    | none => rw [hp] at h; cases h
    | some q =>
      obtain ⟨w0, acc0⟩ := q
      obtain ⟨R, rfl, hR, hw, h0, h1⟩ := preI_rows L i (by omega) w0 acc0 hp
      rw [hp] at h
      simp only [stI] at h
      split at h
      · cases h
      · rename_i hc
        split at h
        · cases h
        · rename_i a ha
          simp only [Option.some.injEq, Prod.mk.injEq] at h
          obtain ⟨rfl, rfl⟩ := h
          have hl := rowP_len ha
          have hne : (splitL L[i] 32).length ≠ 0 := fun e => split_ne L[i] 32 (List.length_eq_zero_iff.1 e)
          refine ⟨R ++ [a], by simp, ?_, fun r hr => ?_, fun e => by omega, fun _ => by omega⟩
          · rw [List.take_succ_eq_append_getElem (by omega), hR, List.map_append]
            congr 1
            simp only [List.map_cons, List.map_nil]
            have := (cut_join 32 _ _ (splitL_cut L[i] 32)).1
            rw [← rowP_inv ha] at this
            rw [← this]; rfl
          · rcases List.mem_append.1 hr with hr | hr
            · by_cases hi0 : i = 0
              · subst hi0
                simp only [List.take_zero] at hR
                have : R = [] := by simpa using hR.symm
                rw [this] at hr; cases hr
              · have := h1 (by omega)
                rw [hw r hr]
                by_cases e : (splitL L[i] 32).length = w0
                · exact e.symm
                · exact absurd ⟨this, e⟩ hc
            · rw [List.mem_singleton.1 hr, hl]
theorem preI_of (R : List (List Int)) (w : Nat) (hw : 0 < w) (hl : ∀ r ∈ R, r.length = w) (hc : ∀ r ∈ R, r.all cellB = true) : ∀ i, i ≤ R.length → preI (R.map rowT) i = some (if i = 0 then 0 else w, (R.take i).flatten) ∧ preS (R.map rowT) i = some (if i = 0 then 0 else w, (R.take i).flatten)
  | 0, _ => ⟨rfl, rfl⟩
  | i + 1, hi => by
    obtain ⟨h1, h2⟩ := preI_of R w hw hl hc i (by omega)
    have hlt : i < R.length := by omega
    have hm := List.getElem_mem hlt
    have hrl := hl _ hm
    have hne : R[i] ≠ [] := by intro e; rw [e] at hrl; simp at hrl; omega
    have hs := row_split hne
    have hp := rowP_T (hc _ hm)
    rw [preI_succ _ i (by simpa using hlt), preS_succ _ i (by simpa using hlt), h1, h2]
    simp only [List.getElem_map]
    have hlen : (splitL (rowT R[i]) 32).length = w := by rw [hs, List.length_map, hrl]
    constructor
    · simp only [stI]
      rw [if_neg (by rw [hlen]; split <;> omega), hs, hp]
      simp only [List.length_map, hrl]
      rw [if_neg (by omega), List.take_succ_eq_append_getElem hlt, List.flatten_append]
      simp only [List.flatten_cons, List.flatten_nil, List.append_nil]
    · simp only [stS]
      rw [hs, hp]
      simp only [List.length_map, hrl]
      rw [if_neg (by omega), List.take_succ_eq_append_getElem hlt, List.flatten_append]
      simp only [List.flatten_cons, List.flatten_nil, List.append_nil]
/-- Cells in rows of w. -/
def chnk (w : Nat) : Nat → List Int → List (List Int)
  | 0, _ => []
  | h + 1, c => c.take w :: chnk w h (c.drop w)
theorem chnk_len (w : Nat) : ∀ (h : Nat) (c : List Int), (chnk w h c).length = h
  | 0, _ => rfl
  | h + 1, c => by simp [chnk, chnk_len w h]
theorem chnk_flat (w : Nat) : ∀ (h : Nat) (c : List Int), c.length = w * h → (chnk w h c).flatten = c ∧ ∀ r ∈ chnk w h c, r.length = w
  | 0, c, e => by
    have : c = [] := List.length_eq_zero_iff.1 (by simpa using e)
    subst this
    simp [chnk]
  | h + 1, c, e => by
    rw [Nat.mul_succ] at e
    obtain ⟨h1, h2⟩ := chnk_flat w h (c.drop w) (by rw [List.length_drop]; omega)
    refine ⟨by simp [chnk, h1], fun r hr => ?_⟩
    rcases List.mem_cons.1 hr with rfl | hr
    · rw [List.length_take]; omega
    · exact h2 r hr
theorem chnk_of (w : Nat) : ∀ (R : List (List Int)), (∀ r ∈ R, r.length = w) → chnk w R.length R.flatten = R
  | [], _ => rfl
  | r :: R, h => by
    have hr := h r (by simp)
    have ih := chnk_of w R (fun x hx => h x (List.mem_cons_of_mem _ hx))
    simp only [List.length_cons, chnk, List.flatten_cons]
    rw [← hr, List.take_left, List.drop_left, hr, ih]
def textF (w h : Nat) (c : List Int) : List UInt8 := rowsT (chnk w h c)
theorem cell_len {n : Int} (h : cellB n = true) : (cellT n).length ≤ 5 := by
  unfold cellB at h
  simp only [Bool.or_eq_true, beq_iff_eq, Bool.and_eq_true, decide_eq_true_eq] at h
  unfold cellT
  split
  · decide
  · rename_i hn
    have hk : ∀ u : Nat, u ≤ 9999 → (Lib.decDigits u).length ≤ 4 := by
      intro u hu
      rw [Lib.decDigits_length]
      have hgen : ∀ (k u : Nat), u < 10 ^ (k + 1) → Lib.nDigits u ≤ k + 1 := by
        intro k
        induction k with
        | zero => intro u hu; rw [Lib.nDigits_small (by omega)]; omega
        | succ k ih =>
          intro u hu
          by_cases h10 : u < 10
          · rw [Lib.nDigits_small h10]; omega
          · rw [Lib.nDigits_big h10]
            have := ih (u / 10) (by rw [Nat.pow_succ] at hu; omega)
            omega
      exact hgen 3 u (by omega)
    unfold Lib.itoa
    split
    · rw [List.length_cons]
      have := hk n.natAbs (by omega)
      omega
    · have := hk n.toNat (by omega)
      omega
theorem row_len : ∀ (r : List Int), r.all cellB = true → (rowT r).length + 1 ≤ 6 * r.length + 1 ∧ (r ≠ [] → (rowT r).length + 1 ≤ 6 * r.length)
  | [], _ => by simp [rowT, joinB, Lib.join_nil]
  | [a], h => by
    simp only [List.all_cons, List.all_nil, Bool.and_true] at h
    have := cell_len h
    simp only [rowT, List.map_cons, List.map_nil, joinB, Lib.join_one, List.length_cons, List.length_nil]
    constructor
    · omega
    · intro _; omega
  | a :: b :: r, h => by
    simp only [List.all_cons, Bool.and_eq_true] at h
    have h1 := cell_len h.1
    have ih := (row_len (b :: r) (by simp only [List.all_cons, Bool.and_eq_true]; exact h.2)).2 (by simp)
    have e : rowT (a :: b :: r) = cellT a ++ 32 :: rowT (b :: r) := by
      unfold rowT joinB
      simp only [List.map_cons]
      rw [Lib.join_cons, Lib.join_cons]
      simp [Lib.joinTail]
    rw [e]
    simp only [List.length_append, List.length_cons] at ih ⊢
    constructor
    · omega
    · intro _; omega
theorem rows_len : ∀ (R : List (List Int)) (w : Nat), 0 < w → (∀ r ∈ R, r.length = w) → (∀ r ∈ R, r.all cellB = true) → (rowsT R).length ≤ 6 * (w * R.length)
  | [], _, _, _, _ => by simp [rowsT]
  | r :: R, w, hw, hl, hc => by
    have ih := rows_len R w hw (fun x hx => hl x (List.mem_cons_of_mem _ hx)) (fun x hx => hc x (List.mem_cons_of_mem _ hx))
    have hr := hl r (by simp)
    have h1 := (row_len r (hc r (by simp))).2 (by intro e; rw [e] at hr; simp at hr; omega)
    have e : rowsT (r :: R) = rowT r ++ [10] ++ rowsT R := by simp [rowsT]
    rw [e]
    simp only [List.length_append, List.length_cons, List.length_nil, Nat.mul_succ] at ih ⊢
    rw [hr] at h1
    omega
noncomputable def accI (s : List UInt8) : Option (Nat × Nat × List Int) := if s.length ≤ 384 ∧ s.getLast? = some 10 then (match preI (splitL s.dropLast 10) (splitL s.dropLast 10).length with
  | some (w, c) => if goodB w (splitL s.dropLast 10).length c = true then some (w, (splitL s.dropLast 10).length, c) else none
  | none => none) else none
noncomputable def accS (s : List UInt8) : Option (Nat × Nat × List Int) := if s.length ≤ 500 ∧ 1 ≤ (splitL s 10).length - 1 ∧ (splitL s 10).length - 1 ≤ 8 then (match preS (splitL s 10) ((splitL s 10).length - 1) with
  | some (w, c) => if goodB w ((splitL s 10).length - 1 : Nat) c = true ∧ textF w ((splitL s 10).length - 1) c = s then some (w, (splitL s 10).length - 1, c) else none
  | none => none) else none
theorem preS_take {L M : List (List UInt8)} {n : Nat} (h : L.take n = M.take n) : preS L n = preS M n := by
  unfold preS
  rw [h]
theorem cells_rows {R : List (List Int)} (h : R.flatten.all cellB = true) : ∀ r ∈ R, r.all cellB = true := fun r hr => by
  rw [List.all_eq_true] at h ⊢
  exact fun x hx => h x (List.mem_flatten.2 ⟨r, hr, hx⟩)
theorem acc_IS {s : List UInt8} {f : Nat × Nat × List Int} (h : accI s = some f) : accS s = some f := by
  unfold accI at h
  split at h
  case isFalse => cases h
  rename_i hc
  obtain ⟨hlen, hlast⟩ := hc
  split at h
  case h_2 => cases h
  rename_i w c hp
  split at h
  case isFalse => cases h
  rename_i hg
  cases h
  have hs : s = s.dropLast ++ [10] := by
    obtain ⟨ys, hy⟩ := List.getLast?_eq_some_iff.1 hlast
    rw [hy]; simp
  obtain ⟨L, hL⟩ : ∃ L, s.dropLast = L := ⟨_, rfl⟩
  rw [hL] at hp hg hs ⊢
  obtain ⟨R, rfl, hR, hw, _, hpos⟩ := preI_rows _ _ (Nat.le_refl _) w c hp
  rw [List.take_length] at hR
  have hn : (splitL L 10).length = R.length := by rw [hR, List.length_map]
  have hne0 := split_ne L 10
  have hR0 : R ≠ [] := by intro e; rw [e] at hR; exact hne0 hR
  have hRp : 0 < R.length := List.length_pos_iff.2 hR0
  have hw0 : 0 < w := hpos (by rw [hn]; exact hRp)
  obtain ⟨sh, _, hall, _⟩ := good_length hg
  obtain ⟨_, _, _, _, b1, b2⟩ := shape_area sh
  have hcr := cells_rows hall
  have hsp : splitL s 10 = R.map rowT ++ [[]] := by
    rw [hs]
    refine split_is (cut_snoc 10 _ _ ?_)
    rw [← hR]
    exact splitL_cut L 10
  have hcut := rows_cut hR0
  have hj : joinB (R.map rowT) 10 = L := by rw [← hR]; exact (cut_join 10 _ _ (splitL_cut L 10)).1
  have ht : textF w R.length R.flatten = s := by
    unfold textF
    rw [chnk_of w R hw, hcut.2, hj]
    exact hs.symm
  have hpS : preS (splitL s 10) R.length = some (w, R.flatten) := by
    rw [preS_take (M := R.map rowT) (by rw [hsp, List.take_append_of_le_length (by simp)])]
    have := (preI_of R w hw0 hw hcr R.length (Nat.le_refl _)).2
    rw [if_neg (by omega), List.take_length] at this
    exact this
  have hl1 : (splitL s 10).length - 1 = R.length := by rw [hsp]; simp
  unfold accS
  rw [hl1, hpS]
  rw [hn] at hg b2 ⊢
  simp only []
  rw [if_pos ⟨by omega, by omega, by omega⟩, if_pos ⟨hg, ht⟩]
theorem acc_SI {s : List UInt8} {f : Nat × Nat × List Int} (h : accS s = some f) : accI s = some f := by
  unfold accS at h
  split at h
  case isFalse => cases h
  rename_i hc
  obtain ⟨_, hn1, hn8⟩ := hc
  split at h
  case h_2 => cases h
  rename_i w c hp
  split at h
  case isFalse => cases h
  rename_i hg
  obtain ⟨hg, ht⟩ := hg
  obtain ⟨n, hn⟩ : ∃ n, (splitL s 10).length - 1 = n := ⟨_, rfl⟩
  rw [hn] at hn1 hn8 hp hg ht h
  cases h
  obtain ⟨sh, hcl, hall, _⟩ := good_length hg
  obtain ⟨_, _, a1, a2, b1, b2⟩ := shape_area sh
  have hcl' : c.length = w * n := by
    have : ((w * n : Nat) : Int) = (w : Int) * (n : Int) := Int.natCast_mul w n
    omega
  obtain ⟨hf, hw⟩ := chnk_flat w n c hcl'
  have hRl := chnk_len w n c
  unfold textF at ht
  obtain ⟨R, hR⟩ : ∃ R, chnk w n c = R := ⟨_, rfl⟩
  rw [hR] at hf hw hRl ht
  have hR0 : R ≠ [] := by intro e; rw [e] at hRl; simp at hRl; omega
  have hcr : ∀ r ∈ R, r.all cellB = true := cells_rows (by rw [hf]; exact hall)
  obtain ⟨hcut, he⟩ := rows_cut hR0
  obtain ⟨L, hL⟩ : ∃ L, joinB (R.map rowT) 10 = L := ⟨_, rfl⟩
  rw [hL] at hcut he
  have hs : s = L ++ [10] := by rw [← ht]; exact he
  have hsl : splitL L 10 = R.map rowT := split_is hcut
  have hdl : s.dropLast = L := by rw [hs]; simp
  have hlen : s.length ≤ 384 := by
    have := rows_len R w (by omega) hw hcr
    rw [ht, hRl] at this
    have h64 : w * n ≤ 64 := by
      have : w * n ≤ 8 * 8 := Nat.mul_le_mul (by omega) (by omega)
      omega
    omega
  have hpI : preI (R.map rowT) n = some (w, c) := by
    have := (preI_of R w (by omega) hw hcr R.length (Nat.le_refl _)).1
    rw [if_neg (by omega), List.take_length, hf, hRl] at this
    exact this
  unfold accI
  rw [hdl, hsl, List.length_map, hRl, hpI]
  simp only []
  rw [if_pos ⟨hlen, by rw [hs]; simp⟩, if_pos hg]
theorem acc_same (s : List UInt8) : accI s = accS s := by
  cases h : accI s with
  | some f => exact (acc_IS h).symm
  | none =>
    cases h2 : accS s with
    | none => rfl
    | some f => rw [acc_SI h2] at h; cases h

end Go.Proofs.YtalpgpjhloohfaaDoor.Eng
