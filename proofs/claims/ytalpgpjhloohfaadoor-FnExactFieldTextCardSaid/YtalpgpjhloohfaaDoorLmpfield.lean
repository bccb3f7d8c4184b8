/- A deterministic reading of Go code over plain data: what functions of the program compute. No conditions. -/
import Derived.Test.YtalpgpjhloohfaaDoorLmbase
import Derived.Test.YtalpgpjhloohfaaDoorLmimpl
import Derived.Test.YtalpgpjhloohfaaDoorLmgood
import Derived.Test.YtalpgpjhloohfaaDoorLmitoa
import Derived.Test.YtalpgpjhloohfaaDoorLmappendck
import Derived.Test.YtalpgpjhloohfaaDoorLmquantity
import Derived.Test.YtalpgpjhloohfaaDoorLmsplit
import Derived.Test.YtalpgpjhloohfaaDoorLmnumtext
import Derived.Test.YtalpgpjhloohfaaDoorLmjoins
import Derived.Test.YtalpgpjhloohfaaDoorLmcuts
import Derived.Test.YtalpgpjhloohfaaDoorEngT
import Derived.Lib.IndexLaws
import Derived.Lib.ItoaLen
import Derived.Lib.Join
namespace Go.Proofs.YtalpgpjhloohfaaDoor.Eng
open Go Go.Proofs
set_option maxRecDepth 100000
set_option maxHeartbeats 2000000
set_option linter.unusedSimpArgs false
set_option linter.unusedVariables false
attribute [local simp] finK fin1 hpOf xi renQ isRoot runCode runOps Eng.step wantedV astep val ofO made loadV storeV find V.cells bin binT binA numT numFs eqCells un1 setAt fieldAddrV fieldV indexAddrV indexV bounds sliceV convV lenV foldV max2V min2V callO bor rdsO wrsO seen_none okD_none loops keepIds resV resultsV St.ev TK.agg refs refsL refsO V.one V.isC Value.oneCell' ren renL renO noTag noTagL noTagR noTagO nodup mapO passV frs psi refsR newD loopNext opsAt idx flatAt rootOf backR newsV appendV copyV clearV strV bytesV bldV bufV selfV bytesOf nilCmp buildV fillF chunk
attribute [local simp] cT cF cX cWR cOW cK cBL X ints_length ints_get ints_getElem ints_drop ints_take ints_append ints_nil ints_set
attribute [local simp] ints_replicate
attribute [local simp] putV_some putV_none putH_app applyD_nil applyD_cons seen_app gc_ρ gc_H gc_tick st0_ρ st0_H st0_tick retV callRo callV_if borL_nil borL_cons ints_snoc take_self callWr cutH_app findQ afterV exportV_0 exportV_n okD_nil okD_cons sub_seq0 sub_seq1 sub_cond0 sub_cond1 sub_block sub_loop sub_nil young_far young_none hidW_nil mayW_nil pairs okI ok_0 ok_1 ok_2
attribute [local simp] T3 T4 T9 T22 T24 T28 T55 T70
/-- A word that stands for a cell. -/
noncomputable def cellP (w : List UInt8) : Option Int := if w = [46] then some (-9999) else match pI w with
  | some n => if n = -9999 then none else some n
  | none => none
def cellT (n : Int) : List UInt8 := if n = -9999 then [46] else Lib.itoa n
theorem cellP_inv {w : List UInt8} {n : Int} (h : cellP w = some n) : cellT n = w := by
  unfold cellP at h
  split at h
  · rename_i e
    cases h
    rw [e]; rfl
  · split at h
    · rename_i m hm
      split at h
      · cases h
      · rename_i hn
        cases h
        unfold cellT
        rw [if_neg hn]
        exact (pI_inv hm).2.2
    · cases h
theorem itoa_dot (n : Int) : Lib.itoa n ≠ [46] := by
  intro e
  have h := unsg_itoa n
  rw [e] at h
  obtain ⟨b, r, hd, h1, h2⟩ := dec_head n.natAbs
  have h0 : unsg [46] = [46] := rfl
  rw [h0, hd] at h
  have := h.1
  injection this with h3 _
  rw [← h3] at h1
  exact absurd h1 (by decide)
theorem cellP_T {n : Int} (h : cellB n = true) : cellP (cellT n) = some n := by
  unfold cellB at h
  simp only [Bool.or_eq_true, beq_iff_eq, Bool.and_eq_true, decide_eq_true_eq] at h
  unfold cellT
  by_cases hn : n = -9999
  · rw [if_pos hn, hn]; rfl
  · rw [if_neg hn]
    unfold cellP
    rw [if_neg (itoa_dot n), pI_some (by omega) (by omega)]
    simp only
    rw [if_neg hn]
noncomputable def rowP : List (List UInt8) → Option (List Int)
  | [] => some []
  | w :: r => match cellP w with
    | none => none
    | some a => match rowP r with
      | none => none
      | some l => some (a :: l)
theorem rowP_inv : ∀ {ws : List (List UInt8)} {a : List Int}, rowP ws = some a → a.map cellT = ws
  | [], a, h => by cases h; rfl
  | w :: r, a, h => by
    unfold rowP at h
    split at h
    · cases h
    · rename_i x hx
      split at h
      · cases h
      · rename_i l hl
        cases h
        rw [List.map_cons, cellP_inv hx, rowP_inv hl]
theorem rowP_T : ∀ {a : List Int}, a.all cellB = true → rowP (a.map cellT) = some a
  | [], _ => rfl
  | x :: a, h => by
    simp only [List.all_cons, Bool.and_eq_true] at h
    rw [List.map_cons, rowP, cellP_T h.1, rowP_T h.2]
theorem rowP_take (ws : List (List UInt8)) : ∀ (i : Nat) (h : i < ws.length), rowP (ws.take (i + 1)) = match rowP (ws.take i) with
    | none => none
    | some l => match cellP ws[i] with
      | none => none
      | some a => some (l ++ [a]) := by
  induction ws with
  | nil => intro i h; simp at h
  | cons w r ih =>
    intro i h
    cases i with
    | zero =>
      simp only [List.take_succ_cons, List.take_zero, rowP, List.getElem_cons_zero]
      cases cellP w <;> rfl
    | succ i =>
      have hi : i < r.length := by simpa using h
      have := ih i hi
      simp only [List.take_succ_cons, rowP, List.getElem_cons_succ] at this ⊢
      rw [this]
      cases cellP w with
      | none => rfl
      | some a =>
        cases rowP (r.take i) with
        | none => rfl
        | some l => cases cellP r[i] <;> rfl
theorem rowP_len {ws : List (List UInt8)} {a : List Int} (h : rowP ws = some a) : a.length = ws.length := by
  rw [← rowP_inv h, List.length_map]
/-- One line behind what was read: the width, the cells. -/
noncomputable def stI (o : Option (Nat × List Int)) (x : List UInt8) : Option (Nat × List Int) := match o with
  | none => none
  | some (w, acc) => if 0 < w ∧ (splitL x 32).length ≠ w then none else match rowP (splitL x 32) with
    | none => none
    | some a => some ((splitL x 32).length, acc ++ a)
noncomputable def stS (o : Option (Nat × List Int)) (x : List UInt8) : Option (Nat × List Int) := match o with
  | none => none
  | some (_, acc) => match rowP (splitL x 32) with
    | none => none
    | some a => some ((splitL x 32).length, acc ++ a)
noncomputable def preI (L : List (List UInt8)) (i : Nat) : Option (Nat × List Int) := (L.take i).foldl stI (some (0, []))
noncomputable def preS (L : List (List UInt8)) (i : Nat) : Option (Nat × List Int) := (L.take i).foldl stS (some (0, []))
theorem preI_succ (L : List (List UInt8)) (i : Nat) (h : i < L.length) : preI L (i + 1) = stI (preI L i) L[i] := by
  unfold preI
  rw [List.take_succ_eq_append_getElem h, List.foldl_append]
  rfl
theorem preS_succ (L : List (List UInt8)) (i : Nat) (h : i < L.length) : preS L (i + 1) = stS (preS L i) L[i] := by
  unfold preS
  rw [List.take_succ_eq_append_getElem h, List.foldl_append]
  rfl
/-- Rows of cells, and their text. -/
def rowT (r : List Int) : List UInt8 := joinB (r.map cellT) 32
def rowsT (R : List (List Int)) : List UInt8 := R.flatMap fun r => rowT r ++ [10]
theorem dec_range (u : Nat) : ∀ b ∈ Lib.decDigits u, 48 ≤ b.toNat ∧ b.toNat ≤ 57 := by
  intro b hb
  obtain ⟨i, hi, rfl⟩ := List.getElem_of_mem hb
  obtain ⟨d, hd⟩ := Lib.digit_of_decFrom _ _ _ (dec_digits u) i _ (List.getElem?_eq_getElem hi)
  unfold Lib.digitVal at hd
  split at hd
  · rename_i hh; exact hh
  · cases hd
theorem cellT_no (n : Int) (c : UInt8) (hc : c = 32 ∨ c = 10) : c ∉ cellT n := by
  unfold cellT
  split
  · rcases hc with rfl | rfl <;> decide
  · intro h
    have hd : c ∈ Lib.itoa n → c = 45 ∨ c ∈ Lib.decDigits n.natAbs := by
      intro h
      unfold Lib.itoa at h
      split at h
      · rcases List.mem_cons.1 h with h | h
        · exact .inl h
        · exact .inr (by simpa using h)
      · exact .inr (by
          have : n.natAbs = n.toNat := by omega
          rw [this]; exact h)
    rcases hd h with h | h
    · rcases hc with rfl | rfl <;> exact absurd h (by decide)
    · have := dec_range _ _ h
      rcases hc with rfl | rfl <;> exact absurd this (by decide)

end Go.Proofs.YtalpgpjhloohfaaDoor.Eng
