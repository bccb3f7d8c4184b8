/- A deterministic reading of Go code over plain data: what functions of the program compute. No conditions. -/
import Derived.Test.YtalpgpjhloohfaaDoorLmbase
import Derived.Test.YtalpgpjhloohfaaDoorLmimpl
import Derived.Test.YtalpgpjhloohfaaDoorLmgood
import Derived.Test.YtalpgpjhloohfaaDoorLmitoa
import Derived.Test.YtalpgpjhloohfaaDoorLmappendck
import Derived.Test.YtalpgpjhloohfaaDoorEngT
import Derived.Lib.ItoaLen
import Derived.Lib.Bytes
import Derived.Lib.IndexLaws
import Derived.Lib.ItoaMem
import Derived.Lib.Atoi
import Derived.Lib.AtoiTie
namespace Go.Proofs.YtalpgpjhloohfaaDoor.Eng
open Go Go.Proofs
set_option maxRecDepth 100000
set_option maxHeartbeats 2000000
set_option linter.unusedSimpArgs false
set_option linter.unusedVariables false
attribute [local simp] finK fin1 hpOf xi renQ isRoot runCode runOps Eng.step wantedV astep val ofO made loadV storeV find V.cells bin binT binA numT numFs eqCells un1 setAt fieldAddrV fieldV indexAddrV indexV bounds sliceV convV lenV foldV max2V min2V callO bor rdsO wrsO seen_none okD_none loops keepIds resV resultsV St.ev TK.agg refs refsL refsO V.one V.isC Value.oneCell' ren renL renO noTag noTagL noTagR noTagO nodup mapO passV frs psi refsR newD loopNext opsAt idx flatAt rootOf backR newsV appendV copyV clearV strV bytesV bldV bufV selfV bytesOf nilCmp buildV fillF chunk
attribute [local simp] cT cF cX cWR cOW cK cBL X ints_length ints_get ints_getElem ints_drop ints_take ints_append ints_nil ints_set
attribute [local simp] ints_replicate
attribute [local simp] putV_some putV_none putH_app applyD_nil applyD_cons seen_app gc_ρ gc_H gc_tick st0_ρ st0_H st0_tick retV callRo callV_if borL_nil borL_cons ints_snoc take_self callWr cutH_app findQ afterV exportV_0 exportV_n okD_nil okD_cons sub_seq0 sub_seq1 sub_cond0 sub_cond1 sub_block sub_loop sub_nil young_far young_none hidW_nil mayW_nil pairs okI ok_0 ok_1 ok_2
attribute [local simp] T3 T4 T9 T22 T24 T28 T55 T70
theorem decFrom_append : ∀ (l m : List UInt8) (acc : Nat), Lib.decFrom acc (l ++ m) = (Lib.decFrom acc l).bind fun n => Lib.decFrom n m
  | [], m, acc => by simp [Lib.decFrom]
  | b :: l, m, acc => by
    simp only [List.cons_append, Lib.decFrom]
    cases Lib.digitVal b with
    | none => rfl
    | some d => exact decFrom_append l m _
theorem digit_ofNat {d : Nat} (h : d < 10) : Lib.digitVal (UInt8.ofNat (48 + d)) = some d := by
  unfold Lib.digitVal
  have : (UInt8.ofNat (48 + d)).toNat = 48 + d := by rw [UInt8.toNat_ofNat']; omega
  rw [this, if_pos (by omega)]
  congr 1
  omega
theorem dec_digits (u : Nat) : Lib.decFrom 0 (Lib.decDigits u) = some u := by
  induction u using Nat.strongRecOn with
  | _ u ih =>
    rw [Lib.decDigits]
    split
    · rename_i h
      simp only [Lib.decFrom, digit_ofNat h, Nat.zero_mul, Nat.zero_add]
    · rename_i h
      rw [decFrom_append, ih (u / 10) (by omega)]
      simp only [Option.bind_some, Lib.decFrom, digit_ofNat (by omega : u % 10 < 10)]
      congr 1
      omega
theorem dec_pos (u : Nat) : 0 < (Lib.decDigits u).length := by
  rw [Lib.decDigits]
  split <;> simp
theorem dec_head (u : Nat) : ∃ b r, Lib.decDigits u = b :: r ∧ 48 ≤ b.toNat ∧ b.toNat ≤ 57 := by
  obtain ⟨b, r, h⟩ : ∃ b r, Lib.decDigits u = b :: r := by
    cases h : Lib.decDigits u with
    | nil => have := dec_pos u; rw [h] at this; simp at this
    | cons b r => exact ⟨b, r, rfl⟩
  obtain ⟨d, hd⟩ := Lib.digit_of_decFrom _ _ _ (dec_digits u) 0 b (by rw [h]; rfl)
  unfold Lib.digitVal at hd
  split at hd
  · rename_i hh; exact ⟨b, r, h, hh⟩
  · cases hd
theorem dec_lt : ∀ (l : List UInt8) (acc n k : Nat), Lib.decFrom acc l = some n → acc < 10 ^ k → n < 10 ^ (k + l.length)
  | [], acc, n, k, h, ha => by simp only [Lib.decFrom, Option.some.injEq] at h; subst h; simpa using ha
  | b :: l, acc, n, k, h, ha => by
    simp only [Lib.decFrom] at h
    cases hb : Lib.digitVal b with
    | none => rw [hb] at h; cases h
    | some d =>
      rw [hb] at h
      have hd : d < 10 := by
        unfold Lib.digitVal at hb
        split at hb
        · cases hb; omega
        · cases hb
      have := dec_lt l (acc * 10 + d) n (k + 1) h (by rw [Nat.pow_succ]; omega)
      rw [show k + (b :: l).length = k + 1 + l.length by simp; omega]
      exact this
theorem dec_len6 {u : Nat} (h : u ≤ 999999) : (Lib.decDigits u).length ≤ 6 := by
  rw [Lib.decDigits_length]
  have : ∀ (k u : Nat), u < 10 ^ (k + 1) → Lib.nDigits u ≤ k + 1 := by
    intro k
    induction k with
    | zero => intro u hu; rw [Lib.nDigits_small (by omega)]; omega
    | succ k ih =>
      intro u hu
      by_cases h10 : u < 10
      · rw [Lib.nDigits_small h10]; omega
      · rw [Lib.nDigits_big h10]
        have := ih (u / 10) (by rw [Nat.pow_succ] at hu; omega)
        omega
  exact this 5 u (by omega)
/-- A number's text without its sign. -/
def unsg (l : List UInt8) : List UInt8 := if 1 < l.length ∧ l[0]? = some 45 then l.drop 1 else l
theorem unsg_itoa (n : Int) : unsg (Lib.itoa n) = Lib.decDigits n.natAbs ∧ ((unsg (Lib.itoa n)).length < (Lib.itoa n).length ↔ n < 0) := by
  obtain ⟨b, r, hb, h1, h2⟩ := dec_head n.natAbs
  have hp := dec_pos n.natAbs
  unfold Lib.itoa
  by_cases h : n < 0
  · rw [if_pos h]
    have : unsg (45 :: Lib.decDigits n.natAbs) = Lib.decDigits n.natAbs := by
      unfold unsg
      rw [if_pos (by simp; exact hp)]
      rfl
    rw [this]
    simp [h]
  · rw [if_neg h]
    have e : n.toNat = n.natAbs := by omega
    rw [e]
    have : unsg (Lib.decDigits n.natAbs) = Lib.decDigits n.natAbs := by
      unfold unsg
      rw [if_neg]
      rw [hb]
      rintro ⟨_, h3⟩
      simp at h3
      subst h3
      simp at h1
    rw [this]
    simp [h]
/-- The number whose text this is. -/
noncomputable def pI (l : List UInt8) : Option Int := open Classical in if h : ∃ n : Int, -999999 ≤ n ∧ n ≤ 999999 ∧ Lib.itoa n = l then some h.choose else none
theorem dec_inj {u v : Nat} (h : Lib.decDigits u = Lib.decDigits v) : u = v := by
  have := dec_digits u
  rw [h, dec_digits v] at this
  exact (Option.some.inj this).symm
theorem itoa_inj {n m : Int} (h : Lib.itoa n = Lib.itoa m) : n = m := by
  obtain ⟨a1, a2⟩ := unsg_itoa n
  obtain ⟨b1, b2⟩ := unsg_itoa m
  rw [h] at a1 a2
  have := dec_inj (a1.symm.trans b1)
  by_cases hn : n < 0
  · have hm := b2.1 (a2.2 hn); omega
  · have hm : ¬ m < 0 := fun hm => hn (a2.1 (b2.2 hm)); omega
theorem pI_some {n : Int} (h0 : -999999 ≤ n) (h1 : n ≤ 999999) : pI (Lib.itoa n) = some n := by
  have hx : ∃ m : Int, -999999 ≤ m ∧ m ≤ 999999 ∧ Lib.itoa m = Lib.itoa n := ⟨n, h0, h1, rfl⟩
  unfold pI
  rw [dif_pos hx]
  exact congrArg some (itoa_inj hx.choose_spec.2.2)
theorem pI_inv {l : List UInt8} {n : Int} (h : pI l = some n) : -999999 ≤ n ∧ n ≤ 999999 ∧ Lib.itoa n = l := by
  unfold pI at h
  split at h
  · rename_i hx; cases h; exact hx.choose_spec
  · cases h
theorem itoa_len7 {n : Int} (h0 : -999999 ≤ n) (h1 : n ≤ 999999) : (Lib.itoa n).length ≤ 7 := by
  have := dec_len6 (u := n.natAbs) (by omega)
  unfold Lib.itoa
  split
  · simp; omega
  · rw [show n.toNat = n.natAbs by omega]; omega
theorem atoi_itoa (n : Int) : Lib.atoi (Lib.itoa n) = some n := by
  obtain ⟨b, r, hb, h1, h2⟩ := dec_head n.natAbs
  have hd := dec_digits n.natAbs
  have hdn : Lib.decNat (Lib.decDigits n.natAbs) = some n.natAbs := by
    unfold Lib.decNat
    rw [hd, hb]
    rfl
  unfold Lib.itoa
  by_cases h : n < 0
  · rw [if_pos h]
    simp only [Lib.atoi, beq_self_eq_true, if_true, hdn, Option.map_some]
    congr 1
    omega
  · rw [if_neg h, show n.toNat = n.natAbs by omega]
    rw [hb] at hdn ⊢
    have e1 : (b == 45) = false := by
      rw [beq_eq_false_iff_ne]; rintro rfl; simp at h1
    have e2 : (b == 43) = false := by
      rw [beq_eq_false_iff_ne]; rintro rfl; simp at h1
    simp only [Lib.atoi, e1, e2, Bool.false_eq_true, if_false, hdn, Option.map_some]
    congr 1
    omega
theorem atoiAll_itoa {n : Int} (h0 : -999999 ≤ n) (h1 : n ≤ 999999) : Lib.atoiAll (Lib.itoa n) = .ok n := by
  rw [Lib.atoiAll_short _ (by have := itoa_len7 h0 h1; omega), atoi_itoa]
  rfl
noncomputable def pV (l : List UInt8) : Int := (pI l).getD 0
noncomputable def pB (l : List UInt8) : Bool := (pI l).isSome
theorem pI_unsg {l : List UInt8} {n : Int} (h : pI l = some n) : unsg l = Lib.decDigits n.natAbs ∧ 1 ≤ (unsg l).length ∧ (unsg l).length ≤ 6 := by
  obtain ⟨h1, h2, h3⟩ := pI_inv h
  obtain ⟨a1, a2⟩ := unsg_itoa n
  rw [h3] at a1
  rw [a1]
  exact ⟨rfl, dec_pos _, dec_len6 (by omega)⟩
theorem c_l1In2 (k : Nat) (x a b : Int) (hk : 1 ≤ k) : callK C k 47 [.c (.int .i64 x), .c (.int .i64 a), .c (.int .i64 b)] [] = some (.c (.bool (decide (a ≤ x) && decide (x ≤ b))), hpOf [] []) := c_l1In k x a b hk
theorem pow6 {k : Nat} (h : k ≤ 6) : 10 ^ k ≤ 1000000 := Nat.le_trans (Nat.pow_le_pow_right (by decide) h) (by decide)
def RdX (t : List UInt8) (i : Nat) (st : St) : Prop := ∃ m : Nat, Lib.decFrom 0 (t.take i) = some m ∧ st.ρ 5 = .c (.int .i64 (m : Int))
theorem dec_none {t : List UInt8} (h : Lib.decFrom 0 t = none) : ∃ (j m : Nat) (hj : j < t.length), Lib.decFrom 0 (t.take j) = some m ∧ Lib.digitVal t[j] = none := by
  have key : ∀ (t : List UInt8) (acc : Nat), Lib.decFrom acc t = none → ∃ (j m : Nat) (hj : j < t.length), Lib.decFrom acc (t.take j) = some m ∧ Lib.digitVal t[j] = none := by
    intro t
    induction t with
    | nil => intro acc h; cases h
    | cons b t ih =>
      intro acc h
      simp only [Lib.decFrom] at h
      cases hb : Lib.digitVal b with
      | none => exact ⟨0, acc, by simp, rfl, hb⟩
      | some d =>
        rw [hb] at h
        obtain ⟨j, m, hj, h1, h2⟩ := ih _ h
        refine ⟨j + 1, m, by simpa using hj, ?_, by simpa using h2⟩
        rw [List.take_succ_cons]
        simp only [Lib.decFrom, hb]
        exact h1
  exact key t 0 h
theorem dec_take {t : List UInt8} {i m : Nat} (h : Lib.decFrom 0 (t.take i) = some m) (h6 : t.length ≤ 6) : m < 1000000 := by
  have := dec_lt (t.take i) 0 m 0 h (by decide)
  have h2 : 0 + (t.take i).length ≤ 6 := by rw [List.length_take]; omega
  exact Nat.lt_of_lt_of_le this (pow6 h2)
theorem dig_iff (b : UInt8) : (∃ d, Lib.digitVal b = some d ∧ 48 ≤ b.toNat ∧ b.toNat ≤ 57 ∧ b.toNat = 48 + d) ∨ (Lib.digitVal b = none ∧ (b.toNat < 48 ∨ 57 < b.toNat)) := by
  unfold Lib.digitVal
  by_cases h : 48 ≤ b.toNat ∧ b.toNat ≤ 57
  · left; exact ⟨b.toNat - 48, by rw [if_pos h], h.1, h.2, by omega⟩
  · right; exact ⟨by rw [if_neg h], by omega⟩

end Go.Proofs.YtalpgpjhloohfaaDoor.Eng
