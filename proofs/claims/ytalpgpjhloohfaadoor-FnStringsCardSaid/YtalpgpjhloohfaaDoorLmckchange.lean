/- A deterministic reading of Go code over plain data: what functions of the program compute. No conditions. -/
import Derived.Test.YtalpgpjhloohfaaDoorLmbase
import Derived.Test.YtalpgpjhloohfaaDoorLmimpl
import Derived.Test.YtalpgpjhloohfaaDoorLmgood
import Derived.Test.YtalpgpjhloohfaaDoorLmitoa
import Derived.Test.YtalpgpjhloohfaaDoorLmappendck
import Derived.Test.YtalpgpjhloohfaaDoorLmsplit
import Derived.Test.YtalpgpjhloohfaaDoorLmverify
import Derived.Test.YtalpgpjhloohfaaDoorLmnumtext
import Derived.Test.YtalpgpjhloohfaaDoorEngT
import Derived.Lib.IndexLaws
import Derived.Lib.ItoaLen
import Derived.Lib.Bytes
namespace Go.Proofs.YtalpgpjhloohfaaDoor.Eng
open Go Go.Proofs
set_option maxRecDepth 100000
set_option maxHeartbeats 2000000
set_option linter.unusedSimpArgs false
set_option linter.unusedVariables false
theorem ckS_mod {h : Int} {c : UInt8} (h0 : 0 ≤ h) : ckS h c = (41 * h + (c.toNat : Int) + 1) % 999979 := by
  unfold ckS
  exact Int.tmod_eq_emod_of_nonneg (by omega)
theorem ckS_inj {h h' : Int} {c : UInt8} (a : 0 ≤ h ∧ h < 999979) (b : 0 ≤ h' ∧ h' < 999979) (e : ckS h c = ckS h' c) : h = h' := by
  rw [ckS_mod a.1, ckS_mod b.1] at e
  omega
theorem ckS_ne {h : Int} {c d : UInt8} (a : 0 ≤ h) (e : ckS h c = ckS h d) : c = d := by
  rw [ckS_mod a, ckS_mod a] at e
  have hc := c.toNat_lt
  have hd := d.toNat_lt
  have : c.toNat = d.toNat := by omega
  exact UInt8.toNat_inj.1 this
theorem ckF_inj : ∀ (l : List UInt8) {h h' : Int} (_ : 0 ≤ h ∧ h < 999979) (_ : 0 ≤ h' ∧ h' < 999979), l.foldl ckS h = l.foldl ckS h' → h = h'
  | [], _, _, _, _, e => e
  | c :: l, h, h', a, b, e => by
    rw [List.foldl_cons, List.foldl_cons] at e
    have p1 := ck_bound [c] h a.1 a.2
    have p2 := ck_bound [c] h' b.1 b.2
    simp only [List.foldl_cons, List.foldl_nil] at p1 p2
    exact ckS_inj a b (ckF_inj l p1 p2 e)
theorem ck_set {x : List UInt8} {k : Nat} {c : UInt8} (hk : k < x.length) (e : ckL (x.set k c) = ckL x) : c = x[k] := by
  rw [List.set_eq_take_append_cons_drop, if_pos hk] at e
  have hx : x = x.take k ++ x[k] :: x.drop (k + 1) := by rw [← List.drop_eq_getElem_cons hk, List.take_append_drop]
  conv at e => rhs; rw [hx]
  unfold ckL at e
  rw [List.foldl_append, List.foldl_append, List.foldl_cons, List.foldl_cons] at e
  have b := ck_bound (x.take k) 7 (by omega) (by omega)
  have p1 := ck_bound [c] _ b.1 b.2
  have p2 := ck_bound [x[k]] _ b.1 b.2
  simp only [List.foldl_cons, List.foldl_nil] at p1 p2
  exact ckS_ne b.1 (ckF_inj _ p1 p2 e)
theorem dec_all : ∀ u : Nat, ∀ b ∈ Lib.decDigits u, 48 ≤ b.toNat ∧ b.toNat ≤ 57 := by
  intro u
  induction u using Nat.strongRecOn with
  | _ u ih =>
    intro b hb
    rw [Lib.decDigits] at hb
    have hdig : ∀ d, d < 10 → 48 ≤ (UInt8.ofNat (48 + d)).toNat ∧ (UInt8.ofNat (48 + d)).toNat ≤ 57 := by
      intro d hd
      have : (UInt8.ofNat (48 + d)).toNat = 48 + d := by rw [UInt8.toNat_ofNat']; omega
      omega
    split at hb
    · simp only [List.mem_singleton] at hb
      subst hb
      exact hdig _ (by omega)
    · simp only [List.mem_append, List.mem_singleton] at hb
      rcases hb with hb | hb
      · exact ih _ (by omega) b hb
      · subst hb
        exact hdig _ (by omega)
theorem ck_digits (x : List UInt8) : ∀ b ∈ Lib.itoa (ckL x), b ≠ 35 := by
  intro b hb e
  subst e
  have p := ck_bound x 7 (by omega) (by omega)
  obtain ⟨u, hu⟩ : ∃ u : Nat, ckL x = u := ⟨(ckL x).toNat, by unfold ckL; omega⟩
  rw [hu, Lib.itoa_nonneg] at hb
  have := dec_all u _ hb
  simp at this
theorem no35 {x : List UInt8} (hx : hasB1 x = false) : ∀ j : Nat, x[j]? ≠ some 35 := by
  intro j
  unfold hasB1 at hx
  have hge := Lib.indexByte_ge x 35
  have hn : Lib.indexByte x 35 = -1 := by simp at hx; omega
  exact fun h => Lib.indexByte_none hn j h
theorem seal_get1 {x : List UInt8} {j : Nat} (h : j < x.length) : (sealL x)[j]? = x[j]? := by
  unfold sealL; rw [List.getElem?_append_left h]
theorem seal_get2 (x : List UInt8) : (sealL x)[x.length]? = some 35 := by
  unfold sealL; rw [List.getElem?_append_right (Nat.le_refl _)]; simp
theorem seal_get3 {x : List UInt8} {j : Nat} (h : x.length < j) : (sealL x)[j]? ≠ some 35 := by
  unfold sealL
  rw [List.getElem?_append_right (by omega)]
  obtain ⟨m, hm⟩ : ∃ m, j - x.length = m + 1 := ⟨j - x.length - 1, by omega⟩
  rw [hm, List.getElem?_cons_succ]
  intro e
  exact ck_digits x 35 (List.mem_of_getElem? e) rfl
/-- A sealed text with one byte changed is no sealed text. -/
theorem seal_change {x : List UInt8} (hx : hasB1 x = false) {k : Nat} {c : UInt8} (hk : k < (sealL x).length) (hc : c ≠ (sealL x)[k]) : verB ((sealL x).set k c) = false := by
  rw [Bool.eq_false_iff]
  intro hv
  unfold verB at hv
  simp only [Bool.and_eq_true, decide_eq_true_eq] at hv
  obtain ⟨_, hv⟩ := hv
  have ht := head_no ((sealL x).set k c)
  generalize headL ((sealL x).set k c) 35 = t at hv ht
  have get : ∀ j, j ≠ k → (sealL t)[j]? = (sealL x)[j]? := by
    intro j hj
    rw [hv, List.getElem?_set_ne (Ne.symm hj)]
  have getk : (sealL t)[k]? = some c := by rw [hv, List.getElem?_set_self hk]
  have xk : (sealL x)[k]? = some (sealL x)[k] := List.getElem?_eq_getElem hk
  have hlen : t.length = x.length := by
    rcases Nat.lt_trichotomy t.length x.length with h | h | h
    · exfalso
      have e1 : t.length = k := by
        by_cases e : t.length = k
        · exact e
        · exfalso
          have := get _ e
          rw [seal_get2, seal_get1 h] at this
          exact no35 hx _ this.symm
      have := get x.length (by omega)
      rw [seal_get2] at this
      exact seal_get3 h this
    · exact h
    · exfalso
      have e1 : x.length = k := by
        by_cases e : x.length = k
        · exact e
        · exfalso
          have := get _ e
          rw [seal_get2, seal_get1 h] at this
          exact no35 ht _ this
      have := get t.length (by omega)
      rw [seal_get2] at this
      exact seal_get3 h this.symm
  rcases Nat.lt_trichotomy k x.length with h | h | h
  · -- in the text
    have h0 : t = x.set k c := by
      apply List.ext_getElem?
      intro j
      by_cases hj : j < x.length
      · by_cases e : j = k
        · subst e
          rw [List.getElem?_set_self h, ← getk, seal_get1 (by omega)]
        · rw [List.getElem?_set_ne (Ne.symm e), ← seal_get1 (by omega), get j e, seal_get1 hj]
      · rw [List.getElem?_eq_none (by omega), List.getElem?_eq_none (by simp; omega)]
    have h1 : Lib.itoa (ckL t) = Lib.itoa (ckL x) := by
      have e1 : (sealL t).drop (t.length + 1) = Lib.itoa (ckL t) := by unfold sealL; rw [List.drop_append]; simp
      have e2 : (sealL x).drop (x.length + 1) = Lib.itoa (ckL x) := by unfold sealL; rw [List.drop_append]; simp
      rw [← e1, ← e2, hlen]
      apply List.ext_getElem?
      intro j
      rw [List.getElem?_drop, List.getElem?_drop]
      exact get _ (by omega)
    have h2 := itoa_inj h1
    rw [h0] at h2
    have h3 := ck_set h h2
    apply hc
    rw [h3]
    apply Option.some.inj
    rw [← xk, seal_get1 h, List.getElem?_eq_getElem h]
  · -- the mark
    have e1 : (sealL t)[k]? = some 35 := by rw [h, ← hlen]; exact seal_get2 t
    have e2 : (sealL x)[k]? = some 35 := by rw [h]; exact seal_get2 x
    rw [getk] at e1
    rw [xk] at e2
    exact hc ((Option.some.inj e1).trans (Option.some.inj e2).symm)
  · have h0 : t = x := by
      apply List.ext_getElem?
      intro j
      by_cases hj : j < x.length
      · rw [← seal_get1 (by omega), get j (by omega), seal_get1 hj]
      · rw [List.getElem?_eq_none (by omega), List.getElem?_eq_none (by omega)]
    rw [h0] at getk
    rw [xk] at getk
    exact hc (Option.some.inj getk).symm

end Go.Proofs.YtalpgpjhloohfaaDoor.Eng
