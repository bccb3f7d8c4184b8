/- A deterministic reading of Go code over plain data: what functions of the program compute. No conditions. -/
import Derived.Test.YthbekdccfleaoaaDoorLmbase
import Derived.Test.YthbekdccfleaoaaDoorLmimpl
import Derived.Test.YthbekdccfleaoaaDoorLmgood
import Derived.Test.YthbekdccfleaoaaDoorLmitoa
import Derived.Test.YthbekdccfleaoaaDoorLmappendck
import Derived.Test.YthbekdccfleaoaaDoorLmsplit
import Derived.Test.YthbekdccfleaoaaDoorLmquantity
import Derived.Test.YthbekdccfleaoaaDoorLmnumtext
import Derived.Test.YthbekdccfleaoaaDoorLmpq1
import Derived.Test.YthbekdccfleaoaaDoorLmpq2
import Derived.Test.YthbekdccfleaoaaDoorEngT
import Derived.Lib.IndexLaws
namespace Go.Proofs.YthbekdccfleaoaaDoor.Eng
open Go Go.Proofs
set_option maxRecDepth 100000
set_option maxHeartbeats 2000000
set_option linter.unusedSimpArgs false
set_option linter.unusedVariables false
attribute [local simp] finK fin1 hpOf xi renQ isRoot runCode runOps Eng.step wantedV astep val ofO made loadV storeV find V.cells bin binT un1 setAt fieldAddrV fieldV indexAddrV indexV bounds sliceV convV lenV foldV max2V min2V callO bor rdsO wrsO seen_none okD_none loops keepIds resV resultsV St.ev TK.agg refs refsL refsO V.one V.isC Value.oneCell' ren renL renO noTag noTagL noTagR noTagO nodup mapO passV frs psi refsR newD loopNext opsAt idx flatAt rootOf backR newsV appendV copyV clearV strV bytesOf nilCmp buildV fillF chunk
attribute [local simp] cT cF cX cWR cOW cK X ints_length ints_get ints_getElem ints_drop ints_take ints_append ints_nil ints_set
attribute [local simp] ints_replicate
attribute [local simp] putV_some putV_none putH_app applyD_nil applyD_cons seen_app gc_ρ gc_H gc_tick st0_ρ st0_H st0_tick retV callRo callV_if borL_nil borL_cons ints_snoc take_self callWr cutH_app findQ afterV exportV_0 exportV_n okD_nil okD_cons sub_seq0 sub_seq1 sub_cond0 sub_cond1 sub_block sub_loop sub_nil young_far young_none hidW_nil mayW_nil pairs okI ok_0 ok_1 ok_2
attribute [local simp] T3 T4 T5 T9 T22 T28 T41 T45 T89 T97 T102 T103 T105 T120 T126 T137 T141 T143 T144
attribute [local simp] young_near clo cloF Region.binds Nat.testBit hidW declW mayW
theorem pI_dec (u : Nat) (h : u ≤ 999999) : pI (Lib.decDigits u) = some (u : Int) := by
  have := pI_some (n := (u : Int)) (by omega) (by omega)
  unfold Lib.itoa at this
  rw [if_neg (by omega), Int.toNat_natCast] at this
  exact this
theorem pV_in (l : List UInt8) : -999999 ≤ pV l ∧ pV l ≤ 999999 := by
  unfold pV
  cases h : pI l with
  | none => simp
  | some n => obtain ⟨a, b, _⟩ := pI_inv h; simp; omega
theorem len2 {l : List (List UInt8)} (h : l.length = 2) : ∃ a b, l = [a, b] := by
  match l, h with
  | [a, b], _ => exact ⟨a, b, rfl⟩
theorem neg_of (a : UInt8) (r : List UInt8) (h : negB (a :: r) = false) : ¬ ((a.toNat : Nat) : Int) = 45 := by
  unfold negB at h
  simp at h
  intro e
  apply h
  have : a.toNat = (45 : UInt8).toNat := by
    have : a.toNat = 45 := by omega
    rw [this]; rfl
  exact UInt8.toNat_inj.1 this
def sgnI (p : List UInt8) : Int := if negB p = true then -1 else 1
theorem c_specPQ (k : Nat) (l p0 p1 : List UInt8) (hl : l.length ≤ 20) (hs : splitL l 32 = [p0, p1]) (h0 : p0.length ≤ 20) (un : Int) (ok : Bool)
    (pu : ∀ k, 40 ≤ k → callK C k 110 [.c (.string (bs p1))] [] = some (.tp [.c (.int .i64 un), .c (.bool ok)], hpOf [] [])) (r : V) (d0 d1 : List UInt8) (hd : splitL (unN p0) 46 = [d0, d1]) (hdl : d0.length ≤ 20 ∧ d1.length ≤ 20) (hok : ok = true)
    (t : List UInt8) (b : Bool) (qt : ∀ k, 60 ≤ k → callK C k 53 [.c (.int .i64 (sgnI p0 * (10 * pV d0 + pV d1))), .c (.int .i64 un)] [] = some (.tp [.c (.string (bs t)), .c (.bool b)], hpOf [] [])) (hk : 400 ≤ k) :
    callK C k 48 [.c (.string (bs l))] [] = some (if (pB d0 && pB d1) && (b && decide (t = l)) = true then (.tp [.c (.int .i64 (sgnI p0 * (10 * pV d0 + pV d1))), .c (.int .i64 un), .c (.bool true)], hpOf [] []) else (.tp [.c (.int .i64 0), .c (.int .i64 0), .c (.bool false)], hpOf [] [])) := by
  obtain ⟨k, rfl⟩ : ∃ m, k = m + 9 := ⟨k - 9, by omega⟩
  rw [callK_fn rfl F48 code48]
  subst hok
  have s1 := c_l1Split (k + 8) l 32 (by omega) (by omega)
  rw [hs, show (((32 : UInt8).toNat : Nat) : Int) = 32 from rfl] at s1
  have pu := pu (k + 8) (by omega)
  have qt := qt (k + 8) (by omega)
  have s2 := c_l1Split (k + 8) (unN p0) 46 (by have := un_len p0; omega) (by have := un_len p0; omega)
  rw [hd, show (((46 : UInt8).toNat : Nat) : Int) = 46 from rfl] at s2
  have r0 := c_l1Read (k + 8) d0 (by omega) (by omega)
  have r1 := c_l1Read (k + 8) d1 (by omega) (by omega)
  obtain ⟨v0, hv0⟩ : ∃ v, pV d0 = v := ⟨_, rfl⟩
  obtain ⟨v1, hv1⟩ : ∃ v, pV d1 = v := ⟨_, rfl⟩
  have i0 := pV_in d0
  have i1 := pV_in d1
  rw [hv0] at r0 qt i0 ⊢
  rw [hv1] at r1 qt i1 ⊢
  have w1 : IntKind.i64.wrap (10 * v0) = 10 * v0 := wrap_small (by omega) (by omega)
  have w2 : IntKind.i64.wrap (10 * v0 + v1) = 10 * v0 + v1 := wrap_small (by omega) (by omega)
  obtain ⟨b0, hb0⟩ : ∃ b, pB d0 = b := ⟨_, rfl⟩
  obtain ⟨b1, hb1⟩ : ∃ b, pB d1 = b := ⟨_, rfl⟩
  rw [hb0] at r0 ⊢
  rw [hb1] at r1 ⊢
  have g0 : ¬ (20 : Int) < (l.length : Int) := by omega
  have g0' : ¬ 20 < l.length := by omega
  simp [strsO, strs] at s1 s2
  have main : ∀ (sg : Int), sgnI p0 = sg → (sg = 1 ∨ sg = -1) → IntKind.i64.wrap (sg * (10 * v0 + v1)) = sg * (10 * v0 + v1) := by
    intro sg _ h
    rcases h with rfl | rfl <;> exact wrap_small (by omega) (by omega)
  unfold sgnI at qt main ⊢
  cases p0 with
  | nil =>
    have hn : negB [] = false := rfl
    have hu : unN [] = [] := rfl
    simp [hn] at qt main
    rw [hu] at s2
    cases b0 <;> cases b1 <;> cases b <;> by_cases ht : t = l <;>
      simp [R48_0, R48_1, R48_2, R48_3, R48_4, R48_5, R48_6, R48_7, R48_8, R48_9, R48_10, R48_11, R48_12, R48_13, R48_14, R48_15, R48_16, R48_17, R48_18, R48_19, R48_20, R48_21, Tryd.f48, undef, lit0, bs_size, g0, g0', s1, pu, s2, r0, r1, w1, w2, qt, bs_neq, ht, hn]
  | cons a q =>
    have ga : (0 : Int) < (q.length : Int) + 1 := by omega
    have gb : (1 : Int) ≤ (q.length : Int) + 1 := by omega
    have bt := byteAt_bs (l := a :: q) (i := 0) (by simp)
    simp at bt
    cases hn : negB (a :: q)
    · have hu : unN (a :: q) = a :: q := by simp [unN, hn]
      have na := neg_of a q hn
      have na' : (((a.toNat : Nat) : Int) == 45) = false := by simpa using na
      rw [hu] at s2
      simp [hn] at qt main
      cases b0 <;> cases b1 <;> cases b <;> by_cases ht : t = l <;>
        simp [R48_0, R48_1, R48_2, R48_3, R48_4, R48_5, R48_6, R48_7, R48_8, R48_9, R48_10, R48_11, R48_12, R48_13, R48_14, R48_15, R48_16, R48_17, R48_18, R48_19, R48_20, R48_21, Tryd.f48, undef, lit0, bs_size, g0, g0', s1, pu, s2, r0, r1, w1, w2, qt, bs_neq, ht, hn, ga, gb, bt, na, na']
    · have hu : unN (a :: q) = q := by simp [unN, hn]
      have ha : a = 45 := by unfold negB at hn; simpa using hn
      subst ha
      rw [hu] at s2
      simp [hn] at qt main
      have w3 : IntKind.i64.wrap (-(10 * v0 + v1)) = -(10 * v0 + v1) := by
        exact wrap_small (by omega) (by omega)
      have ht' : q.take q.length = q := List.take_length
      cases b0 <;> cases b1 <;> cases b <;> by_cases ht : t = l <;>
        simp [R48_0, R48_1, R48_2, R48_3, R48_4, R48_5, R48_6, R48_7, R48_8, R48_9, R48_10, R48_11, R48_12, R48_13, R48_14, R48_15, R48_16, R48_17, R48_18, R48_19, R48_20, R48_21, Tryd.f48, undef, lit0, bs_size, bs_extract, g0, g0', s1, pu, s2, r0, r1, w1, w2, w3, qt, bs_neq, ht, hn, ga, gb, bt, ht', main]

end Go.Proofs.YthbekdccfleaoaaDoor.Eng
