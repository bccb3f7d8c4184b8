/- A deterministic reading of Go code over plain data: what functions of the program compute. No conditions. -/
import Derived.Test.YtalpgpjhloohfaaDoorLmbase
import Derived.Test.YtalpgpjhloohfaaDoorLmimpl
import Derived.Test.YtalpgpjhloohfaaDoorLmgood
import Derived.Test.YtalpgpjhloohfaaDoorEngT
import Derived.Lib.ItoaLen
namespace Go.Proofs.YtalpgpjhloohfaaDoor.Eng
open Go Go.Proofs
set_option maxRecDepth 100000
set_option maxHeartbeats 2000000
set_option linter.unusedSimpArgs false
set_option linter.unusedVariables false
attribute [local simp] finK fin1 hpOf xi renQ isRoot runCode runOps Eng.step wantedV astep val ofO made loadV storeV find V.cells bin binT binA numT numFs eqCells un1 setAt fieldAddrV fieldV indexAddrV indexV bounds sliceV convV lenV foldV max2V min2V callO bor rdsO wrsO seen_none okD_none loops keepIds resV resultsV St.ev TK.agg refs refsL refsO V.one V.isC Value.oneCell' ren renL renO noTag noTagL noTagR noTagO nodup mapO passV frs psi refsR newD loopNext opsAt idx flatAt rootOf backR newsV appendV copyV clearV strV bytesV bldV bufV selfV bytesOf nilCmp buildV fillF chunk
attribute [local simp] cT cF cX cWR cOW cK cBL X ints_length ints_get ints_getElem ints_drop ints_take ints_append ints_nil ints_set
attribute [local simp] ints_replicate
attribute [local simp] putV_some putV_none putH_app applyD_nil applyD_cons seen_app gc_ρ gc_H gc_tick st0_ρ st0_H st0_tick retV callRo callV_if borL_nil borL_cons ints_snoc take_self callWr cutH_app findQ afterV exportV_0 exportV_n okD_nil okD_cons sub_seq0 sub_seq1 sub_cond0 sub_cond1 sub_block sub_loop sub_nil young_far young_none hidW_nil mayW_nil pairs okI ok_0 ok_1 ok_2
attribute [local simp] T3 T4 T9 T22 T24 T28 T55 T70
def bs (l : List UInt8) : ByteArray := ⟨l.toArray⟩
theorem bs_size (l : List UInt8) : (bs l).size = l.length := by simp [bs, ByteArray.size]
theorem bs_append (l m : List UInt8) : bs l ++ bs m = bs (l ++ m) := by
  apply ByteArray.ext
  simp [bs]
theorem dig_slice (c : Nat) (h : c < 10) : sliceV T 9 (.c (.string ⟨#[48, 49, 50, 51, 52, 53, 54, 55, 56, 57]⟩)) (some (.c (.int .i64 (c : Int)))) (some (.c (.int .i64 ((c : Int) + 1)))) none = some (.c (.string (bs [UInt8.ofNat (48 + c)]))) := by
  have : c = 0 ∨ c = 1 ∨ c = 2 ∨ c = 3 ∨ c = 4 ∨ c = 5 ∨ c = 6 ∨ c = 7 ∨ c = 8 ∨ c = 9 := by omega
  rcases this with rfl | rfl | rfl | rfl | rfl | rfl | rfl | rfl | rfl | rfl <;> rfl
theorem dec_length {u : Nat} (h : u ≤ 9223372036854775807) : (Lib.decDigits u).length ≤ 21 := by
  have := Lib.itoa_length_le (u : Int) (by omega) (by omega)
  rwa [Lib.itoa_nonneg] at this
theorem c_l1NumNat : ∀ m u : Nat, u < 10 ^ m → u ≤ 1000000000000 → ∀ k, m + 1 ≤ k → callK C k 48 [.c (.int .i64 (u : Int))] [] = some (.c (.string (bs (Lib.decDigits u))), hpOf [] []) := by
  intro m
  induction m with
  | zero =>
    intro u hu _ k hk
    obtain rfl : u = 0 := by omega
    obtain ⟨k, rfl⟩ : ∃ m, k = m + 1 := ⟨k - 1, by omega⟩
    rw [callK_fn rfl F48 code48]
    have hd := dig_slice 0 (by omega)
    have e : Lib.decDigits 0 = [UInt8.ofNat (48 + 0)] := Lib.decDigits_one (by omega)
    simp [-sliceV] at hd
    simp [-sliceV, R48_0, R48_1, R48_2, R48_3, R48_4, R48_5, Tryd.f48, hd, e, wrap_1]
  | succ m ih =>
    intro u hu hu' k hk
    obtain ⟨k, rfl⟩ : ∃ m, k = m + 1 := ⟨k - 1, by omega⟩
    rw [callK_fn rfl F48 code48]
    by_cases h : u < 10
    · have hd := dig_slice u h
      have e := Lib.decDigits_one h
      have w1 : IntKind.i64.wrap ((u : Int) + 1) = (u : Int) + 1 := wrap_small (by omega) (by omega)
      have g1 : ¬ ((u : Int) < 0) := by omega
      have g2 : (u : Int) < 10 := by omega
      simp [-sliceV, R48_0, R48_1, R48_2, R48_3, R48_4, R48_5, Tryd.f48, hd, e, w1, g1, g2]
    · rw [Nat.pow_succ] at hu
      obtain ⟨q, hq⟩ : ∃ q, u / 10 = q := ⟨_, rfl⟩
      obtain ⟨c, hc⟩ : ∃ c, u % 10 = c := ⟨_, rfl⟩
      have hr := ih q (by omega) (by omega) k (by omega)
      have hd := dig_slice c (by omega)
      have e1 : (u : Int) / 10 = (q : Int) := by omega
      have e2 : (u : Int).tmod 10 = (c : Int) := by rw [← hc]; rfl
      have e3 : Lib.decDigits u = Lib.decDigits q ++ [UInt8.ofNat (48 + c)] := by rw [Lib.decDigits, dif_neg h, hq, hc]
      have w0 : IntKind.i64.wrap (q : Int) = (q : Int) := wrap_small (by omega) (by omega)
      have w1 : IntKind.i64.wrap ((c : Int) + 1) = (c : Int) + 1 := wrap_small (by omega) (by omega)
      have g1 : ¬ ((u : Int) < 0) := by omega
      have g2 : ¬ ((u : Int) < 10) := by omega
      have l1 := dec_length (u := q) (by omega)
      have l2 : (Lib.decDigits q).length + 1 ≤ 9223372036854775807 := by omega
      simp [-sliceV, R48_0, R48_1, R48_2, R48_3, R48_4, R48_5, Tryd.f48, hr, hd, e1, e2, e3, w0, w1, g1, g2, bs_size, bs_append, l2]
theorem c_l1Num (k : Nat) (n : Int) (h0 : -1000000000000 ≤ n) (h1 : n ≤ 1000000000000) (hk : 30 ≤ k) : callK C k 48 [.c (.int .i64 n)] [] = some (.c (.string (bs (Lib.itoa n))), hpOf [] []) := by
  by_cases h : n < 0
  · obtain ⟨k, rfl⟩ : ∃ m, k = m + 1 := ⟨k - 1, by omega⟩
    rw [callK_fn rfl F48 code48]
    obtain ⟨u, rfl⟩ : ∃ u : Nat, n = -(u : Int) := ⟨n.natAbs, by omega⟩
    have hr := c_l1NumNat 13 u (by omega) (by omega) k (by omega)
    have e : Lib.itoa (-(u : Int)) = 45 :: Lib.decDigits u := Lib.itoa_neg u (by omega)
    have w1 : IntKind.i64.wrap (u : Int) = (u : Int) := wrap_small (by omega) (by omega)
    have l1 := dec_length (u := u) (by omega)
    have l2 : 1 + (Lib.decDigits u).length ≤ 9223372036854775807 := by omega
    have b1 : (⟨#[45]⟩ : ByteArray) = bs [45] := rfl
    have hu : 0 < u := by omega
    simp [R48_0, R48_1, R48_2, R48_3, R48_4, R48_5, Tryd.f48, hr, e, w1, b1, bs_size, bs_append, l2, hu]
  · obtain ⟨u, rfl⟩ : ∃ u : Nat, n = (u : Int) := ⟨n.toNat, by omega⟩
    rw [Lib.itoa_nonneg]
    exact c_l1NumNat 13 u (by omega) (by omega) k (by omega)
theorem c_Itoa (k : Nat) (n : Int) (h0 : -9223372036854775808 ≤ n) (h1 : n ≤ 9223372036854775807) (hk : 1 ≤ k) : callK C k 41 [.c (.int .i64 n)] [] = some (.c (.string (bs (Lib.itoa n))), hpOf [] []) := by
  obtain ⟨k, rfl⟩ : ∃ m, k = m + 1 := ⟨k - 1, by omega⟩
  simp only [callK]
  have hx : C.ext 41 = some ext41 := rfl
  rw [hx]
  simp [ext41, h0, h1, bs]

end Go.Proofs.YtalpgpjhloohfaaDoor.Eng
