/- A deterministic reading of Go code over plain data: what functions of the program compute. No conditions. -/
import Derived.Test.YtmleikmjjoneeaaDoorLmbase
import Derived.Test.YtmleikmjjoneeaaDoorLmimpl
import Derived.Test.YtmleikmjjoneeaaDoorLmgood
import Derived.Test.YtmleikmjjoneeaaDoorLmitoa
import Derived.Test.YtmleikmjjoneeaaDoorLmappendck
import Derived.Test.YtmleikmjjoneeaaDoorLmsplit
import Derived.Test.YtmleikmjjoneeaaDoorLmjoins
import Derived.Test.YtmleikmjjoneeaaDoorLmjoinf
import Derived.Test.YtmleikmjjoneeaaDoorLmjoinw
import Derived.Test.YtmleikmjjoneeaaDoorLmcuts
import Derived.Test.YtmleikmjjoneeaaDoorLmsplitf
import Derived.Test.YtmleikmjjoneeaaDoorLmdraws
import Derived.Test.YtmleikmjjoneeaaDoorLmdrawj
import Derived.Test.YtmleikmjjoneeaaDoorEngT
import Derived.Lib.IndexLaws
import Derived.Lib.Join
namespace Go.Proofs.YtmleikmjjoneeaaDoor.Eng
open Go Go.Proofs
set_option maxRecDepth 100000
set_option maxHeartbeats 2000000
set_option linter.unusedSimpArgs false
set_option linter.unusedVariables false
attribute [local simp] finK fin1 hpOf xi renQ isRoot runCode runOps Eng.step wantedV astep val ofO made loadV storeV find V.cells bin binT binA numT numFs eqCells un1 setAt fieldAddrV fieldV indexAddrV indexV bounds sliceV convV lenV foldV max2V min2V callO bor rdsO wrsO seen_none okD_none loops keepIds resV resultsV St.ev TK.agg refs refsL refsO V.one V.isC Value.oneCell' ren renL renO noTag noTagL noTagR noTagO nodup mapO passV frs psi refsR newD loopNext opsAt idx flatAt rootOf backR newsV appendV copyV clearV strV bytesOf nilCmp buildV fillF chunk
attribute [local simp] cT cF cX cWR cOW cK X ints_length ints_get ints_getElem ints_drop ints_take ints_append ints_nil ints_set
attribute [local simp] ints_replicate
attribute [local simp] putV_some putV_none putH_app applyD_nil applyD_cons seen_app gc_ρ gc_H gc_tick st0_ρ st0_H st0_tick retV callRo callV_if borL_nil borL_cons ints_snoc take_self callWr cutH_app findQ afterV exportV_0 exportV_n okD_nil okD_cons sub_seq0 sub_seq1 sub_cond0 sub_cond1 sub_block sub_loop sub_nil young_far young_none hidW_nil mayW_nil pairs okI ok_0 ok_1 ok_2
attribute [local simp] T3 T4 T5 T9 T22 T28 T39 T40 T42
attribute [local simp] young_near clo cloF Region.binds Nat.testBit hidW declW mayW List.findIdx?_cons
theorem c_vBigJ (k : Nat) (code : List Int) (hk : 1 ≤ k) : callK C k 10 [.sq false true 1 (u8s code)] [] = some (.c (.bool (decide (65536 < code.length))), hpOf [] []) := by
  obtain ⟨k, rfl⟩ : ∃ m, k = m + 1 := ⟨k - 1, by omega⟩
  rw [callK_fn rfl F10 code10]
  have : ((65536 : Int) < (code.length : Int)) = (65536 < code.length) := by apply propext; omega
  simp [R10_0, R10_1, Tryd.f10, u8s_length, this]
theorem less_asym : ∀ a b : List UInt8, Op.bytesLess a b = true → Op.bytesLess b a = false
  | _, [], h => by simp [Op.bytesLess] at h
  | [], _ :: _, _ => by simp [Op.bytesLess]
  | x :: a, y :: b, h => by
    simp only [Op.bytesLess, Bool.or_eq_true, decide_eq_true_eq, Bool.and_eq_true, beq_iff_eq] at h
    simp only [Op.bytesLess]
    rcases h with h | ⟨rfl, h⟩
    · have h1 : ¬ y < x := fun h2 => by
        have := UInt8.lt_iff_toNat_lt.1 h
        have := UInt8.lt_iff_toNat_lt.1 h2
        omega
      have h2 : ¬ y = x := fun e => by subst e; exact absurd h (by simp)
      have h2b : (y == x) = false := by simpa using h2
      simp [h1, h2b]
    · rw [less_asym a b h]
      simp
theorem c_implLess (k : Nat) (a b : List UInt8) (hk : 1 ≤ k) : callK C k 16 [.c (.string (bs a)), .c (.string (bs b))] [] = some (.c (.bool (Op.bytesLess a b)), hpOf [] []) := by
  obtain ⟨k, rfl⟩ : ∃ m, k = m + 1 := ⟨k - 1, by omega⟩
  rw [callK_fn rfl F16 code16]
  simp [R16_0, R16_1, Tryd.f16, bs_toList]
theorem c_specLess (k : Nat) (a b : List UInt8) (hk : 1 ≤ k) : callK C k 17 [.c (.string (bs a)), .c (.string (bs b))] [] = some (.c (.bool (Op.bytesLess a b)), hpOf [] []) := by
  obtain ⟨k, rfl⟩ : ∃ m, k = m + 1 := ⟨k - 1, by omega⟩
  rw [callK_fn rfl F17 code17]
  simp [R17_0, R17_1, Tryd.f17, bs_toList]
theorem both_join (k : Nat) (p : List (List UInt8)) (t : List UInt8) (hl : p.length + lenS p ≤ 1048576) (hk : p.length + 1048700 ≤ k) : ∃ (J : List UInt8) (o : Bool), callK C k 13 [.sq true true 1 (strs p), .c (.string (bs t))] [] = some (.tp [.c (.string (bs J)), .c (.bool o)], hpOf [] []) ∧ callK C k 14 [.sq true true 1 (strs p), .c (.string (bs t))] [] = some (.tp [.c (.string (bs J)), .c (.bool o)], hpOf [] []) := by
  by_cases h1 : t.length = 1
  · obtain ⟨b, rfl⟩ : ∃ b, t = [b] := by
      cases t with
      | nil => simp at h1
      | cons b r =>
        have hr : r = [] := List.length_eq_zero_iff.1 (by simpa using h1)
        exact ⟨b, by rw [hr]⟩
    exact ⟨_, _, c_implJoin k true p b hl (by omega), c_specJoin k true p b hl hk⟩
  · exact ⟨_, _, c_implJoinN k true p t h1 (by omega), c_specJoinN k true p t h1 (by omega)⟩
theorem back_join (k : Nat) (l : List UInt8) (b : UInt8) (hl : l.length ≤ 100) (hk : 10000 ≤ k) : callK C k 13 [.sq true true 1 (strs (splitL l b)), .c (.string (bs [b]))] [] = some (.tp [.c (.string (bs l)), .c (.bool true)], hpOf [] []) := by
  obtain ⟨h1, h2⟩ := cut_join b _ l (splitL_cut l b)
  have hne : splitL l b ≠ [] := by simp [splitL]
  have hlen := joinB_len (splitL l b) b hne
  rw [h1] at hlen
  have hok : joinOk (splitL l b) b = true := (joinOk_iff _ b).2 ⟨hne, h2, by omega⟩
  have I := c_implJoin k true (splitL l b) b (by omega) (by omega)
  rw [hok, if_pos rfl, h1] at I
  exact I
theorem law_FnSplitJoin (code : List Int) (hl : code.length ≤ maxLen) (hb : ∀ x ∈ code, (Lit.int .u8 x).wf = true) : ∃ k, callK C k 4 [.sq false true 1 (u8s code)] [] = some (.c (.bool true), hpOf [] []) := by
  have hb' : ∀ x ∈ code, 0 ≤ x ∧ x ≤ 255 := fun x hx => by
    have := hb x hx
    simpa [Lit.wf, IntKind.min, IntKind.max, IntKind.signed, IntKind.bits] using this
  refine ⟨2000000, ?_⟩
  obtain ⟨k, hk⟩ : ∃ k, 2000000 = k := ⟨_, rfl⟩
  rw [hk]
  obtain ⟨k, rfl⟩ : ∃ m, k = m + 1 := ⟨k - 1, by omega⟩
  rw [callK_fn rfl F4 code4]
  have v0 := c_vBigJ k code (by omega)
  by_cases h16 : 65536 < code.length
  · simp [h16] at v0
    simp [R4_0, R4_1, R4_2, R4_3, R4_4, R4_5, R4_6, R4_7, R4_8, R4_9, R4_10, R4_11, R4_12, R4_13, R4_14, Tryd.f4, v0]
  simp [h16] at v0
  obtain ⟨l, t, D1, l1, t1⟩ := c_DrawSplitString k code hb' hl (by omega)
  obtain ⟨p, u, D2, p1, p2, u1⟩ := c_DrawJoinStrings k code hb' hl (by omega)
  obtain ⟨a, b, D3⟩ := c_DrawLessString k code hb' hl (by omega)
  obtain ⟨J, o, I, S⟩ := both_join k p u (by omega) (by omega)
  have A1 := c_implLess k a b (by omega)
  have A2 := c_specLess k a b (by omega)
  have A3 := c_implLess k b a (by omega)
  simp [strsO] at D2
  by_cases h1 : t.length = 1
  · obtain ⟨s, rfl⟩ : ∃ b, t = [b] := by
      cases t with
      | nil => simp at h1
      | cons b r =>
        have hr : r = [] := List.length_eq_zero_iff.1 (by simpa using h1)
        exact ⟨b, by rw [hr]⟩
    have P := c_implSplit k l s (by omega) (by omega)
    have B := back_join k l s l1 (by omega)
    obtain ⟨q, hq⟩ : ∃ q, splitL l s = q := ⟨_, rfl⟩
    rw [hq] at P B
    simp [strsO] at P
    cases hab : Op.bytesLess a b
    · rw [hab] at A1 A2
      simp [R4_0, R4_1, R4_2, R4_3, R4_4, R4_5, R4_6, R4_7, R4_8, R4_9, R4_10, R4_11, R4_12, R4_13, R4_14, Tryd.f4, undef, v0, D1, D2, D3, I, S, A1, A2, P, B, strs_length, strs_take, bs_size, bs_neq, bs_toList]
    · rw [less_asym a b hab] at A3
      rw [hab] at A1 A2
      simp [R4_0, R4_1, R4_2, R4_3, R4_4, R4_5, R4_6, R4_7, R4_8, R4_9, R4_10, R4_11, R4_12, R4_13, R4_14, Tryd.f4, undef, v0, D1, D2, D3, I, S, A1, A2, A3, P, B, strs_length, strs_take, bs_size, bs_neq, bs_toList]
  · have h1' : ¬ (t.length : Int) = 1 := by omega
    have h1n : ((t.length : Int) != 1) = true := by simpa using h1'
    have P := c_implSplitN k l t (fun h => h1 h.2) (by omega)
    cases hab : Op.bytesLess a b
    · rw [hab] at A1 A2
      simp [R4_0, R4_1, R4_2, R4_3, R4_4, R4_5, R4_6, R4_7, R4_8, R4_9, R4_10, R4_11, R4_12, R4_13, R4_14, Tryd.f4, undef, v0, D1, D2, D3, I, S, A1, A2, P, strs_length, strs_take, bs_size, bs_neq, bs_toList, h1, h1', h1n]
    · rw [less_asym a b hab] at A3
      rw [hab] at A1 A2
      simp [R4_0, R4_1, R4_2, R4_3, R4_4, R4_5, R4_6, R4_7, R4_8, R4_9, R4_10, R4_11, R4_12, R4_13, R4_14, Tryd.f4, undef, v0, D1, D2, D3, I, S, A1, A2, A3, P, strs_length, strs_take, bs_size, bs_neq, bs_toList, h1, h1', h1n]

end Go.Proofs.YtmleikmjjoneeaaDoor.Eng
