/- A deterministic reading of Go code over plain data: what functions of the program compute. No conditions. -/
import Derived.Test.YtalpgpjhloohfaaDoorLmbase
import Derived.Test.YtalpgpjhloohfaaDoorLmimpl
import Derived.Test.YtalpgpjhloohfaaDoorLmgood
import Derived.Test.YtalpgpjhloohfaaDoorLmitoa
import Derived.Test.YtalpgpjhloohfaaDoorLmappendck
import Derived.Test.YtalpgpjhloohfaaDoorLmsplit
import Derived.Test.YtalpgpjhloohfaaDoorLmverify
import Derived.Test.YtalpgpjhloohfaaDoorLmnumtext
import Derived.Test.YtalpgpjhloohfaaDoorLmckchange
import Derived.Test.YtalpgpjhloohfaaDoorLmjoins
import Derived.Test.YtalpgpjhloohfaaDoorLmjoinf
import Derived.Test.YtalpgpjhloohfaaDoorLmdraws
import Derived.Test.YtalpgpjhloohfaaDoorLmdrawj
import Derived.Test.YtalpgpjhloohfaaDoorLmdrawk
import Derived.Test.YtalpgpjhloohfaaDoorLmlawparseint
import Derived.Test.YtalpgpjhloohfaaDoorEngT
import Derived.Lib.IndexLaws
import Derived.Lib.ItoaLen
import Derived.Lib.Bytes
import Derived.Lib.Join
namespace Go.Proofs.YtalpgpjhloohfaaDoor.Eng
open Go Go.Proofs
set_option maxRecDepth 100000
set_option maxHeartbeats 2000000
set_option linter.unusedSimpArgs false
set_option linter.unusedVariables false
attribute [local simp] finK fin1 hpOf xi renQ isRoot runCode runOps Eng.step wantedV astep val ofO made loadV storeV find V.cells bin binT binA numT numFs eqCells un1 setAt fieldAddrV fieldV indexAddrV indexV bounds sliceV convV lenV foldV max2V min2V callO bor rdsO wrsO seen_none okD_none loops keepIds resV resultsV St.ev TK.agg refs refsL refsO V.one V.isC Value.oneCell' ren renL renO noTag noTagL noTagR noTagO nodup mapO passV frs psi refsR newD loopNext opsAt idx flatAt rootOf backR newsV appendV copyV clearV strV bytesV bytesOf nilCmp buildV fillF chunk
attribute [local simp] cT cF cX cWR cOW cK X ints_length ints_get ints_getElem ints_drop ints_take ints_append ints_nil ints_set
attribute [local simp] ints_replicate
attribute [local simp] putV_some putV_none putH_app applyD_nil applyD_cons seen_app gc_ρ gc_H gc_tick st0_ρ st0_H st0_tick retV callRo callV_if borL_nil borL_cons ints_snoc take_self callWr cutH_app findQ afterV exportV_0 exportV_n okD_nil okD_cons sub_seq0 sub_seq1 sub_cond0 sub_cond1 sub_block sub_loop sub_nil young_far young_none hidW_nil mayW_nil pairs okI ok_0 ok_1 ok_2
attribute [local simp] T3 T4 T5 T9 T22 T32 T57 T63 T64 T66 T72
attribute [local simp] young_near clo cloF Region.binds Nat.testBit hidW declW mayW List.findIdx?_cons
theorem c_vBigS (k : Nat) (code : List Int) (hk : 1 ≤ k) : callK C k 12 [.sq false true 1 (u8s code)] [] = some (.c (.bool (decide (65536 < code.length))), hpOf [] []) := by
  obtain ⟨k, rfl⟩ : ∃ m, k = m + 1 := ⟨k - 1, by omega⟩
  rw [callK_fn rfl F12 code12]
  have : ((65536 : Int) < (code.length : Int)) = (65536 < code.length) := by apply propext; omega
  simp [R12_0, R12_1, Tryd.f12, u8s_length, this]
theorem c_vAt (k : Nat) (code : List Int) (hb : ∀ x ∈ code, 0 ≤ x ∧ x ≤ 255) (hl : code.length ≤ 65536) (i : Nat) (hi : i ≤ 1000) (hk : 1 ≤ k) : ∃ r : Int, callK C k 23 [.sq false true 1 (u8s code), .c (.int .i64 (i : Int))] [] = some (.c (.int .i64 r), hpOf [] []) ∧ 0 ≤ r ∧ r ≤ 255 := by
  obtain ⟨k, rfl⟩ : ∃ m, k = m + 1 := ⟨k - 1, by omega⟩
  rw [callK_fn rfl F23 code23]
  by_cases h : i < code.length
  · have hg := u8s_get code i h
    have hr := hb code[i] (List.getElem_mem h)
    have w1 : IntKind.i64.wrap code[i] = code[i] := wrap_small (by omega) (by omega)
    refine ⟨code[i], ?_, hr⟩
    simp [R23_0, R23_1, R23_2, R23_3, Tryd.f23, u8s_length, u8s_getElem, h, hg, w1]
  · have w1 : IntKind.i64.wrap ((i : Int) * 7) = (i : Int) * 7 := wrap_small (by omega) (by omega)
    have w2 : IntKind.i64.wrap ((i : Int) * 7 + (code.length : Int)) = (i : Int) * 7 + (code.length : Int) := wrap_small (by omega) (by omega)
    have h1 := Int.tmod_nonneg 256 (by omega : 0 ≤ (i : Int) * 7 + (code.length : Int))
    have h2 := Int.tmod_lt_of_pos ((i : Int) * 7 + (code.length : Int)) (by omega : (0 : Int) < 256)
    refine ⟨((i : Int) * 7 + (code.length : Int)).tmod 256, ?_, h1, by omega⟩
    simp [R23_0, R23_1, R23_2, R23_3, Tryd.f23, u8s_length, h, w1, w2]
theorem both_fmt (k : Nat) (n : Int) (hk : 100 ≤ k) : ∃ (s : List UInt8) (t : Bool), callK C k 15 [.c (.int .i64 n)] [] = some (.tp [.c (.string (bs s)), .c (.bool t)], hpOf [] []) ∧ callK C k 14 [.c (.int .i64 n)] [] = some (.tp [.c (.string (bs s)), .c (.bool t)], hpOf [] []) ∧ s.length ≤ 100 ∧ (t = true → pV s = n ∧ pB s = true) := by
  obtain ⟨k, rfl⟩ : ∃ m, k = m + 1 := ⟨k - 1, by omega⟩
  rw [callK_fn rfl F15 code15, callK_fn rfl F14 code14]
  have i1 := c_l1In k n (-999999) 999999 (by omega)
  have i2 := c_within k n (-999999) 999999 (by omega)
  cases hn : (decide (-999999 ≤ n) && decide (n ≤ 999999))
  · rw [hn] at i1 i2
    exact ⟨[], false, by simp [R15_0, R15_1, R15_2, R15_3, Tryd.f15, i1, lit0], by simp [R14_0, R14_1, R14_2, R14_3, Tryd.f14, i2, lit0], by simp, by simp⟩
  · rw [hn] at i1 i2
    simp only [Bool.and_eq_true, decide_eq_true_eq] at hn
    have j1 := c_l1Num k n (by omega) (by omega) (by omega)
    have j2 := c_Itoa k n (by omega) (by omega) (by omega)
    have hp := pI_some hn.1 hn.2
    exact ⟨Lib.itoa n, true, by simp [R15_0, R15_1, R15_2, R15_3, Tryd.f15, i1, j1], by simp [R14_0, R14_1, R14_2, R14_3, Tryd.f14, i2, j2], by have := itoa_len7 hn.1 hn.2; omega, fun _ => ⟨by simp [pV, hp], by simp [pB, hp]⟩⟩
theorem xor_byte (a : UInt8) (b : Int) (h0 : 1 ≤ b) (h1 : b ≤ 255) : ∃ c : UInt8, IntKind.u8.wrap (((BitVec.ofInt IntKind.u8.bits ((a.toNat : Nat) : Int) ^^^ BitVec.ofInt IntKind.u8.bits b).toNat : Nat) : Int) = ((c.toNat : Nat) : Int) ∧ c ≠ a := by
  refine ⟨⟨BitVec.ofInt 8 ((a.toNat : Nat) : Int) ^^^ BitVec.ofInt 8 b⟩, ?_, ?_⟩
  · show ((((BitVec.ofInt 8 ((a.toNat : Nat) : Int) ^^^ BitVec.ofInt 8 b).toNat : Nat) : Int)) % 256 = (((BitVec.ofInt 8 ((a.toNat : Nat) : Int) ^^^ BitVec.ofInt 8 b).toNat : Nat) : Int)
    have := (BitVec.ofInt 8 ((a.toNat : Nat) : Int) ^^^ BitVec.ofInt 8 b).isLt
    omega
  · intro e
    have e1 : BitVec.ofInt 8 ((a.toNat : Nat) : Int) ^^^ BitVec.ofInt 8 b = a.toBitVec := congrArg UInt8.toBitVec e
    have e2 : BitVec.ofInt 8 ((a.toNat : Nat) : Int) = a.toBitVec := by
      apply BitVec.eq_of_toNat_eq
      rw [BitVec.toNat_ofInt]
      have : a.toNat < 256 := a.toNat_lt
      have e3 : a.toBitVec.toNat = a.toNat := rfl
      rw [e3]
      omega
    rw [e2] at e1
    have e4 : BitVec.ofInt 8 b = 0 := by
      have : a.toBitVec ^^^ (a.toBitVec ^^^ BitVec.ofInt 8 b) = a.toBitVec ^^^ a.toBitVec := by rw [e1]
      rw [← BitVec.xor_assoc, BitVec.xor_self, BitVec.zero_xor] at this
      exact this
    have e5 := congrArg BitVec.toNat e4
    rw [BitVec.toNat_ofInt] at e5
    simp at e5
    omega
theorem byteE_bs (l : List UInt8) : byteE (bs l) = l.map fun b => [.c (.int .u8 ((b.toNat : Nat) : Int))] := by simp [byteE, bs]
theorem byteE_len (l : List UInt8) : (byteE (bs l)).length = l.length := by simp [byteE_bs]
theorem byteE_get (l : List UInt8) (i : Nat) (h : i < l.length) : (byteE (bs l))[i]? = some [.c (.int .u8 ((l[i].toNat : Nat) : Int))] := by simp [byteE_bs, h]
theorem byteE_getE (l : List UInt8) (i : Nat) (h : i < (byteE (bs l)).length) : (byteE (bs l))[i] = [.c (.int .u8 (((l[i]'(by simpa [byteE_bs] using h)).toNat : Nat) : Int))] := by simp [byteE_bs]
theorem byteE_set (l : List UInt8) (i : Nat) (c : UInt8) : (byteE (bs l)).set i [.c (.int .u8 ((c.toNat : Nat) : Int))] = byteE (bs (l.set i c)) := by rw [byteE_bs, byteE_bs, List.map_set]
theorem byteE_ok (ty : TypeId) (l : List UInt8) : okObj ⟨ty, 1, true, byteE (bs l)⟩ = true := by simp [okObj, byteE_bs, V.one, V.isC, Value.oneCell']
theorem byteE_bytes : ∀ l : List UInt8, bytesOf (byteE (bs l)).flatten = some l
  | [] => by simp [byteE_bs, bytesOf]
  | c :: l => by
    have ih := byteE_bytes l
    rw [byteE_bs] at ih ⊢
    have h2 : c.toNat < 256 := c.toNat_lt
    have h3 : ((c.toNat : Nat) : Int) ≤ 255 := by omega
    simp [bytesOf, ih, h3]
theorem head_seal {x : List UInt8} (hx : hasB1 x = false) : headL (sealL x) 35 = x := by
  have hge := Lib.indexByte_ge (sealL x) 35
  unfold headL
  by_cases hn : Lib.indexByte (sealL x) 35 = -1
  · exact absurd (seal_get2 x) (Lib.indexByte_none hn _)
  · obtain ⟨o, ho⟩ : ∃ o : Nat, Lib.indexByte (sealL x) 35 = o := ⟨(Lib.indexByte (sealL x) 35).toNat, by omega⟩
    obtain ⟨h1, h2⟩ := Lib.indexByte_some ho
    have h3 : o = x.length := by
      rcases Nat.lt_trichotomy o x.length with h | h | h
      · rw [seal_get1 h] at h1; exact absurd h1 (no35 hx _)
      · exact h
      · exact absurd (seal_get2 x) (h2 _ h)
    rw [if_neg hn, ho, h3]
    unfold sealL
    simp
theorem law_FnStrings (code : List Int) (hl : code.length ≤ maxLen) (hb : ∀ x ∈ code, (Lit.int .u8 x).wf = true) : ∃ k, callK C k 4 [.sq false true 1 (u8s code)] [] = some (.c (.bool true), hpOf [] []) := by
  have hb' : ∀ x ∈ code, 0 ≤ x ∧ x ≤ 255 := fun x hx => by
    have := hb x hx
    simpa [Lit.wf, IntKind.min, IntKind.max, IntKind.signed, IntKind.bits] using this
  refine ⟨100000, ?_⟩
  obtain ⟨k, hk⟩ : ∃ k, 100000 = k := ⟨_, rfl⟩
  rw [hk]
  obtain ⟨k, rfl⟩ : ∃ m, k = m + 1 := ⟨k - 1, by omega⟩
  rw [callK_fn rfl F4 code4]
  have v0 := c_vBigS k code (by omega)
  by_cases h16 : 65536 < code.length
  · simp [h16] at v0
    simp [R4_0, R4_1, R4_2, R4_3, R4_4, R4_5, R4_6, R4_7, R4_8, R4_9, R4_10, R4_11, R4_12, R4_13, R4_14, R4_15, R4_16, R4_17, R4_18, R4_19, R4_20, R4_21, R4_22, R4_23, R4_24, Tryd.f4, v0]
  simp [h16] at v0
  obtain ⟨n, D1⟩ := c_DrawFormatInt k code hb' hl (by omega)
  obtain ⟨t, D2, t1⟩ := c_DrawParseInt k code hb' hl (by omega)
  obtain ⟨x, D3, x1⟩ := c_DrawAppendChecksum k code hb' hl (by omega)
  obtain ⟨s, o, S1, I1, s1, back⟩ := both_fmt k n (by omega)
  have S2 := c_specParse k t (by omega) (by omega)
  have I2 := c_implParse k t (by omega) (by omega)
  have I3 := c_implParse k s (by omega) (by omega)
  have S4 := c_specApp k x (by omega) (by omega)
  have I4 := c_implApp k x (by omega) (by omega)
  obtain ⟨pv, hpv⟩ : ∃ v, pV t = v := ⟨_, rfl⟩
  obtain ⟨pb, hpb⟩ : ∃ v, pB t = v := ⟨_, rfl⟩
  rw [hpv, hpb] at S2 I2
  obtain ⟨r9, A9, a1, a2⟩ := c_vAt k code hb' (by omega) 9 (by omega) (by omega)
  obtain ⟨r10, A10, b1, b2⟩ := c_vAt k code hb' (by omega) 10 (by omega) (by omega)
  simp at A9 A10
  cases happ : appB x
  · rw [happ] at S4 I4
    simp at S4 I4
    cases o
    · cases pb <;> simp [R4_0, R4_1, R4_2, R4_3, R4_4, R4_5, R4_6, R4_7, R4_8, R4_9, R4_10, R4_11, R4_12, R4_13, R4_14, R4_15, R4_16, R4_17, R4_18, R4_19, R4_20, R4_21, R4_22, R4_23, R4_24, Tryd.f4, undef, v0, D1, D2, D3, S1, I1, S2, I2, I3, S4, I4, lit0, bs_size, bs_neq, bs_toList]
    · obtain ⟨y1, y2⟩ := back rfl
      rw [y1, y2] at I3
      cases pb <;> simp [R4_0, R4_1, R4_2, R4_3, R4_4, R4_5, R4_6, R4_7, R4_8, R4_9, R4_10, R4_11, R4_12, R4_13, R4_14, R4_15, R4_16, R4_17, R4_18, R4_19, R4_20, R4_21, R4_22, R4_23, R4_24, Tryd.f4, undef, v0, D1, D2, D3, S1, I1, S2, I2, I3, S4, I4, lit0, bs_size, bs_neq, bs_toList]
  · rw [happ] at S4 I4
    simp at S4 I4
    have hy : (sealL x).length ≤ 4000 ∧ hasB1 x = false := by
      unfold appB at happ
      simp at happ
      exact ⟨happ.2.2, happ.2.1⟩
    have hy0 : 0 < (sealL x).length := by
      have : (sealL x).length = x.length + ((Lib.itoa (ckL x)).length + 1) := by simp [sealL]
      omega
    have hhead := head_seal hy.2
    have hv : verB (sealL x) = true := by
      unfold verB
      rw [hhead]
      simp [hy.1]
    have I5 := c_implVer k (sealL x) (by omega) (by omega)
    rw [hv, hhead] at I5
    simp at I5
    have e1 := Int.tmod_nonneg ((sealL x).length : Int) a1
    have e2 := Int.tmod_lt_of_pos r9 (by omega : 0 < ((sealL x).length : Int))
    have e3 := Int.tmod_nonneg 255 b1
    have e4 := Int.tmod_lt_of_pos r10 (by omega : (0 : Int) < 255)
    obtain ⟨j, hj⟩ : ∃ j : Nat, r9.tmod ((sealL x).length : Int) = j := ⟨(r9.tmod ((sealL x).length : Int)).toNat, by omega⟩
    have hjl : j < (sealL x).length := by omega
    obtain ⟨q, hq⟩ : ∃ q, r10.tmod 255 = q := ⟨_, rfl⟩
    rw [hq] at e3 e4
    have w1 : IntKind.i64.wrap (1 + q) = 1 + q := wrap_small (by omega) (by omega)
    have w2 : IntKind.u8.wrap (1 + q) = 1 + q := by show (1 + q) % 256 = _; omega
    obtain ⟨c, hc, hne⟩ := xor_byte (sealL x)[j] (1 + q) (by omega) (by omega)
    have hbad := seal_change hy.2 hjl hne
    have I6 := c_implVer k ((sealL x).set j c) (by simp; omega) (by simp; omega)
    rw [hbad] at I6
    simp at I6
    obtain ⟨y, hyy⟩ : ∃ y, sealL x = y := ⟨_, rfl⟩
    rw [hyy] at S4 I4 I5 hj
    simp only [hyy] at hjl hc I6 hy hy0
    have g1 := byteE_len y
    have g2 := byteE_get y j hjl
    have g3 := byteE_ok 5 y
    have g4 := byteE_set y j c
    have g5 := byteE_bytes (y.set j c)
    have g6 : y.length ≤ 17592186044416 := by omega
    have g7 : ¬ (y.length : Int) = 0 := by omega
    have g8 : ¬ y.length = 0 := by omega
    have g9 := byteE_len (y.set j c)
    rw [List.length_set] at g9
    have g10 : ¬ y = [] := by intro e; rw [e] at hy0; simp at hy0
    simp at hc
    obtain ⟨z, hz⟩ : ∃ z, y.set j c = z := ⟨_, rfl⟩
    rw [hz] at g4 g5 g9 I6
    have g11 : List.take y.length (byteE (bs z)) = byteE (bs z) := List.take_of_length_le (by omega)
    have g12 : (⟨z.toArray⟩ : ByteArray) = bs z := rfl
    cases o
    · cases pb <;> simp [R4_0, R4_1, R4_2, R4_3, R4_4, R4_5, R4_6, R4_7, R4_8, R4_9, R4_10, R4_11, R4_12, R4_13, R4_14, R4_15, R4_16, R4_17, R4_18, R4_19, R4_20, R4_21, R4_22, R4_23, R4_24, Tryd.f4, undef, v0, D1, D2, D3, S1, I1, S2, I2, I3, S4, I4, I5, I6, A9, A10, lit0, bs_size, bs_neq, bs_toList, hj, hq, w1, w2, hc, g1, g2, g3, g4, g5, g6, g7, g8, g9, g10, g11, g12, hjl, byteE_getE]
    · obtain ⟨y1, y2⟩ := back rfl
      rw [y1, y2] at I3
      cases pb <;> simp [R4_0, R4_1, R4_2, R4_3, R4_4, R4_5, R4_6, R4_7, R4_8, R4_9, R4_10, R4_11, R4_12, R4_13, R4_14, R4_15, R4_16, R4_17, R4_18, R4_19, R4_20, R4_21, R4_22, R4_23, R4_24, Tryd.f4, undef, v0, D1, D2, D3, S1, I1, S2, I2, I3, S4, I4, I5, I6, A9, A10, lit0, bs_size, bs_neq, bs_toList, hj, hq, w1, w2, hc, g1, g2, g3, g4, g5, g6, g7, g8, g9, g10, g11, g12, hjl, byteE_getE]

end Go.Proofs.YtalpgpjhloohfaaDoor.Eng
