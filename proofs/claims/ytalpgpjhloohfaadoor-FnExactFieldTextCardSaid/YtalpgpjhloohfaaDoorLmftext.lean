/- A deterministic reading of Go code over plain data: what functions of the program compute. No conditions. -/
import Derived.Test.YtalpgpjhloohfaaDoorLmbase
import Derived.Test.YtalpgpjhloohfaaDoorLmimpl
import Derived.Test.YtalpgpjhloohfaaDoorLmgood
import Derived.Test.YtalpgpjhloohfaaDoorLmitoa
import Derived.Test.YtalpgpjhloohfaaDoorLmappendck
import Derived.Test.YtalpgpjhloohfaaDoorLmquantity
import Derived.Test.YtalpgpjhloohfaaDoorLmsplit
import Derived.Test.YtalpgpjhloohfaaDoorLmnumtext
import Derived.Test.YtalpgpjhloohfaaDoorLmjoins
import Derived.Test.YtalpgpjhloohfaaDoorLmcuts
import Derived.Test.YtalpgpjhloohfaaDoorLmpfield
import Derived.Test.YtalpgpjhloohfaaDoorLmpfield2
import Derived.Test.YtalpgpjhloohfaaDoorLmfield
import Derived.Test.YtalpgpjhloohfaaDoorLmrepeat
import Derived.Test.YtalpgpjhloohfaaDoorLmfieldby
import Derived.Test.YtalpgpjhloohfaaDoorLml2text
import Derived.Test.YtalpgpjhloohfaaDoorLmftplain
import Derived.Test.YtalpgpjhloohfaaDoorEngT
import Derived.Lib.IndexLaws
namespace Go.Proofs.YtalpgpjhloohfaaDoor.Eng
open Go Go.Proofs
set_option maxRecDepth 100000
set_option maxHeartbeats 2000000
set_option linter.unusedSimpArgs false
set_option linter.unusedVariables false
attribute [local simp] finK fin1 hpOf xi renQ isRoot runCode runOps Eng.step wantedV astep val ofO made loadV storeV find V.cells bin binT binA numT numFs eqCells un1 setAt fieldAddrV fieldV indexAddrV indexV bounds sliceV convV lenV foldV max2V min2V callO bor rdsO wrsO seen_none okD_none loops keepIds resV resultsV St.ev TK.agg refs refsL refsO V.one V.isC Value.oneCell' ren renL renO noTag noTagL noTagR noTagO nodup mapO passV frs psi refsR newD loopNext opsAt idx flatAt rootOf backR newsV appendV copyV clearV strV bytesV bldV bufV selfV bytesOf nilCmp buildV fillF chunk
attribute [local simp] cT cF cX cWR cOW cK cBL X ints_length ints_get ints_getElem ints_drop ints_take ints_append ints_nil ints_set
attribute [local simp] ints_replicate
attribute [local simp] putV_some putV_none putH_app applyD_nil applyD_cons seen_app gc_ρ gc_H gc_tick st0_ρ st0_H st0_tick retV callRo callV_if borL_nil borL_cons ints_snoc take_self callWr cutH_app findQ afterV exportV_0 exportV_n okD_nil okD_cons sub_seq0 sub_seq1 sub_cond0 sub_cond1 sub_block sub_loop sub_nil young_far young_none hidW_nil mayW_nil pairs okI ok_0 ok_1 ok_2
attribute [local simp] T3 T4 T9 T22 T24 T28 T55 T70
attribute [local simp] young_near clo cloF Region.binds Nat.testBit hidW declW mayW List.findIdx?_cons
theorem byteE_bs (l : List UInt8) : byteE (bs l) = l.map fun b => [.c (.int .u8 ((b.toNat : Nat) : Int))] := by simp [byteE, bs]
theorem byteE_len (l : List UInt8) : (byteE (bs l)).length = l.length := by simp [byteE_bs]
theorem byteE_ok (ty : TypeId) (l : List UInt8) : okObj ⟨ty, 1, true, byteE (bs l)⟩ = true := by simp [okObj, byteE_bs, V.one, V.isC, Value.oneCell']
theorem byteE_bytes : ∀ l : List UInt8, bytesOf (byteE (bs l)).flatten = some l
  | [] => by simp [byteE_bs, bytesOf]
  | c :: l => by
    have ih := byteE_bytes l
    rw [byteE_bs] at ih ⊢
    have h2 := c.toNat_lt
    have h3 : (c.toNat : Int) ≤ 255 := by omega
    simp [bytesOf, ih, h3]
theorem byteE_app (a b : List UInt8) : byteE (bs a) ++ byteE (bs b) = byteE (bs (a ++ b)) := by simp [byteE_bs]
theorem itoa_pos (n : Int) : 0 < (Lib.itoa n).length := by
  unfold Lib.itoa
  split
  · simp
  · obtain ⟨b, r, h, _⟩ := dec_head n.toNat
    rw [h]; simp
/-- A builder that holds T. -/
def Bd (H : Hp) (T : List UInt8) : Prop := (T = [] ∧ H 3088 = some (3, ⟨55, 2, false, [[.c (.pointer none), .c (.slice none 0 0)]]⟩)) ∨
  (T ≠ [] ∧ ∃ id tk, (id = 11288 ∨ id = 12312) ∧ H 3088 = some (3, ⟨55, 2, false, [[.p 3088 3 2 0 0, .s id tk 1 0 T.length]]⟩) ∧ H id = some (tk, ⟨5, 1, true, byteE (bs T)⟩))
theorem c_FieldText (k : Nat) (b : Bool) (W H : Nat) (l : List Int) (hg : goodB W H l = true) (hk : 500 ≤ k) : callK C k 10 [fldV b W H l] [] = some (.tp [.c (.string (bs (textF W H l))), .c (.bool true)], hpOf [] []) := by
  obtain ⟨k, rfl⟩ : ∃ m, k = m + 9 := ⟨k - 9, by omega⟩
  rw [callK_fn rfl F10 code10]
  obtain ⟨sh, hcl, hall, h64⟩ := good_length hg
  obtain ⟨_, _, a1, a2, b1, b2⟩ := shape_area sh
  have hcl' : l.length = W * H := by
    have : ((W * H : Nat) : Int) = (W : Int) * (H : Int) := Int.natCast_mul W H
    omega
  have G := c_IsValidField (k + 8) b (W : Int) (H : Int) l (by omega)
  rw [hg] at G
  simp [fldV] at G
  have hT := txT_text W H (by omega) l hcl'
  have hlen : ∀ i, (txT W 0 (l.take i)).length ≤ 384 := by
    intro i
    have := txT_len W (l.take i) 0 (by
      rw [List.all_eq_true] at hall ⊢
      exact fun z hz => hall z (List.mem_of_mem_take hz))
    rw [List.length_take] at this
    omega
  have hL := loopHas (body := fun st => runCode C (callK C (k + 8)) (k + 8) (K 10) L10_0 1 st) (keep := [1, 4, 11, 12, 13]) (.ex 0) (fun s => s.ρ 4 = .p 3088 3 2 0 0 ∧ Bd s.H (textF W H l))
    (fun i s => s.ρ 1 = .p 16 1 3 0 0 ∧ s.H 16 = some (1, ⟨28, 3, false, [[.c (.int .i64 (W : Int)), .c (.int .i64 (H : Int)), .sq b true 1 (ints l)]]⟩) ∧ s.ρ 4 = .p 3088 3 2 0 0 ∧ s.ρ 11 = .sq b true 1 (ints l) ∧ s.ρ 12 = .c (.int .i64 (l.length : Int)) ∧ s.ρ 13 = .c (.int .i64 (i : Int)) ∧ Bd s.H (txT W 0 (l.take i)))
    l.length (k + 8) (by omega)
    (by
      rintro i s next hi ⟨q1, H1, q4, q11, q12, q13, hB⟩ hn
      have hs := txT_step W l i hi
      have hl0 := hlen i
      have hwn := wrap_next hi (by omega : l.length ≤ 9000000000000000000)
      have hi2 : (i : Int) < (l.length : Int) := by omega
      have hgi : (ints l)[i]? = some [.c (.int .i64 l[i])] := by rw [ints_get]; simp [hi]
      have htm := sep_tmod W i
      have hW0 : ¬ (W : Int) = 0 := by omega
      have hcell := List.all_eq_true.1 hall _ (List.getElem_mem hi)
      have hclen := cell_len hcell
      obtain ⟨v, hv⟩ : ∃ v, l[i] = v := ⟨_, rfl⟩
      rw [hv] at hs hcell hclen hgi
      have hnum : v ≠ -9999 → callK C (k + 8) 41 [.c (.int .i64 v)] [] = some (.c (.string (bs (cellT v))), hpOf [] []) ∧ 0 < (cellT v).length := by
        intro hne
        unfold cellB at hcell
        simp only [Bool.or_eq_true, beq_iff_eq, Bool.and_eq_true, decide_eq_true_eq] at hcell
        unfold cellT
        rw [if_neg hne]
        exact ⟨c_Itoa (k + 8) v (by omega) (by omega) (by omega), itoa_pos v⟩
      obtain ⟨T, hTT⟩ : ∃ T, txT W 0 (l.take i) = T := ⟨_, rfl⟩
      rw [hTT] at hs hl0 hB
      rw [hs] at hn
      obtain ⟨sp, hsp⟩ : ∃ sp, sepT W i = sp := ⟨_, rfl⟩
      rw [hsp] at hn
      obtain ⟨m, hm⟩ : ∃ m, (i + 1) % W = m := ⟨_, rfl⟩
      unfold sepT at hsp
      rw [hm] at hsp htm
      have g1 : (l.length : Int) ≤ 64 := by omega
      have g2 : T.length + 1 ≤ 140737488355328 := by omega
      have g3 : T.length + (cellT v).length ≤ 140737488355328 := by omega
      have g4 : T.length + 1 + 1 ≤ 140737488355328 := by omega
      have g5 : T.length + (cellT v).length + 1 ≤ 140737488355328 := by omega
      have hsp1 : m = 0 → sp = 10 := fun e => by rw [← hsp, if_pos e]
      have hsp2 : m ≠ 0 → sp = 32 := fun e => by rw [← hsp, if_neg e]
      have hW1 : ¬ W = 0 := by omega
      have g6 : T.length ≤ 140737488355327 := by omega
      have gg : T.length ≤ 140737488355326 := by omega
      have g7 : T.length + 1 ≤ 140737488355327 := by omega
      have g8 : T.length + (cellT v).length ≤ 140737488355327 := by omega
      have g9 : T.length + (cellT v).length ≤ 140737488355328 := by omega
      have ga : (cellT v).length ≤ 140737488355328 := by omega
      have gb : (cellT v).length ≤ 140737488355327 := by omega
      by_cases hm0 : m = 0
      · rw [hsp1 hm0] at hn
        rw [hm0] at htm
        simp at htm
        by_cases hv : v = -9999
        · have hct : cellT v = [46] := by rw [hv]; rfl
          rw [hct] at hn
          rcases hB with ⟨h, B1⟩ | ⟨h, id, tk, rfl | rfl, B1, B2⟩
          · rw [h] at hn
            simp [L10_0, R10_0, R10_1, R10_2, R10_3, R10_4, R10_5, R10_6, R10_7, R10_8, R10_9, R10_10, R10_11, R10_12, R10_13, R10_14, Tryd.f10, lpL10_0, lpM10_0, M10_0, q1, H1, q4, q11, q12, q13, hi2, hgi, hv, lit1, bs_size, byteE_len, byteE_ok, byteE_app, hwn, hW1, htm, g6, gg, g7, g8, g9, ga, gb, B1]
            exact hn _ ⟨by simp [q1], by simp [q1, H1], by simp [q4], by simp [q11], by simp [q12], by simp, .inr ⟨by simp, 11288, s.tick + 1 + 1 + 1 + 1 + 1, .inl rfl, by simp [q4, Nat.add_assoc], by simp [q4]⟩⟩
          · have h0 : 0 < T.length := by
              rcases Nat.eq_zero_or_pos T.length with e | e
              · exact absurd (List.eq_nil_of_length_eq_zero e) h
              · exact e
            simp [L10_0, R10_0, R10_1, R10_2, R10_3, R10_4, R10_5, R10_6, R10_7, R10_8, R10_9, R10_10, R10_11, R10_12, R10_13, R10_14, Tryd.f10, lpL10_0, lpM10_0, M10_0, q1, H1, q4, q11, q12, q13, hi2, hgi, hv, lit1, bs_size, byteE_len, byteE_ok, byteE_app, hwn, hW1, htm, g6, gg, g7, g8, g9, ga, gb, B1, B2, h, h0]
            exact hn _ ⟨by simp [q1], by simp [q1, H1], by simp [q4], by simp [q11], by simp [q12], by simp, .inr ⟨by simp, 11288, s.tick + 1 + 1 + 1 + 1 + 1, .inl rfl, by simp [q4, Nat.add_assoc], by simp [q4]⟩⟩
          · have h0 : 0 < T.length := by
              rcases Nat.eq_zero_or_pos T.length with e | e
              · exact absurd (List.eq_nil_of_length_eq_zero e) h
              · exact e
            simp [L10_0, R10_0, R10_1, R10_2, R10_3, R10_4, R10_5, R10_6, R10_7, R10_8, R10_9, R10_10, R10_11, R10_12, R10_13, R10_14, Tryd.f10, lpL10_0, lpM10_0, M10_0, q1, H1, q4, q11, q12, q13, hi2, hgi, hv, lit1, bs_size, byteE_len, byteE_ok, byteE_app, hwn, hW1, htm, g6, gg, g7, g8, g9, ga, gb, B1, B2, h, h0]
            exact hn _ ⟨by simp [q1], by simp [q1, H1], by simp [q4], by simp [q11], by simp [q12], by simp, .inr ⟨by simp, 11288, s.tick + 1 + 1 + 1 + 1 + 1, .inl rfl, by simp [q4, Nat.add_assoc], by simp [q4]⟩⟩
        · obtain ⟨n1, n2⟩ := hnum hv
          have n3 : 0 < T.length + (cellT v).length := by omega
          rcases hB with ⟨h, B1⟩ | ⟨h, id, tk, rfl | rfl, B1, B2⟩
          · rw [h] at hn
            simp [L10_0, R10_0, R10_1, R10_2, R10_3, R10_4, R10_5, R10_6, R10_7, R10_8, R10_9, R10_10, R10_11, R10_12, R10_13, R10_14, Tryd.f10, lpL10_0, lpM10_0, M10_0, q1, H1, q4, q11, q12, q13, hi2, hgi, hv, lit1, bs_size, byteE_len, byteE_ok, byteE_app, hwn, hW1, htm, g6, gg, g7, g8, g9, ga, gb, B1, n1, n2, n3]
            exact hn _ ⟨by simp [q1], by simp [q1, H1], by simp [q4], by simp [q11], by simp [q12], by simp, .inr ⟨by simp, 11288, s.tick + 1 + 1 + 1 + 1 + 1, .inl rfl, by simp [q4, Nat.add_assoc], by simp [q4]⟩⟩
          · have h0 : 0 < T.length := by
              rcases Nat.eq_zero_or_pos T.length with e | e
              · exact absurd (List.eq_nil_of_length_eq_zero e) h
              · exact e
            simp [L10_0, R10_0, R10_1, R10_2, R10_3, R10_4, R10_5, R10_6, R10_7, R10_8, R10_9, R10_10, R10_11, R10_12, R10_13, R10_14, Tryd.f10, lpL10_0, lpM10_0, M10_0, q1, H1, q4, q11, q12, q13, hi2, hgi, hv, lit1, bs_size, byteE_len, byteE_ok, byteE_app, hwn, hW1, htm, g6, gg, g7, g8, g9, ga, gb, B1, B2, h, h0, n1, n2, n3]
            exact hn _ ⟨by simp [q1], by simp [q1, H1], by simp [q4], by simp [q11], by simp [q12], by simp, .inr ⟨by simp, 11288, s.tick + 1 + 1 + 1 + 1 + 1, .inl rfl, by simp [q4, Nat.add_assoc], by simp [q4]⟩⟩
          · have h0 : 0 < T.length := by
              rcases Nat.eq_zero_or_pos T.length with e | e
              · exact absurd (List.eq_nil_of_length_eq_zero e) h
              · exact e
            simp [L10_0, R10_0, R10_1, R10_2, R10_3, R10_4, R10_5, R10_6, R10_7, R10_8, R10_9, R10_10, R10_11, R10_12, R10_13, R10_14, Tryd.f10, lpL10_0, lpM10_0, M10_0, q1, H1, q4, q11, q12, q13, hi2, hgi, hv, lit1, bs_size, byteE_len, byteE_ok, byteE_app, hwn, hW1, htm, g6, gg, g7, g8, g9, ga, gb, B1, B2, h, h0, n1, n2, n3]
            exact hn _ ⟨by simp [q1], by simp [q1, H1], by simp [q4], by simp [q11], by simp [q12], by simp, .inr ⟨by simp, 11288, s.tick + 1 + 1 + 1 + 1 + 1, .inl rfl, by simp [q4, Nat.add_assoc], by simp [q4]⟩⟩
      · rw [hsp2 hm0] at hn
        by_cases hv : v = -9999
        · have hct : cellT v = [46] := by rw [hv]; rfl
          rw [hct] at hn
          rcases hB with ⟨h, B1⟩ | ⟨h, id, tk, rfl | rfl, B1, B2⟩
          · rw [h] at hn
            simp [L10_0, R10_0, R10_1, R10_2, R10_3, R10_4, R10_5, R10_6, R10_7, R10_8, R10_9, R10_10, R10_11, R10_12, R10_13, R10_14, Tryd.f10, lpL10_0, lpM10_0, M10_0, q1, H1, q4, q11, q12, q13, hi2, hgi, hv, lit1, bs_size, byteE_len, byteE_ok, byteE_app, hwn, hW1, htm, g6, gg, g7, g8, g9, ga, gb, B1, hm0]
            exact hn _ ⟨by simp [q1], by simp [q1, H1], by simp [q4], by simp [q11], by simp [q12], by simp, .inr ⟨by simp, 12312, s.tick + 1 + 1 + 1 + 1 + 1, .inr rfl, by simp [q4, Nat.add_assoc], by simp [q4]⟩⟩
          · have h0 : 0 < T.length := by
              rcases Nat.eq_zero_or_pos T.length with e | e
              · exact absurd (List.eq_nil_of_length_eq_zero e) h
              · exact e
            simp [L10_0, R10_0, R10_1, R10_2, R10_3, R10_4, R10_5, R10_6, R10_7, R10_8, R10_9, R10_10, R10_11, R10_12, R10_13, R10_14, Tryd.f10, lpL10_0, lpM10_0, M10_0, q1, H1, q4, q11, q12, q13, hi2, hgi, hv, lit1, bs_size, byteE_len, byteE_ok, byteE_app, hwn, hW1, htm, g6, gg, g7, g8, g9, ga, gb, B1, B2, h, h0, hm0]
            exact hn _ ⟨by simp [q1], by simp [q1, H1], by simp [q4], by simp [q11], by simp [q12], by simp, .inr ⟨by simp, 12312, s.tick + 1 + 1 + 1 + 1 + 1, .inr rfl, by simp [q4, Nat.add_assoc], by simp [q4]⟩⟩
          · have h0 : 0 < T.length := by
              rcases Nat.eq_zero_or_pos T.length with e | e
              · exact absurd (List.eq_nil_of_length_eq_zero e) h
              · exact e
            simp [L10_0, R10_0, R10_1, R10_2, R10_3, R10_4, R10_5, R10_6, R10_7, R10_8, R10_9, R10_10, R10_11, R10_12, R10_13, R10_14, Tryd.f10, lpL10_0, lpM10_0, M10_0, q1, H1, q4, q11, q12, q13, hi2, hgi, hv, lit1, bs_size, byteE_len, byteE_ok, byteE_app, hwn, hW1, htm, g6, gg, g7, g8, g9, ga, gb, B1, B2, h, h0, hm0]
            exact hn _ ⟨by simp [q1], by simp [q1, H1], by simp [q4], by simp [q11], by simp [q12], by simp, .inr ⟨by simp, 12312, s.tick + 1 + 1 + 1 + 1 + 1, .inr rfl, by simp [q4, Nat.add_assoc], by simp [q4]⟩⟩
        · obtain ⟨n1, n2⟩ := hnum hv
          have n3 : 0 < T.length + (cellT v).length := by omega
          rcases hB with ⟨h, B1⟩ | ⟨h, id, tk, rfl | rfl, B1, B2⟩
          · rw [h] at hn
            simp [L10_0, R10_0, R10_1, R10_2, R10_3, R10_4, R10_5, R10_6, R10_7, R10_8, R10_9, R10_10, R10_11, R10_12, R10_13, R10_14, Tryd.f10, lpL10_0, lpM10_0, M10_0, q1, H1, q4, q11, q12, q13, hi2, hgi, hv, lit1, bs_size, byteE_len, byteE_ok, byteE_app, hwn, hW1, htm, g6, gg, g7, g8, g9, ga, gb, B1, n1, n2, n3, hm0]
            exact hn _ ⟨by simp [q1], by simp [q1, H1], by simp [q4], by simp [q11], by simp [q12], by simp, .inr ⟨by simp, 12312, s.tick + 1 + 1 + 1 + 1 + 1, .inr rfl, by simp [q4, Nat.add_assoc], by simp [q4]⟩⟩
          · have h0 : 0 < T.length := by
              rcases Nat.eq_zero_or_pos T.length with e | e
              · exact absurd (List.eq_nil_of_length_eq_zero e) h
              · exact e
            simp [L10_0, R10_0, R10_1, R10_2, R10_3, R10_4, R10_5, R10_6, R10_7, R10_8, R10_9, R10_10, R10_11, R10_12, R10_13, R10_14, Tryd.f10, lpL10_0, lpM10_0, M10_0, q1, H1, q4, q11, q12, q13, hi2, hgi, hv, lit1, bs_size, byteE_len, byteE_ok, byteE_app, hwn, hW1, htm, g6, gg, g7, g8, g9, ga, gb, B1, B2, h, h0, n1, n2, n3, hm0]
            exact hn _ ⟨by simp [q1], by simp [q1, H1], by simp [q4], by simp [q11], by simp [q12], by simp, .inr ⟨by simp, 12312, s.tick + 1 + 1 + 1 + 1 + 1, .inr rfl, by simp [q4, Nat.add_assoc], by simp [q4]⟩⟩
          · have h0 : 0 < T.length := by
              rcases Nat.eq_zero_or_pos T.length with e | e
              · exact absurd (List.eq_nil_of_length_eq_zero e) h
              · exact e
            simp [L10_0, R10_0, R10_1, R10_2, R10_3, R10_4, R10_5, R10_6, R10_7, R10_8, R10_9, R10_10, R10_11, R10_12, R10_13, R10_14, Tryd.f10, lpL10_0, lpM10_0, M10_0, q1, H1, q4, q11, q12, q13, hi2, hgi, hv, lit1, bs_size, byteE_len, byteE_ok, byteE_app, hwn, hW1, htm, g6, gg, g7, g8, g9, ga, gb, B1, B2, h, h0, n1, n2, n3, hm0]
            exact hn _ ⟨by simp [q1], by simp [q1, H1], by simp [q4], by simp [q11], by simp [q12], by simp, .inr ⟨by simp, 12312, s.tick + 1 + 1 + 1 + 1 + 1, .inr rfl, by simp [q4, Nat.add_assoc], by simp [q4]⟩⟩)
    (by
      rintro s next ⟨q1, H1, q4, q11, q12, q13, hB⟩
      rw [List.take_length, hT] at hB
      simp [L10_0, R10_0, R10_1, R10_2, R10_3, R10_4, R10_5, R10_6, R10_7, R10_8, R10_9, R10_10, R10_11, R10_12, R10_13, R10_14, Tryd.f10, lpL10_0, lpM10_0, q4, q12, q13]
      rcases hB with ⟨h, h2⟩ | ⟨h, id, tk, hid, B1, B2⟩
      · exact .inl ⟨h, by simp [q4, h2]⟩
      · refine .inr ⟨h, id, tk, hid, ?_, ?_⟩
        · rcases hid with rfl | rfl <;> simp [q4, B1]
        · rcases hid with rfl | rfl <;> simp [q4, B1, B2])
  simp [R10_0, R10_1, R10_2, R10_3, R10_4, R10_5, R10_6, R10_7, R10_8, R10_9, R10_10, R10_11, R10_12, R10_13, R10_14, Tryd.f10, lpL10_0, lpM10_0, fldV, G]
  generalize hr : loopRun _ _ _ _ = res
  obtain ⟨s1, rfl, f4, hB⟩ := loop_at hL hr ⟨by simp, by simp, by simp, by simp, by simp, by simp, .inl ⟨by simp [txT], by simp⟩⟩
  have hne : textF W H l ≠ [] := by
    rw [← hT]
    cases l with
    | nil =>
      have := Nat.mul_le_mul (by omega : 1 ≤ W) (by omega : 1 ≤ H)
      simp at hcl'
      omega
    | cons a l => simp [txT]
  rcases hB with ⟨h, _⟩ | ⟨_, id, tk, hid, B1, B2⟩
  · exact absurd h hne
  · have e1 := byteE_len (textF W H l)
    have e2 := byteE_bytes (textF W H l)
    have e3 : 0 < (textF W H l).length := by
      rcases Nat.eq_zero_or_pos (textF W H l).length with h0 | h0
      · exact absurd (List.eq_nil_of_length_eq_zero h0) hne
      · exact h0
    rcases hid with rfl | rfl
    · simp [R10_0, R10_1, R10_2, R10_3, R10_4, R10_5, R10_6, R10_7, R10_8, R10_9, R10_10, R10_11, R10_12, R10_13, R10_14, Tryd.f10, lpL10_0, lpM10_0, M10_0, f4, B1, B2, e1, e2, e3, hne]; rfl
    · simp [R10_0, R10_1, R10_2, R10_3, R10_4, R10_5, R10_6, R10_7, R10_8, R10_9, R10_10, R10_11, R10_12, R10_13, R10_14, Tryd.f10, lpL10_0, lpM10_0, M10_0, f4, B1, B2, e1, e2, e3, hne]; rfl
theorem c_FieldTextNo (k : Nat) (b : Bool) (w h : Int) (l : List Int) (hg : goodB w h l = false) (hk : 500 ≤ k) : callK C k 10 [fldV b w h l] [] = some (.tp [.c (.string (bs [])), .c (.bool false)], hpOf [] []) := by
  obtain ⟨k, rfl⟩ : ∃ m, k = m + 9 := ⟨k - 9, by omega⟩
  rw [callK_fn rfl F10 code10]
  have G := c_IsValidField (k + 8) b w h l (by omega)
  rw [hg] at G
  simp [fldV] at G
  simp [R10_0, R10_1, R10_2, R10_3, R10_4, R10_5, R10_6, R10_7, R10_8, R10_9, R10_10, R10_11, R10_12, R10_13, R10_14, Tryd.f10, lpL10_0, lpM10_0, M10_0, fldV, G, lit0]
theorem c_specFTNo (k : Nat) (b : Bool) (w h : Int) (l : List Int) (hg : goodB w h l = false) (hk : 500 ≤ k) : callK C k 8 [fldV b w h l] [] = some (.tp [.c (.string (bs [])), .c (.bool false)], hpOf [] []) := by
  obtain ⟨k, rfl⟩ : ∃ m, k = m + 9 := ⟨k - 9, by omega⟩
  rw [callK_fn rfl F8 code8]
  have G := c_l2Good (k + 8) b w h l (by omega)
  rw [hg] at G
  simp [fldV] at G
  simp [R8_0, R8_1, R8_2, R8_3, Tryd.f8, fldV, G, lit0]
theorem c_specFT (k : Nat) (b : Bool) (W H : Nat) (l : List Int) (hg : goodB W H l = true) (hk : 700 ≤ k) : callK C k 8 [fldV b W H l] [] = some (.tp [.c (.string (bs (textF W H l))), .c (.bool true)], hpOf [] []) := by
  obtain ⟨k, rfl⟩ : ∃ m, k = m + 9 := ⟨k - 9, by omega⟩
  rw [callK_fn rfl F8 code8]
  have G := c_l2Good (k + 8) b (W : Int) (H : Int) l (by omega)
  have X := c_l2Text (k + 8) b W H l hg (by omega)
  rw [hg] at G
  simp [fldV] at G X
  simp [R8_0, R8_1, R8_2, R8_3, Tryd.f8, fldV, G, X]
theorem res_FieldText (k : Nat) (w h : Int) (l : List Int) (hk : 1000 ≤ k) : ∃ (v : ByteArray) (t : Bool), callK C k 8 [fldV true w h l] [] = some (.tp [.c (.string v), .c (.bool t)], hpOf [] []) ∧ callK C k 10 [fldV true w h l] [] = some (.tp [.c (.string v), .c (.bool t)], hpOf [] []) := by
  cases hg : goodB w h l
  · exact ⟨_, _, c_specFTNo k true w h l hg (by omega), c_FieldTextNo k true w h l hg (by omega)⟩
  · obtain ⟨s1, _, _, _⟩ := good_length hg
    obtain ⟨_, _, a1, a2, b1, b2⟩ := shape_area s1
    obtain ⟨W, rfl⟩ : ∃ W : Nat, w = W := ⟨w.toNat, by omega⟩
    obtain ⟨H, rfl⟩ : ∃ H : Nat, h = H := ⟨h.toNat, by omega⟩
    exact ⟨_, _, c_specFT k true W H l hg (by omega), c_FieldText k true W H l hg (by omega)⟩

end Go.Proofs.YtalpgpjhloohfaaDoor.Eng
