/- A deterministic reading of Go code over plain data: what functions of the program compute. No conditions. -/
import Derived.Test.YthbekdccfleaoaaDoorLmbase
import Derived.Test.YthbekdccfleaoaaDoorLmimpl
import Derived.Test.YthbekdccfleaoaaDoorLmgood
import Derived.Test.YthbekdccfleaoaaDoorLmitoa
import Derived.Test.YthbekdccfleaoaaDoorLmappendck
import Derived.Test.YthbekdccfleaoaaDoorLmsplit
import Derived.Test.YthbekdccfleaoaaDoorLmquantity
import Derived.Test.YthbekdccfleaoaaDoorLmnumtext
import Derived.Test.YthbekdccfleaoaaDoorLmpq1
import Derived.Test.YthbekdccfleaoaaDoorEngT
import Derived.Lib.IndexLaws
namespace Go.Proofs.YthbekdccfleaoaaDoor.Eng
open Go Go.Proofs
set_option maxRecDepth 100000
set_option maxHeartbeats 2000000
set_option linter.unusedSimpArgs false
set_option linter.unusedVariables false
attribute [local simp] finK fin1 hpOf xi renQ isRoot runCode runOps Eng.step wantedV astep val ofO made loadV storeV find V.cells bin binT un1 setAt fieldAddrV fieldV indexAddrV indexV bounds sliceV convV lenV foldV max2V min2V callO bor rdsO wrsO seen_none okD_none loops keepIds resV resultsV St.ev TK.agg refs refsL refsO V.one V.isC Value.oneCell' ren renL renO noTag noTagL noTagR noTagO nodup mapO passV frs psi refsR newD loopNext opsAt idx flatAt rootOf backR newsV appendV copyV clearV strV bytesOf nilCmp buildV fillF chunk
attribute [local simp] cT cF cX cWR cOW cK X ints_length ints_get ints_getElem ints_drop ints_take ints_append ints_nil ints_set
attribute [local simp] ints_replicate
attribute [local simp] putV_some putV_none putH_app applyD_nil applyD_cons seen_app gc_ρ gc_H gc_tick st0_ρ st0_H st0_tick retV callRo callV_if borL_nil borL_cons ints_snoc take_self callWr cutH_app findQ afterV exportV_0 exportV_n okD_nil okD_cons sub_seq0 sub_seq1 sub_cond0 sub_cond1 sub_block sub_loop sub_nil young_far young_none hidW_nil mayW_nil pairs okI ok_0 ok_1 ok_2
attribute [local simp] T3 T4 T5 T9 T22 T28 T41 T45 T89 T97 T102 T103 T105 T120 T126 T137 T141 T143 T144
attribute [local simp] young_near clo cloF Region.binds Nat.testBit hidW declW mayW
theorem index_of {p q : List UInt8} {c : UInt8} (h : ∀ b ∈ p, b ≠ c) : Lib.indexByte (p ++ c :: q) c = (p.length : Int) := by
  have hge := Lib.indexByte_ge (p ++ c :: q) c
  have hat : (p ++ c :: q)[p.length]? = some c := by simp
  by_cases hn : Lib.indexByte (p ++ c :: q) c = -1
  · exact absurd hat (Lib.indexByte_none hn p.length)
  · obtain ⟨o, ho⟩ : ∃ o : Nat, Lib.indexByte (p ++ c :: q) c = o := ⟨(Lib.indexByte (p ++ c :: q) c).toNat, by omega⟩
    obtain ⟨h1, h2⟩ := Lib.indexByte_some ho
    rw [ho]
    congr 1
    by_cases h3 : o < p.length
    · rw [List.getElem?_append_left h3] at h1
      exact absurd rfl (h c (List.mem_of_getElem? h1))
    · by_cases h4 : p.length < o
      · exact absurd hat (h2 p.length h4)
      · omega
theorem head_of {p q : List UInt8} {c : UInt8} (h : ∀ b ∈ p, b ≠ c) : headL (p ++ c :: q) c = p := by
  unfold headL
  rw [index_of h, if_neg (by omega)]
  simp
theorem tail_of {p q : List UInt8} {c : UInt8} (h : ∀ b ∈ p, b ≠ c) : tailL (p ++ c :: q) c = q := by
  unfold tailL
  rw [index_of h, if_neg (by omega), Int.toNat_natCast]
  rw [show p.length + 1 = (p ++ [c]).length by simp, show p ++ c :: q = (p ++ [c]) ++ q by simp, List.drop_left]
theorem spS_rest {l : List UInt8} {b : UInt8} {o : Nat} (h0 : l[o]? = some b) (h : ∀ k, k < o → l[k]? ≠ some b) (h2 : ∀ k, o < k → l[k]? ≠ some b) : ∀ d, spS l b (o + 1 + d) = ([l.take o], o + 1)
  | 0 => by
    rw [Nat.add_zero, spS_yes h0, spS_none o h o (Nat.le_refl _)]
    simp
  | d + 1 => by
    rw [← Nat.add_assoc, spS_no (h2 _ (by omega)), spS_rest h0 h h2 d]
theorem split_of {p q : List UInt8} {c : UInt8} (h : ∀ b ∈ p, b ≠ c) (hq : ∀ b ∈ q, b ≠ c) : splitL (p ++ c :: q) c = [p, q] := by
  have h0 : (p ++ c :: q)[p.length]? = some c := by simp
  have h1 : ∀ k, k < p.length → (p ++ c :: q)[k]? ≠ some c := by
    intro k hk e
    rw [List.getElem?_append_left hk] at e
    exact h c (List.mem_of_getElem? e) rfl
  have h2 : ∀ k, p.length < k → (p ++ c :: q)[k]? ≠ some c := by
    intro k hk e
    rw [List.getElem?_append_right (by omega)] at e
    obtain ⟨j, hj⟩ : ∃ j, k - p.length = j + 1 := ⟨k - p.length - 1, by omega⟩
    rw [hj, List.getElem?_cons_succ] at e
    exact hq c (List.mem_of_getElem? e) rfl
  unfold splitL
  have hlen : (p ++ c :: q).length = p.length + 1 + q.length := by simp; omega
  rw [hlen, spS_rest h0 h1 h2 q.length]
  rw [show p.length + 1 = (p ++ [c]).length by simp, show p ++ c :: q = (p ++ [c]) ++ q by simp, List.drop_left]
  simp
theorem dec_mem (u : Nat) : ∀ b ∈ Lib.decDigits u, 48 ≤ b.toNat ∧ b.toNat ≤ 57 := by
  intro b hb
  obtain ⟨i, hi, rfl⟩ := List.getElem_of_mem hb
  obtain ⟨d, hd⟩ := Lib.digit_of_decFrom _ _ _ (dec_digits u) i _ (List.getElem?_eq_getElem hi)
  unfold Lib.digitVal at hd
  split at hd
  · rename_i hh; exact hh
  · cases hd
theorem dig_ne {b c : UInt8} (h : 48 ≤ b.toNat ∧ b.toNat ≤ 57) (hc : c.toNat < 48 ∨ 57 < c.toNat) : b ≠ c := by
  rintro rfl; omega
def qNum (x : Int) : List UInt8 := sgnL x ++ (Lib.decDigits (x.natAbs / 10) ++ 46 :: Lib.decDigits (x.natAbs % 10))
def qDig (x : Int) : List UInt8 := Lib.decDigits (x.natAbs / 10) ++ 46 :: Lib.decDigits (x.natAbs % 10)
theorem qua_is (x u : Int) : quaL x u = qNum x ++ 32 :: wordL u := by simp [quaL, qNum]
theorem num_no (x : Int) : ∀ b ∈ qNum x, b ≠ 32 := by
  intro b hb
  unfold qNum at hb
  simp only [List.mem_append, List.mem_cons] at hb
  rcases hb with hb | hb | hb | hb
  · unfold sgnL at hb
    split at hb
    · simp at hb; subst hb; decide
    · cases hb
  · exact dig_ne (dec_mem _ b hb) (by decide)
  · subst hb; decide
  · exact dig_ne (dec_mem _ b hb) (by decide)
theorem word_no (u : Int) : ∀ b ∈ wordL u, b ≠ 32 := by
  unfold wordL
  split
  · decide
  split
  · decide
  split
  · decide
  split
  · decide
  split
  · decide
  split
  · decide
  split <;> decide
theorem dig_no (u : Nat) : ∀ b ∈ Lib.decDigits u, b ≠ 46 := fun b hb => dig_ne (dec_mem _ b hb) (by decide)
theorem neg_num (x : Int) : negB (qNum x) = decide (x < 0) := by
  unfold negB qNum sgnL
  by_cases h : x < 0
  · simp [h]
  · obtain ⟨b, r, hb, h1, h2⟩ := dec_head (x.natAbs / 10)
    have : b ≠ 45 := dig_ne ⟨h1, h2⟩ (by decide)
    simp [h, hb, this]
theorem un_num (x : Int) : unN (qNum x) = qDig x := by
  unfold unN
  rw [neg_num]
  unfold qNum qDig sgnL
  by_cases h : x < 0 <;> simp [h]
theorem abs_dec {x : Int} (_ : -99999 ≤ x ∧ x ≤ 99999) : Lib.decFrom 0 (Lib.decDigits (x.natAbs / 10) ++ Lib.decDigits (x.natAbs % 10)) = some x.natAbs := by
  rw [decFrom_append, dec_digits]
  simp only [Option.bind_some]
  have h : Lib.decDigits (x.natAbs % 10) = [UInt8.ofNat (48 + x.natAbs % 10)] := by
    rw [Lib.decDigits, dif_pos (by omega)]
  rw [h]
  simp only [Lib.decFrom, digit_ofNat (by omega : x.natAbs % 10 < 10)]
  congr 1
  omega
theorem abs_len {x : Int} (hx : -99999 ≤ x ∧ x ≤ 99999) : (Lib.decDigits (x.natAbs / 10)).length ≤ 6 ∧ (Lib.decDigits (x.natAbs % 10)).length ≤ 6 := ⟨dec_len6 (by omega), dec_len6 (by omega)⟩
theorem atoi_abs {x : Int} (hx : -99999 ≤ x ∧ x ≤ 99999) : Lib.atoiAll (Lib.decDigits (x.natAbs / 10) ++ Lib.decDigits (x.natAbs % 10)) = .ok (x.natAbs : Int) := by
  have hd := abs_dec hx
  obtain ⟨b, r, hb, h1, h2⟩ := dec_head (x.natAbs / 10)
  have hdn : Lib.decNat (Lib.decDigits (x.natAbs / 10) ++ Lib.decDigits (x.natAbs % 10)) = some x.natAbs := by
    unfold Lib.decNat
    rw [hd, hb]
    rfl
  rw [Lib.atoiAll_short _ (by have := abs_len hx; simp; omega)]
  rw [hb] at hdn ⊢
  have e1 : (b == 45) = false := by
    rw [beq_eq_false_iff_ne]; rintro rfl; simp at h1
  have e2 : (b == 43) = false := by
    rw [beq_eq_false_iff_ne]; rintro rfl; simp at h1
  simp only [List.cons_append] at hdn ⊢
  simp only [Lib.atoi, e1, e2, Bool.false_eq_true, if_false, hdn, Option.map_some]
  rfl
def MT (l : List UInt8) : Prop := ∃ x u : Int, (-99999 ≤ x ∧ x ≤ 99999) ∧ (1 ≤ u ∧ u ≤ 8) ∧ quaL x u = l
theorem word_inj : ∀ i j : Nat, i < 8 → j < 8 → wordL (1 + (i : Int)) = wordL (1 + (j : Int)) → i = j := by
  intro i j hi hj h
  have c : ∀ n : Nat, n < 8 → n = 0 ∨ n = 1 ∨ n = 2 ∨ n = 3 ∨ n = 4 ∨ n = 5 ∨ n = 6 ∨ n = 7 := by omega
  rcases c i hi with rfl | rfl | rfl | rfl | rfl | rfl | rfl | rfl <;> rcases c j hj with rfl | rfl | rfl | rfl | rfl | rfl | rfl | rfl <;> first | rfl | exact absurd h (by decide)
/-- A word is a unit's, or none's. -/
theorem pu_cases (l : List UInt8) : (∃ n : Nat, n < 8 ∧ (∀ i, i < n → ¬ wordL (1 + (i : Int)) = l) ∧ wordL (1 + (n : Int)) = l) ∨ ∀ i : Nat, i < 8 → ¬ wordL (1 + (i : Int)) = l := by
  by_cases h : ∃ n : Nat, n < 8 ∧ wordL (1 + (n : Int)) = l
  · obtain ⟨n, hn, hw⟩ := h
    refine .inl ⟨n, hn, fun i hi e => ?_, hw⟩
    have := word_inj i n (by omega) hn (e.trans hw.symm)
    omega
  · exact .inr fun i hi e => h ⟨i, hi, e⟩
theorem c_Atoi (k : Nat) (l : List UInt8) (h20 : l.length ≤ 281474976710656) (hk : 1 ≤ k) : callK C k 102 [.c (.string (bs l))] [] = (match Lib.atoiAll l with
    | .ok v => some (.tp [.c (.int .i64 v), .c .nilIface], hpOf [] [])
    | .«syntax» => some (.tp [.c (.int .i64 0), .er], hpOf [] [])
    | .range => some (.tp [.c (.int .i64 (Lib.atoiSat l)), .er], hpOf [] [])) := by
  obtain ⟨k, rfl⟩ : ∃ m, k = m + 1 := ⟨k - 1, by omega⟩
  simp only [callK, cX, X, ext102, bs_size, h20, if_true]
  have : (bs l).data.toList = l := by simp [bs]
  rw [this]
  cases Lib.atoiAll l <;> simp
theorem un_len (l : List UInt8) : (unN l).length ≤ l.length := by
  unfold unN; split <;> simp
theorem headG_len (l : List UInt8) (c : UInt8) : (headL l c).length ≤ l.length := by
  unfold headL
  split
  · exact Nat.le_refl _
  · rw [List.length_take]; omega
theorem tailG_len (l : List UInt8) (c : UInt8) : (tailL l c).length ≤ l.length := by
  unfold tailL
  split <;> simp
theorem c_implPQy (k : Nat) (x u : Int) (hx : -99999 ≤ x ∧ x ≤ 99999) (hu : 1 ≤ u ∧ u ≤ 8) (hk : 100 ≤ k) : callK C k 49 [.c (.string (bs (quaL x u)))] [] = some (.tp [.c (.int .i64 x), .c (.int .i64 u), .c (.bool true)], hpOf [] []) := by
  obtain ⟨k, rfl⟩ : ∃ m, k = m + 9 := ⟨k - 9, by omega⟩
  rw [callK_fn rfl F49 code49]
  obtain ⟨l1, l2⟩ := abs_len hx
  have ln : (qNum x).length ≤ 14 := by unfold qNum sgnL; split <;> simp <;> omega
  have lw := word_len u
  have lq : (quaL x u).length ≤ 20 := by rw [qua_is]; simp; omega
  have cut1 := c_CutG (k + 8) (quaL x u) 32 (by omega) (by omega)
  rw [show headL (quaL x u) 32 = qNum x by rw [qua_is]; exact head_of (num_no x), show tailL (quaL x u) 32 = wordL u by rw [qua_is]; exact tail_of (num_no x)] at cut1
  obtain ⟨n, rfl⟩ : ∃ n : Nat, u = 1 + (n : Int) := ⟨(u - 1).toNat, by omega⟩
  have pu := c_implPUy (k + 8) (wordL (1 + (n : Int))) n (by omega) (fun i hi e => by have := word_inj i n (by omega) (by omega) e; omega) rfl (by omega)
  have tr := c_Trim (k + 8) (qNum x) (by omega) (by omega)
  rw [un_num] at tr
  have ld : (qDig x).length ≤ 13 := by unfold qDig; simp; omega
  have cut2 := c_CutG (k + 8) (qDig x) 46 (by omega) (by omega)
  rw [show headL (qDig x) 46 = Lib.decDigits (x.natAbs / 10) from head_of (dig_no _), show tailL (qDig x) 46 = Lib.decDigits (x.natAbs % 10) from tail_of (dig_no _)] at cut2
  have at1 := c_Atoi (k + 8) (Lib.decDigits (x.natAbs / 10) ++ Lib.decDigits (x.natAbs % 10)) (by simp; omega) (by omega)
  rw [atoi_abs hx] at at1
  simp only [] at at1
  have hs := c_Has (k + 8) (qNum x) (by omega)
  rw [neg_num] at hs
  have qt := c_implQua (k + 8) x (1 + (n : Int)) (by omega)
  rw [if_pos (by simp; omega)] at qt
  have la : (Lib.decDigits (x.natAbs / 10)).length + (Lib.decDigits (x.natAbs % 10)).length ≤ 9223372036854775807 := by omega
  by_cases h0 : x < 0
  · have wn : IntKind.i64.wrap (-(x.natAbs : Int)) = x := by rw [wrap_small (by omega) (by omega)]; omega
    simp [h0] at hs
    generalize quaL x (1 + (n : Int)) = Q at *
    generalize (x.natAbs : Int) = X at *
    simp [R49_0, R49_1, R49_2, R49_3, R49_4, R49_5, R49_6, R49_7, R49_8, R49_9, R49_10, R49_11, R49_12, Tryd.f49, undef, lit1, cut1, pu, tr, cut2, bs_append, bs_size, la, at1, nilCmp, hs, wn, qt, bs_neq]
  · have wn : (x.natAbs : Int) = x := by omega
    simp [h0] at hs
    rw [wn] at at1
    generalize quaL x (1 + (n : Int)) = Q at *
    simp [R49_0, R49_1, R49_2, R49_3, R49_4, R49_5, R49_6, R49_7, R49_8, R49_9, R49_10, R49_11, R49_12, Tryd.f49, undef, lit1, cut1, pu, tr, cut2, bs_append, bs_size, la, at1, nilCmp, hs, qt, bs_neq]
theorem c_implPQn (k : Nat) (l : List UInt8) (h20 : l.length ≤ 1048576) (hno : ¬ MT l) (hk : 100 ≤ k) : callK C k 49 [.c (.string (bs l))] [] = some (.tp [.c (.int .i64 0), .c (.int .i64 0), .c (.bool false)], hpOf [] []) := by
  obtain ⟨k, rfl⟩ : ∃ m, k = m + 9 := ⟨k - 9, by omega⟩
  rw [callK_fn rfl F49 code49]
  have cut1 := c_CutG (k + 8) l 32 h20 (by omega)
  obtain ⟨num, hn⟩ : ∃ n, headL l 32 = n := ⟨_, rfl⟩
  have ln := headG_len l 32
  obtain ⟨wd, hw⟩ : ∃ n, tailL l 32 = n := ⟨_, rfl⟩
  rw [hn] at cut1 ln
  rw [hw] at cut1
  have tr := c_Trim (k + 8) num (by omega) (by omega)
  have lu := un_len num
  have cut2 := c_CutG (k + 8) (unN num) 46 (by omega) (by omega)
  have la := headG_len (unN num) 46
  have lb := tailG_len (unN num) 46
  obtain ⟨A, hA⟩ : ∃ n, headL (unN num) 46 = n := ⟨_, rfl⟩
  obtain ⟨B, hB⟩ : ∃ n, tailL (unN num) 46 = n := ⟨_, rfl⟩
  rw [hA] at cut2 la
  rw [hB] at cut2 lb
  have lab : A.length + B.length ≤ 9223372036854775807 := by omega
  have at1 := c_Atoi (k + 8) (A ++ B) (by simp; omega) (by omega)
  have hs := c_Has (k + 8) num (by omega)
  rcases pu_cases wd with ⟨n, h8, hpre, hat⟩ | hnone
  · have pu := c_implPUy (k + 8) wd n h8 hpre hat (by omega)
    have hl : ¬ [] = l := by
      rintro rfl
      have e : wordL (1 + (n : Int)) = [] := by rw [hat, ← hw]; rfl
      have c : n = 0 ∨ n = 1 ∨ n = 2 ∨ n = 3 ∨ n = 4 ∨ n = 5 ∨ n = 6 ∨ n = 7 := by omega
      rcases c with rfl | rfl | rfl | rfl | rfl | rfl | rfl | rfl <;> exact absurd e (by decide)
    have fin : ∀ v : Int, ∃ t : List UInt8, ∃ b : Bool, callK C (k + 8) 52 [.c (.int .i64 v), .c (.int .i64 (1 + (n : Int)))] [] = some (.tp [.c (.string (bs t)), .c (.bool b)], hpOf [] []) ∧ ¬ t = l := by
      intro v
      have qt := c_implQua (k + 8) v (1 + (n : Int)) (by omega)
      by_cases hv : ((decide (-99999 ≤ v) && decide (v ≤ 99999)) && (decide ((1 : Int) ≤ 1 + (n : Int)) && decide ((1 : Int) + (n : Int) ≤ 8))) = true
      · rw [if_pos hv] at qt
        refine ⟨_, _, qt, fun e => hno ⟨v, 1 + (n : Int), ?_, by omega, e⟩⟩
        simp only [Bool.and_eq_true, decide_eq_true_eq] at hv
        exact hv.1
      · rw [if_neg hv] at qt
        exact ⟨_, _, qt, hl⟩
    cases ha : Lib.atoiAll (A ++ B) with
    | ok v =>
      rw [ha] at at1
      simp only [] at at1
      cases hg : negB num
      · rw [hg] at hs
        obtain ⟨t, b, qt, ht⟩ := fin v
        simp [R49_0, R49_1, R49_2, R49_3, R49_4, R49_5, R49_6, R49_7, R49_8, R49_9, R49_10, R49_11, R49_12, Tryd.f49, undef, lit1, cut1, pu, tr, cut2, bs_append, bs_size, lab, at1, nilCmp, hs, qt, bs_neq, ht]
      · rw [hg] at hs
        obtain ⟨t, b, qt, ht⟩ := fin (IntKind.i64.wrap (-v))
        simp [R49_0, R49_1, R49_2, R49_3, R49_4, R49_5, R49_6, R49_7, R49_8, R49_9, R49_10, R49_11, R49_12, Tryd.f49, undef, lit1, cut1, pu, tr, cut2, bs_append, bs_size, lab, at1, nilCmp, hs, qt, bs_neq, ht]
    | «syntax» =>
      rw [ha] at at1
      simp only [] at at1
      simp [R49_0, R49_1, R49_2, R49_3, R49_4, R49_5, R49_6, R49_7, R49_8, R49_9, R49_10, R49_11, R49_12, Tryd.f49, undef, lit1, cut1, pu, tr, cut2, bs_append, bs_size, lab, at1, nilCmp]
    | range =>
      rw [ha] at at1
      simp only [] at at1
      simp [R49_0, R49_1, R49_2, R49_3, R49_4, R49_5, R49_6, R49_7, R49_8, R49_9, R49_10, R49_11, R49_12, Tryd.f49, undef, lit1, cut1, pu, tr, cut2, bs_append, bs_size, lab, at1, nilCmp]
  · have pu := c_implPUn (k + 8) wd hnone (by omega)
    cases ha : Lib.atoiAll (A ++ B) <;>
    · rw [ha] at at1
      simp only [] at at1
      simp [R49_0, R49_1, R49_2, R49_3, R49_4, R49_5, R49_6, R49_7, R49_8, R49_9, R49_10, R49_11, R49_12, Tryd.f49, undef, lit1, cut1, pu, tr, cut2, bs_append, bs_size, lab, at1, nilCmp]

end Go.Proofs.YthbekdccfleaoaaDoor.Eng
