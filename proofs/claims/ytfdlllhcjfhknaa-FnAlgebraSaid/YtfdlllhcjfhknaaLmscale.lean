/- A deterministic reading of Go code over plain data: what functions of the program compute. No conditions. -/
import Derived.Test.YtfdlllhcjfhknaaLmbase
import Derived.Test.YtfdlllhcjfhknaaLmimpl
import Derived.Test.YtfdlllhcjfhknaaLmimplc
import Derived.Test.YtfdlllhcjfhknaaLmgood
import Derived.Test.YtfdlllhcjfhknaaLmspec
import Derived.Test.YtfdlllhcjfhknaaLmcombined
import Derived.Test.YtfdlllhcjfhknaaLmminmax
import Derived.Test.YtfdlllhcjfhknaaLmchanged
import Derived.Test.YtfdlllhcjfhknaaLmspeclp
import Derived.Test.YtfdlllhcjfhknaaLmimplch
import Derived.Test.YtfdlllhcjfhknaaLmcombfrom
import Derived.Test.YtfdlllhcjfhknaaLmcombspec
import Derived.Test.YtfdlllhcjfhknaaEngT
namespace Go.Proofs.Ytfdlllhcjfhknaa.Eng
open Go Go.Proofs
set_option maxRecDepth 100000
set_option maxHeartbeats 2000000
set_option linter.unusedSimpArgs false
set_option linter.unusedVariables false
attribute [local simp] finK fin1 hpOf xi renQ isRoot runCode runOps Eng.step wantedV astep val ofO made loadV storeV find V.cells bin binT un1 setAt fieldAddrV fieldV indexAddrV indexV bounds sliceV convV lenV foldV max2V min2V callO bor rdsO wrsO seen_none okD_none loops keepIds resV resultsV St.ev TK.agg refs refsL refsO V.one V.isC Value.oneCell' ren renL renO noTag noTagL noTagR noTagO nodup mapO passV frs psi refsR newD loopNext opsAt idx flatAt rootOf backR newsV appendV copyV clearV strV bytesOf nilCmp buildV fillF chunk
attribute [local simp] cT cF cX cWR cOW cK X ints_length ints_get ints_getElem ints_drop ints_take ints_append ints_nil ints_set
attribute [local simp] ints_replicate
attribute [local simp] putV_some putV_none putH_app applyD_nil applyD_cons seen_app gc_ρ gc_H gc_tick st0_ρ st0_H st0_tick retV callRo callV_if borL_nil borL_cons ints_snoc take_self callWr cutH_app findQ afterV exportV_0 exportV_n okD_nil okD_cons sub_seq0 sub_seq1 sub_cond0 sub_cond1 sub_block sub_loop sub_nil young_far young_none hidW_nil mayW_nil pairs okI ok_0 ok_1 ok_2
attribute [local simp] T3 T4 T5 T9 T22 T24 T26 T29 T36 T73 T75 T86 T89 T103 T104 T106 T108 T109 T111 T114 T118 T134 T136 T157 T161 T168
attribute [local simp] young_near clo cloF Region.binds Nat.testBit hidW declW mayW
theorem floor_uniq {a b q : Int} (hb : 0 < b) (h1 : q * b ≤ a) (h2 : a < q * b + b) : a / b = q :=
  ((Int.ediv_emod_unique (r := a - b * q) hb).2 ⟨by rw [Int.mul_comm b q]; omega, by rw [Int.mul_comm b q]; omega, by rw [Int.mul_comm b q]; omega⟩).1
theorem ediv_bounds (a : Int) {b : Int} (hb : 0 < b) : (a / b) * b ≤ a ∧ a < (a / b) * b + b := by
  have h1 := Int.emod_add_mul_ediv a b
  have h2 := Int.emod_nonneg a (Int.ne_of_gt hb)
  have h3 := Int.emod_lt_of_pos a hb
  rw [Int.mul_comm b (a / b)] at h1
  omega
theorem mul_low {q b : Int} (hq : q ≤ 0) (hb : 1 ≤ b) : q * b ≤ q := by
  have h := Int.mul_nonneg (a := -q) (b := b - 1) (by omega) (by omega)
  rw [Int.mul_sub, Int.neg_mul, Int.mul_one] at h
  omega
theorem mul_high {q b : Int} (hq : 0 ≤ q) (hb : 1 ≤ b) : q ≤ q * b := by
  have h := Int.mul_nonneg (a := q) (b := b - 1) (by omega) (by omega)
  rw [Int.mul_sub, Int.mul_one] at h
  omega
theorem ediv_small {a b n : Int} (hb : 1 ≤ b) (hn : 0 ≤ n) (h : -n ≤ a ∧ a ≤ n) : -n - 1 ≤ a / b ∧ a / b ≤ n := by
  have hq := ediv_bounds a (b := b) (by omega)
  generalize a / b = q at hq
  have h2 : q * b + b = (q + 1) * b := by rw [Int.add_mul, Int.one_mul]
  constructor
  · by_cases h0 : q + 1 ≤ 0
    · have h4 := mul_low h0 hb
      omega
    · omega
  · by_cases h0 : 0 ≤ q
    · have := mul_high h0 hb
      omega
    · omega
theorem tdiv_pos {a b : Int} (ha : 0 ≤ a) : Int.tdiv a b = a / b := Int.tdiv_eq_ediv_of_nonneg ha
theorem c_floorDiv (k : Nat) (a b : Int) (hb : 1 ≤ b ∧ b ≤ 100) (ha : -1000000 ≤ a ∧ a ≤ 1000000) (hk : 1 ≤ k) : callK C k 138 [.c (.int .i64 a), .c (.int .i64 b)] [] = some (.c (.int .i64 (a / b)), hpOf [] []) := by
  obtain ⟨k, rfl⟩ : ∃ m, k = m + 1 := ⟨k - 1, by omega⟩
  rw [callK_fn rfl F138 code138]
  have hb0 : ¬ b = 0 := by omega
  have hs0 := ediv_small (a := a) (b := b) (n := 1000000) hb.1 (by omega) ha
  by_cases h0 : 0 ≤ a
  · have h1 : ¬ Int.tmod a b < 0 := by
      have := Int.tmod_nonneg b h0; omega
    have hw : IntKind.i64.wrap (a.tdiv b) = a / b := by rw [tdiv_pos h0]; exact wrap_small (by omega) (by omega)
    simp [R138_0, R138_1, R138_2, R138_3, R138_4, Try.f138, hb0, h1, hw]
  · obtain ⟨n, rfl⟩ : ∃ n, a = -n := ⟨-a, by omega⟩
    have hd : Int.tdiv (-n) b = -(n / b) := by rw [Int.neg_tdiv, tdiv_pos (by omega)]
    have hm : Int.tmod (-n) b = -(n % b) := by rw [Int.neg_tmod, Int.tmod_eq_emod_of_nonneg (by omega)]
    have hs := ediv_small (a := n) (b := b) (n := 1000000) hb.1 (by omega) (by omega)
    have e1 := Int.emod_add_mul_ediv n b
    have e2 := Int.emod_nonneg n (b := b) (by omega)
    have e3 := Int.emod_lt_of_pos n (b := b) (by omega)
    rw [Int.mul_comm b (n / b)] at e1
    have w1 : IntKind.i64.wrap ((-n).tdiv b) = -(n / b) := by rw [hd]; exact wrap_small (by omega) (by omega)
    by_cases h1 : (-n).tmod b < 0
    · have hq : -n / b = -(n / b) - 1 := by
        rw [hm] at h1
        refine floor_uniq (by omega) ?_ ?_
        · rw [Int.sub_mul, Int.neg_mul]; omega
        · rw [Int.sub_mul, Int.neg_mul]; omega
      have w2 : IntKind.i64.wrap (-(n / b) - 1) = -n / b := by rw [hq]; exact wrap_small (by omega) (by omega)
      simp at h1 w1
      simp [R138_0, R138_1, R138_2, R138_3, R138_4, Try.f138, hb0, h1, w1, w2]
    · have hq : -n / b = -(n / b) := by
        rw [hm] at h1
        refine floor_uniq (by omega) ?_ ?_
        · rw [Int.neg_mul]; omega
        · rw [Int.neg_mul]; omega
      have h2 : ¬ 0 < n.tmod b := by rw [Int.neg_tmod] at h1; omega
      simp at w1
      simp [R138_0, R138_1, R138_2, R138_3, R138_4, Try.f138, hb0, h2, w1, hq]
theorem c_l4Floor (k : Nat) (a b : Int) (hb : 1 ≤ b ∧ b ≤ 100) (ha : -1000000 ≤ a ∧ a ≤ 1000000) (hk : 1 ≤ k) : callK C k 179 [.c (.int .i64 a), .c (.int .i64 b)] [] = some (.c (.int .i64 (a / b)), hpOf [] []) := by
  obtain ⟨k, rfl⟩ : ∃ m, k = m + 1 := ⟨k - 1, by omega⟩
  rw [callK_fn rfl F179 code179]
  have hb0 : ¬ b = 0 := by omega
  have hs0 := ediv_small (a := a) (b := b) (n := 1000000) hb.1 (by omega) ha
  by_cases h0 : a < 0
  · have w1 : IntKind.i64.wrap (-a) = -a := wrap_small (by omega) (by omega)
    have w2 : IntKind.i64.wrap (-a + b) = -a + b := wrap_small (by omega) (by omega)
    have w3 : IntKind.i64.wrap (-a + b - 1) = -a + b - 1 := wrap_small (by omega) (by omega)
    have hs1 := ediv_small (a := -a + b - 1) (b := b) (n := 1000100) hb.1 (by omega) (by omega)
    have w4 : IntKind.i64.wrap ((-a + b - 1).tdiv b) = (-a + b - 1) / b := by rw [tdiv_pos (by omega)]; exact wrap_small (by omega) (by omega)
    have hq : a / b = -((-a + b - 1) / b) := by
      have := ediv_bounds (-a + b - 1) (b := b) (by omega)
      refine floor_uniq (by omega) ?_ ?_
      · rw [Int.neg_mul]; omega
      · rw [Int.neg_mul]; omega
    have w5 : IntKind.i64.wrap (-((-a + b - 1) / b)) = a / b := by rw [← hq]; exact wrap_small (by omega) (by omega)
    simp [R179_0, R179_1, R179_2, R179_3, Try.f179, h0, hb0, w1, w2, w3, w4, w5]
  · have w1 : IntKind.i64.wrap (a.tdiv b) = a / b := by rw [tdiv_pos (by omega)]; exact wrap_small (by omega) (by omega)
    simp [R179_0, R179_1, R179_2, R179_3, Try.f179, h0, hb0, w1]
def rawG (num den x : Int) : Int := x * num / den
def scG (num den x : Int) : Int := ckI (rawG num den x)
def scP (num den : Int) : Bool := (decide (-100 ≤ num) && decide (num ≤ 100)) && (decide (1 ≤ den) && decide (den ≤ 100))
theorem mul_bnd {x num : Int} (hx : -9000 ≤ x ∧ x ≤ 9000) (hn : -100 ≤ num ∧ num ≤ 100) : -1000000 ≤ x * num ∧ x * num ≤ 1000000 := by
  have a1 := Int.mul_nonneg (a := 9000 - x) (b := 100 - num) (by omega) (by omega)
  have a2 := Int.mul_nonneg (a := 9000 + x) (b := 100 + num) (by omega) (by omega)
  have a3 := Int.mul_nonneg (a := 9000 - x) (b := 100 + num) (by omega) (by omega)
  have a4 := Int.mul_nonneg (a := 9000 + x) (b := 100 - num) (by omega) (by omega)
  simp only [Int.sub_mul, Int.add_mul, Int.mul_sub, Int.mul_add] at a1 a2 a3 a4
  constructor <;> omega
theorem c_Scale1 (k : Nat) (x num den : Int) (hp : scP num den = true) (hx : cellB x = true) (hm : x ≠ -9999) (hk : 5 ≤ k) : callK C k 137 [.c (.int .i64 x), .bx true [.c (.int .i64 num)], .bx true [.c (.int .i64 den)]] [] = some (.c (.int .i64 (scG num den x)), hpOf [] []) := by
  obtain ⟨k, rfl⟩ : ∃ m, k = m + 1 := ⟨k - 1, by omega⟩
  rw [callK_fn rfl F137 code137]
  rw [cellB_iff] at hx
  simp only [scP, Bool.and_eq_true, decide_eq_true_eq] at hp
  have hb := mul_bnd (x := x) (num := num) (by omega) hp.1
  have hf := c_floorDiv k (x * num) den hp.2 hb (by omega)
  have hc := c_checkedCell k (x * num / den) (by omega)
  have hw : IntKind.i64.wrap (x * num) = x * num := wrap_small (by omega) (by omega)
  simp [R137_0, R137_1, Try.f137, hw, hf, hc, scG, rawG]
theorem c_implScale (k : Nat) (b : Bool) (w h : Int) (l : List Int) (num den : Int) (hk : 700 ≤ k) : callK C k 50 [fldV b w h l, .c (.int .i64 num), .c (.int .i64 den)] [] = optV (scP num den && (goodB w h l && goodB w h (chgM (scG num den) l))) w h (chgM (scG num den) l) := by
  obtain ⟨k, rfl⟩ : ∃ m, k = m + 20 := ⟨k - 20, by omega⟩
  rw [callK_fn rfl F50 code50]
  have i1 := c_within (k + 19) num (-100) 100 (by omega)
  have i2 := c_within (k + 19) den 1 100 (by omega)
  cases hb : scP num den
  · simp only [scP] at hb
    obtain ⟨a, ha⟩ : ∃ a, (decide (-100 ≤ num) && decide (num ≤ 100)) = a := ⟨_, rfl⟩
    obtain ⟨c, hcc⟩ : ∃ a, (decide (1 ≤ den) && decide (den ≤ 100)) = a := ⟨_, rfl⟩
    rw [ha, hcc] at hb
    rw [ha] at i1
    rw [hcc] at i2
    cases a <;> cases c <;> simp at hb <;> simp [R50_0, R50_1, R50_2, R50_3, Try.f50, fldV, i1, i2, optV, nilV]
  · have hb' := hb
    simp only [scP, Bool.and_eq_true, decide_eq_true_eq] at hb'
    simp [hb'] at i1 i2
    cases hg : goodB w h l
    · have hc := c_changedNo (k + 19) b 137 [.bx true [.c (.int .i64 num)], .bx true [.c (.int .i64 den)]] w h l rfl (fun H => rfl) hg (by omega)
      simp [fldV, nilV] at hc
      simp [R50_0, R50_1, R50_2, R50_3, Try.f50, fldV, i1, i2, hc, optV, nilV]
    · have hc := c_changed (k + 10) b 137 [.bx true [.c (.int .i64 num)], .bx true [.c (.int .i64 den)]] w h l (scG num den) rfl (fun H => rfl) (fun x hx hm => c_Scale1 (k + 18) x num den hb hx hm (by omega)) hg (by omega)
      have hz := chgM_length (scG num den) l
      cases hg2 : goodB w h (chgM (scG num den) l)
      · rw [hg2] at hc
        simp [fldV, optV, nilV] at hc
        simp [R50_0, R50_1, R50_2, R50_3, Try.f50, fldV, i1, i2, hc, optV, nilV]
      · rw [hg2] at hc
        simp [fldV, optV, ownV, intsO] at hc
        simp [R50_0, R50_1, R50_2, R50_3, Try.f50, fldV, i1, i2, hc, optV, ownV, intsO, hz]
def rOkL (num den : Int) (l : List Int) : Bool := l.all fun x => x == -9999 || (decide (-9000 ≤ rawG num den x) && decide (rawG num den x ≤ 9000))
theorem rOkL_take {num den : Int} {l : List Int} {i : Nat} (h : i < l.length) : rOkL num den (l.take (i + 1)) = (rOkL num den (l.take i) && (l[i] == -9999 || (decide (-9000 ≤ rawG num den l[i]) && decide (rawG num den l[i] ≤ 9000)))) := by
  unfold rOkL
  rw [List.take_succ_eq_append_getElem h, List.all_append]
  simp
theorem sc_all {num den w h : Int} {l : List Int} (hg : goodB w h l = true) : goodB w h (chgM (scG num den) l) = rOkL num den l ∧ (rOkL num den l = true → chgM (scG num den) l = chgM (rawG num den) l) := by
  obtain ⟨s1, n1, cl1, k1⟩ := good_length hg
  have e : ∀ x, (if x = -9999 then x else scG num den x) = -9999 ∨ True := fun _ => .inr trivial
  have key : (chgM (scG num den) l).all cellB = rOkL num den l := by
    unfold chgM rOkL
    rw [List.all_map]
    congr 1
    funext x
    simp only [Function.comp]
    by_cases hx : x = -9999
    · simp [hx, cellB]
    · rw [if_neg hx]
      unfold scG ckI
      have hxb : (x == -9999) = false := by simpa using hx
      rw [hxb]
      by_cases hr : -9000 ≤ rawG num den x ∧ rawG num den x ≤ 9000
      · rw [if_pos hr]
        rw [Bool.eq_iff_iff, cellB_iff]
        simp
        omega
      · rw [if_neg hr]
        rw [Bool.eq_iff_iff, cellB_iff]
        simp
        omega
  refine ⟨?_, fun hr => ?_⟩
  · unfold goodB
    rw [s1, chgM_length, key]
    simp [n1]
  · unfold chgM
    apply List.map_congr_left
    intro x hx
    have := List.all_eq_true.1 hr x hx
    simp only [Bool.or_eq_true, beq_iff_eq, Bool.and_eq_true, decide_eq_true_eq] at this
    by_cases h9 : x = -9999
    · rw [if_pos h9, if_pos h9]
    · rw [if_neg h9, if_neg h9]
      unfold scG ckI
      rw [if_pos (this.resolve_left h9)]
theorem c_l4Scale (k : Nat) (b : Bool) (w h : Int) (l : List Int) (num den : Int) (hp : scP num den = true) (hg : goodB w h l = true) (hk : 600 ≤ k) : callK C k 139 [fldV b w h l, .c (.int .i64 num), .c (.int .i64 den)] [] = optV (rOkL num den l && goodB w h (chgM (rawG num den) l)) w h (chgM (rawG num den) l) := by
  obtain ⟨k, rfl⟩ : ∃ m, k = m + 9 := ⟨k - 9, by omega⟩
  rw [callK_fn rfl F139 code139]
  obtain ⟨s1, n1, cl1, k1⟩ := good_length hg
  have hz := chgM_length (rawG num den) l
  have o1 := c_l2Own (k + 8) b w h l (by omega) (by omega)
  simp [fldV, ownV, intsO] at o1
  have hp' := hp
  simp only [scP, Bool.and_eq_true, decide_eq_true_eq] at hp'
  have hL := loopHas (body := fun st => runCode C (callK C (k + 8)) (k + 8) (K 139) L139_0 1 st) (keep := [1, 2, 3, 6, 8, 9, 10]) (.ex 0) (fun st => st.ρ 6 = .p 32 1 3 0 0 ∧ st.ρ 8 = .p 1072 2 3 0 0 ∧ st.ρ 9 = .c (.bool (rOkL num den l)) ∧ st.H 32 = some (1, ⟨29, 3, false, [[.c (.int .i64 0), .c (.int .i64 0), .c (.slice none 0 0)]]⟩) ∧ st.H 1072 = some (2, ⟨29, 3, false, [[.c (.int .i64 w), .c (.int .i64 h), .s 1056 2 1 0 l.length]]⟩) ∧ st.H 1056 = some (2, intsO (chgM (rawG num den) l)))
    (fun i st => st.ρ 1 = .c (.int .i64 num) ∧ st.ρ 2 = .c (.int .i64 den) ∧ st.ρ 3 = .p 16 1 3 0 0 ∧ st.ρ 6 = .p 32 1 3 0 0 ∧ st.ρ 8 = .p 1072 2 3 0 0 ∧ st.ρ 9 = .c (.bool (rOkL num den (l.take i))) ∧ st.ρ 10 = .c (.int .i64 (i : Int)) ∧ st.H 16 = some (1, ⟨29, 3, false, [[.c (.int .i64 w), .c (.int .i64 h), .sq b true 1 (ints l)]]⟩) ∧ st.H 32 = some (1, ⟨29, 3, false, [[.c (.int .i64 0), .c (.int .i64 0), .c (.slice none 0 0)]]⟩) ∧ st.H 1072 = some (2, ⟨29, 3, false, [[.c (.int .i64 w), .c (.int .i64 h), .s 1056 2 1 0 l.length]]⟩) ∧ st.H 1056 = some (2, intsO (fillL (chgM (rawG num den) l) l i)))
    l.length (k + 8) (by omega)
    (by
      rintro i st next hi ⟨q1, q2, q3, q6, q8, q9, q10, Hi, Hr, Ho, Hw⟩ hn
      have hget := fillL_get (chgM (rawG num den) l) l i hz.symm (by omega)
      have hset := fillL_set (chgM (rawG num den) l) l i hz.symm (by omega)
      rw [chgM_get] at hset
      have hwn := wrap_next hi (by omega)
      have htk := rOkL_take (num := num) (den := den) hi
      have hcl := (cellB_iff _).1 (List.all_eq_true.1 cl1 _ (List.getElem_mem hi))
      simp [intsO] at Hw
      obtain ⟨pre, hpre⟩ : ∃ q, rOkL num den (l.take i) = q := ⟨_, rfl⟩
      rw [hpre] at q9 htk
      rw [htk] at hn
      have hgs : ∀ v : Int, ((fillL (chgM (rawG num den) l) l i).set i v)[i]? = some v := fun v => by
        rw [List.getElem?_set_self (by rw [fillL_length _ _ _ hz.symm, hz]; exact hi)]
      by_cases hm : l[i] = -9999
      · have hkp := fillL_keep (chgM (rawG num den) l) l i hz.symm (by omega) (by rw [chgM_get, if_pos hm])
        simp [L139_0, R139_0, R139_1, R139_2, R139_3, R139_4, R139_5, R139_6, R139_7, R139_8, R139_9, Try.f139, lpL139_0, lpM139_0, M139_0, q1, q2, q3, q6, q8, q9, q10, Hi, Hr, Ho, Hw, hi, hm, hwn]
        refine hn _ ⟨?_, ?_, ?_, ?_, ?_, ?_, ?_, ?_, ?_, ?_, ?_⟩ <;> simp [q1, q2, q3, q6, q8, q9, Hi, Hr, Ho, Hw, intsO, hkp, hm]
      · have hmc : (l[i] == -9999) = false := by simpa using hm
        rw [if_neg hm] at hset
        have hb := mul_bnd (x := l[i]) (num := num) (by omega) hp'.1
        have hf := c_l4Floor (k + 8) (l[i] * num) den hp'.2 hb (by omega)
        rw [show l[i] * num / den = rawG num den l[i] from rfl] at hf
        have hwm : IntKind.i64.wrap (l[i] * num) = l[i] * num := wrap_small (by omega) (by omega)
        have hin := c_l1In (k + 8) (rawG num den l[i]) (-9000) 9000 (by omega)
        have hgs' := hgs (rawG num den l[i])
        rw [hset] at hgs'
        obtain ⟨v, hv⟩ : ∃ v, rawG num den l[i] = v := ⟨_, rfl⟩
        rw [hv] at hf hin hgs' hset
        rw [hv, hmc] at hn
        obtain ⟨c, hc⟩ : ∃ c, (decide (-9000 ≤ v) && decide (v ≤ 9000)) = c := ⟨_, rfl⟩
        rw [hc] at hin hn
        cases pre
        · simp [L139_0, R139_0, R139_1, R139_2, R139_3, R139_4, R139_5, R139_6, R139_7, R139_8, R139_9, Try.f139, lpL139_0, lpM139_0, M139_0, undef, q1, q2, q3, q6, q8, q9, q10, Hi, Hr, Ho, Hw, hi, hm, hmc, hwn, hwm, hf, hget, hset]
          refine hn _ ⟨?_, ?_, ?_, ?_, ?_, ?_, ?_, ?_, ?_, ?_, ?_⟩ <;> simp [q1, q2, q3, q6, q8, q9, Hi, Hr, Ho, intsO]
        · simp [L139_0, R139_0, R139_1, R139_2, R139_3, R139_4, R139_5, R139_6, R139_7, R139_8, R139_9, Try.f139, lpL139_0, lpM139_0, M139_0, undef, q1, q2, q3, q6, q8, q9, q10, Hi, Hr, Ho, Hw, hi, hm, hmc, hwn, hwm, hf, hget, hset, hgs', hin]
          refine hn _ ⟨?_, ?_, ?_, ?_, ?_, ?_, ?_, ?_, ?_, ?_, ?_⟩ <;> simp [q1, q2, q3, q6, q8, q9, Hi, Hr, Ho, intsO])
    (by
      rintro st next ⟨q1, q2, q3, q6, q8, q9, q10, Hi, Hr, Ho, Hw⟩
      have hfa := fillL_all (chgM (rawG num den) l) l (by omega)
      rw [hz] at hfa
      rw [List.take_length] at q9
      simp [intsO] at Hw
      simp [L139_0, R139_0, R139_1, R139_2, R139_3, R139_4, R139_5, R139_6, R139_7, R139_8, R139_9, Try.f139, lpL139_0, lpM139_0, M139_0, q1, q2, q3, q6, q8, q9, q10, Hi, Hr, Ho, Hw, intsO, hfa])
  simp [R139_0, R139_1, R139_2, R139_3, R139_4, R139_5, R139_6, R139_7, R139_8, R139_9, Try.f139, lpL139_0, lpM139_0, fldV, o1]
  generalize hr2 : loopRun _ _ _ _ = res
  obtain ⟨s1, rfl, f6, f8, f9, Hr, Ho, Hw⟩ := loop_at hL hr2 ⟨by simp, by simp, by simp, by simp, by simp, by simp [rOkL], by simp, by simp, by simp, by simp, by simp [fillL_zero, intsO]⟩
  simp [intsO] at Hw
  have hck := c_l4Checked (k + 8) w h (chgM (rawG num den) l) (rOkL num den l) (by omega)
  rw [hz] at hck
  cases hq : (rOkL num den l && goodB w h (chgM (rawG num den) l))
  · rw [hq] at hck
    simp [ownV, intsO, nilV] at hck
    simp [R139_0, R139_1, R139_2, R139_3, R139_4, R139_5, R139_6, R139_7, R139_8, R139_9, Try.f139, lpL139_0, lpM139_0, M139_0, f6, f8, f9, Hr, Ho, Hw, hck, optV, nilV]
  · rw [hq] at hck
    simp [ownV, intsO] at hck
    simp [R139_0, R139_1, R139_2, R139_3, R139_4, R139_5, R139_6, R139_7, R139_8, R139_9, Try.f139, lpL139_0, lpM139_0, M139_0, f6, f8, f9, Hr, Ho, Hw, hck, optV, ownV, intsO, hz]
theorem c_specScale (k : Nat) (b : Bool) (w h : Int) (l : List Int) (num den : Int) (hk : 700 ≤ k) : callK C k 51 [fldV b w h l, .c (.int .i64 num), .c (.int .i64 den)] [] = optV (scP num den && (goodB w h l && goodB w h (chgM (scG num den) l))) w h (chgM (scG num den) l) := by
  obtain ⟨k, rfl⟩ : ∃ m, k = m + 9 := ⟨k - 9, by omega⟩
  rw [callK_fn rfl F51 code51]
  have v1 := c_l2Good (k + 8) b w h l (by omega)
  have i1 := c_l1In (k + 8) num (-100) 100 (by omega)
  have i2 := c_l1In (k + 8) den 1 100 (by omega)
  simp [fldV] at v1
  cases hb : scP num den
  · simp only [scP] at hb
    obtain ⟨a, ha⟩ : ∃ a, (decide (-100 ≤ num) && decide (num ≤ 100)) = a := ⟨_, rfl⟩
    obtain ⟨c, hcc⟩ : ∃ a, (decide (1 ≤ den) && decide (den ≤ 100)) = a := ⟨_, rfl⟩
    obtain ⟨g, hg⟩ : ∃ a, goodB w h l = a := ⟨_, rfl⟩
    rw [ha, hcc] at hb
    rw [ha] at i1
    rw [hcc] at i2
    rw [hg] at v1
    cases g <;> cases a <;> cases c <;> simp at hb <;> simp [R51_0, R51_1, R51_2, R51_3, Try.f51, undef, fldV, v1, i1, i2, optV, nilV]
  · have hb' := hb
    simp only [scP, Bool.and_eq_true, decide_eq_true_eq] at hb'
    simp [hb'] at i1 i2
    cases hg : goodB w h l
    · rw [hg] at v1
      simp [R51_0, R51_1, R51_2, R51_3, Try.f51, undef, fldV, v1, i1, i2, optV, nilV]
    · rw [hg] at v1
      have hc := c_l4Scale (k + 8) b w h l num den hb hg (by omega)
      obtain ⟨a1, a2⟩ := sc_all (num := num) (den := den) hg
      have hz := chgM_length (rawG num den) l
      cases hr : rOkL num den l
      · rw [hr] at hc a1
        simp [optV, fldV, nilV] at hc
        simp [R51_0, R51_1, R51_2, R51_3, Try.f51, undef, fldV, v1, i1, i2, hc, a1, optV, nilV]
      · rw [hr] at hc a1
        have e := a2 hr
        rw [e] at a1
        rw [a1] at hc
        rw [e]
        simp [optV, fldV, ownV, intsO] at hc
        simp [R51_0, R51_1, R51_2, R51_3, Try.f51, undef, fldV, v1, i1, i2, hc, a1, optV, ownV, intsO, hz]

end Go.Proofs.Ytfdlllhcjfhknaa.Eng
