/- A deterministic reading of Go code over plain data: what functions of the program compute. No conditions. -/
import Derived.Test.YtfdlllhcjfhknaaLmbase
import Derived.Test.YtfdlllhcjfhknaaLmimpl
import Derived.Test.YtfdlllhcjfhknaaLmimplc
import Derived.Test.YtfdlllhcjfhknaaLmgood
import Derived.Test.YtfdlllhcjfhknaaLmspec
import Derived.Test.YtfdlllhcjfhknaaLmminmax
import Derived.Test.YtfdlllhcjfhknaaLmchanged
import Derived.Test.YtfdlllhcjfhknaaEngT
namespace Go.Proofs.Ytfdlllhcjfhknaa.Eng
open Go Go.Proofs
set_option maxRecDepth 100000
set_option maxHeartbeats 2000000
set_option linter.unusedSimpArgs false
set_option linter.unusedVariables false
attribute [local simp] finK fin1 hpOf xi renQ isRoot runCode runOps Eng.step wantedV astep val ofO made loadV storeV find V.cells bin binT un1 setAt fieldAddrV fieldV indexAddrV indexV bounds sliceV convV lenV foldV max2V min2V callO bor rdsO wrsO seen_none okD_none loops keepIds resV resultsV St.ev TK.agg refs refsL refsO V.one V.isC Value.oneCell' ren renL renO noTag noTagL noTagR noTagO nodup mapO passV frs psi refsR newD loopNext opsAt idx flatAt rootOf backR newsV appendV copyV clearV strV bytesOf nilCmp buildV fillF chunk
attribute [local simp] cT cF cX cWR cOW cK X ints_length ints_get ints_getElem ints_drop ints_take ints_append ints_nil ints_set
attribute [local simp] ints_replicate
attribute [local simp] putV_some putV_none putH_app applyD_nil applyD_cons seen_app gc_ρ gc_H gc_tick st0_ρ st0_H st0_tick retV callRo callV_if borL_nil borL_cons ints_snoc take_self callWr cutH_app findQ afterV exportV_0 exportV_n okD_nil okD_cons sub_seq0 sub_seq1 sub_cond0 sub_cond1 sub_block sub_loop sub_nil young_far young_none hidW_nil mayW_nil pairs okI ok_0 ok_1 ok_2
attribute [local simp] T3 T4 T5 T9 T22 T24 T26 T29 T36 T73 T75 T86 T89 T103 T104 T106 T108 T109 T111 T114 T118 T134 T136 T157 T161 T168
attribute [local simp] young_near clo cloF Region.binds Nat.testBit hidW declW mayW
def exG (lim x : Int) : Int := if x > lim then 1 else 0
theorem c_l4Exceeds (k : Nat) (b : Bool) (w h : Int) (l : List Int) (lim : Int) (h64 : l.length ≤ 64) (hk : 300 ≤ k) : callK C k 140 [fldV b w h l, .c (.int .i64 lim)] [] = some (ownV w h 0 2 l.length, hpOf [] [intsO (chgM (exG lim) l)]) := by
  obtain ⟨k, rfl⟩ : ∃ m, k = m + 9 := ⟨k - 9, by omega⟩
  rw [callK_fn rfl F140 code140]
  have hz := chgM_length (exG lim) l
  have o1 := c_l2Own (k + 8) b w h l (by omega) (by omega)
  simp [fldV, ownV, intsO] at o1
  have hL := loopHas (body := fun st => runCode C (callK C (k + 8)) (k + 8) (K 140) L140_0 1 st) (keep := [1, 2, 4, 5, 6]) (.ex 0) (fun st => st.ρ 4 = .p 32 1 3 0 0 ∧ st.ρ 5 = .p 1072 2 3 0 0 ∧ st.H 32 = some (1, ⟨29, 3, false, [[.c (.int .i64 0), .c (.int .i64 0), .c (.slice none 0 0)]]⟩) ∧ st.H 1072 = some (2, ⟨29, 3, false, [[.c (.int .i64 w), .c (.int .i64 h), .s 1056 2 1 0 l.length]]⟩) ∧ st.H 1056 = some (2, intsO (chgM (exG lim) l)))
    (fun i st => st.ρ 2 = .p 16 1 3 0 0 ∧ st.ρ 4 = .p 32 1 3 0 0 ∧ st.ρ 5 = .p 1072 2 3 0 0 ∧ st.ρ 6 = .c (.int .i64 (i : Int)) ∧ st.ρ 1 = .c (.int .i64 lim) ∧ st.H 16 = some (1, ⟨29, 3, false, [[.c (.int .i64 w), .c (.int .i64 h), .sq b true 1 (ints l)]]⟩) ∧ st.H 32 = some (1, ⟨29, 3, false, [[.c (.int .i64 0), .c (.int .i64 0), .c (.slice none 0 0)]]⟩) ∧ st.H 1072 = some (2, ⟨29, 3, false, [[.c (.int .i64 w), .c (.int .i64 h), .s 1056 2 1 0 l.length]]⟩) ∧ st.H 1056 = some (2, intsO (fillL (chgM (exG lim) l) l i)))
    l.length (k + 8) (by omega)
    (by
      rintro i st next hi ⟨qb, qr, qo, qi, p1, Hi, Hr, Ho, Hw⟩ hn
      have hget := fillL_get (chgM (exG lim) l) l i hz.symm (by omega)
      have hset := fillL_set (chgM (exG lim) l) l i hz.symm (by omega)
      rw [chgM_get] at hset
      have hwn := wrap_next hi (by omega)
      simp [intsO] at Hw
      by_cases hm : l[i] = -9999
      · have hkp := fillL_keep (chgM (exG lim) l) l i hz.symm (by omega) (by rw [chgM_get, if_pos hm])
        simp [L140_0, R140_0, R140_1, R140_2, R140_3, R140_4, R140_5, R140_6, R140_7, R140_8, R140_9, Try.f140, lpL140_0, lpM140_0, M140_0, qb, qr, qo, qi, p1, Hi, Hr, Ho, Hw, hi, hm, hwn]
        exact hn _ (by simp [qb, qr, qo, qi, p1, Hi, Hr, Ho, Hw, intsO, hkp])
      · have hmb : (l[i] != -9999) = true := by simpa using hm
        have hmc : (l[i] == -9999) = false := by simpa using hm
        rw [if_neg hm] at hset
        by_cases hg : l[i] > lim
        · have he : exG lim l[i] = 1 := if_pos hg
          rw [he] at hset
          simp [L140_0, R140_0, R140_1, R140_2, R140_3, R140_4, R140_5, R140_6, R140_7, R140_8, R140_9, Try.f140, lpL140_0, lpM140_0, M140_0, qb, qr, qo, qi, p1, Hi, Hr, Ho, Hw, hi, hm, hmb, hmc, hwn, hg, hget, hset]
          exact hn _ (by simp [qb, qr, qo, qi, p1, Hi, Hr, Ho, Hw, intsO])
        · have he : exG lim l[i] = 0 := if_neg hg
          rw [he] at hset
          simp [L140_0, R140_0, R140_1, R140_2, R140_3, R140_4, R140_5, R140_6, R140_7, R140_8, R140_9, Try.f140, lpL140_0, lpM140_0, M140_0, qb, qr, qo, qi, p1, Hi, Hr, Ho, Hw, hi, hm, hmb, hmc, hwn, hg, hget, hset]
          exact hn _ (by simp [qb, qr, qo, qi, p1, Hi, Hr, Ho, Hw, intsO]))
    (by
      rintro st next ⟨qb, qr, qo, qi, p1, Hi, Hr, Ho, Hw⟩
      have hfa := fillL_all (chgM (exG lim) l) l (by omega)
      rw [hz] at hfa
      simp [intsO] at Hw
      simp [L140_0, R140_0, R140_1, R140_2, R140_3, R140_4, R140_5, R140_6, R140_7, R140_8, R140_9, Try.f140, lpL140_0, lpM140_0, M140_0, qb, qr, qo, qi, p1, Hi, Hr, Ho, Hw, intsO, hfa])
  simp [R140_0, R140_1, R140_2, R140_3, R140_4, R140_5, R140_6, R140_7, R140_8, R140_9, Try.f140, lpL140_0, lpM140_0, fldV, o1]
  generalize hr2 : loopRun _ _ _ _ = res
  obtain ⟨s1, rfl, fr, fo, Hr, Ho, Hw⟩ := loop_at hL hr2 ⟨by simp, by simp, by simp, by simp, by simp, by simp, by simp, by simp, by simp [fillL_zero, intsO]⟩
  simp [intsO] at Hw
  simp [R140_0, R140_1, R140_2, R140_3, R140_4, R140_5, R140_6, R140_7, R140_8, R140_9, Try.f140, lpL140_0, lpM140_0, M140_0, fr, fo, Hr, Ho, Hw, hz, ownV, intsO]
def clG (lo hi x : Int) : Int := if lo > (if hi < x then hi else x) then lo else (if hi < x then hi else x)
def clB (lo hi : Int) : Bool := decide (lo ≤ hi) && ((decide (-9000 ≤ lo) && decide (lo ≤ 9000)) && (decide (-9000 ≤ hi) && decide (hi ≤ 9000)))
theorem c_specClip (k : Nat) (b : Bool) (w h : Int) (l : List Int) (lo hi0 : Int) (hg : goodB w h l = true) (hc : clB lo hi0 = true) (hk : 300 ≤ k) : callK C k 62 [fldV b w h l, .c (.int .i64 lo), .c (.int .i64 hi0)] [] = some (.tp [ownV w h 0 2 l.length, .c (.bool true)], hpOf [] [intsO (chgM (clG lo hi0) l)]) := by
  obtain ⟨k, rfl⟩ : ∃ m, k = m + 9 := ⟨k - 9, by omega⟩
  rw [callK_fn rfl F62 code62]
  obtain ⟨s1, n1, cl1, k1⟩ := good_length hg
  have hz := chgM_length (clG lo hi0) l
  have o1 := c_l2Own (k + 8) b w h l (by omega) (by omega)
  have v1 := c_l2Good (k + 8) b w h l (by omega)
  have i1 := c_l1In (k + 8) lo (-9000) 9000 (by omega)
  have i2 := c_l1In (k + 8) hi0 (-9000) 9000 (by omega)
  simp only [clB, Bool.and_eq_true, decide_eq_true_eq] at hc
  have hng : ¬ lo > hi0 := by omega
  rw [hg] at v1
  simp [hc] at i1 i2
  simp [fldV] at v1
  simp [fldV, ownV, intsO] at o1
  have hL := loopHas (body := fun st => runCode C (callK C (k + 8)) (k + 8) (K 62) L62_0 1 st) (keep := [1, 2, 3, 6, 8, 9]) (.ex 0) (fun st => st.ρ 6 = .p 32 1 3 0 0 ∧ st.ρ 8 = .p 3120 3 3 0 0 ∧ st.H 32 = some (1, ⟨29, 3, false, [[.c (.int .i64 0), .c (.int .i64 0), .c (.slice none 0 0)]]⟩) ∧ st.H 3120 = some (3, ⟨29, 3, false, [[.c (.int .i64 w), .c (.int .i64 h), .s 3104 3 1 0 l.length]]⟩) ∧ st.H 3104 = some (3, intsO (chgM (clG lo hi0) l)))
    (fun i st => st.ρ 3 = .p 16 1 3 0 0 ∧ st.ρ 6 = .p 32 1 3 0 0 ∧ st.ρ 8 = .p 3120 3 3 0 0 ∧ st.ρ 9 = .c (.int .i64 (i : Int)) ∧ st.ρ 1 = .c (.int .i64 lo) ∧ st.ρ 2 = .c (.int .i64 hi0) ∧ st.H 16 = some (1, ⟨29, 3, false, [[.c (.int .i64 w), .c (.int .i64 h), .sq b true 1 (ints l)]]⟩) ∧ st.H 32 = some (1, ⟨29, 3, false, [[.c (.int .i64 0), .c (.int .i64 0), .c (.slice none 0 0)]]⟩) ∧ st.H 3120 = some (3, ⟨29, 3, false, [[.c (.int .i64 w), .c (.int .i64 h), .s 3104 3 1 0 l.length]]⟩) ∧ st.H 3104 = some (3, intsO (fillL (chgM (clG lo hi0) l) l i)))
    l.length (k + 8) (by omega)
    (by
      rintro i st next hi ⟨qb, qr, qo, qi, p1, p2, Hi, Hr, Ho, Hw⟩ hn
      have hget := fillL_get (chgM (clG lo hi0) l) l i hz.symm (by omega)
      have hset := fillL_set (chgM (clG lo hi0) l) l i hz.symm (by omega)
      rw [chgM_get] at hset
      have hwn := wrap_next hi (by omega)
      simp [intsO] at Hw
      by_cases hm : l[i] = -9999
      · have hkp := fillL_keep (chgM (clG lo hi0) l) l i hz.symm (by omega) (by rw [chgM_get, if_pos hm])
        simp [L62_0, R62_0, R62_1, R62_2, R62_3, R62_4, R62_5, R62_6, R62_7, R62_8, R62_9, Try.f62, lpL62_0, lpM62_0, M62_0, qb, qr, qo, qi, p1, p2, Hi, Hr, Ho, Hw, hi, hm, hwn]
        exact hn _ (by simp [qb, qr, qo, qi, p1, p2, Hi, Hr, Ho, Hw, intsO, hkp])
      · have hmb : (l[i] != -9999) = true := by simpa using hm
        have hmc : (l[i] == -9999) = false := by simpa using hm
        rw [if_neg hm] at hset
        have m1 := c_l1Least (k + 8) hi0 l[i] (by omega)
        have m2 := c_l1Most (k + 8) lo (if hi0 < l[i] then hi0 else l[i]) (by omega)
        rw [show (clG lo hi0 l[i]) = (if lo > (if hi0 < l[i] then hi0 else l[i]) then lo else (if hi0 < l[i] then hi0 else l[i])) from rfl] at hset
        simp at m1 m2
        try simp at hset
        simp [L62_0, R62_0, R62_1, R62_2, R62_3, R62_4, R62_5, R62_6, R62_7, R62_8, R62_9, Try.f62, lpL62_0, lpM62_0, M62_0, qb, qr, qo, qi, p1, p2, Hi, Hr, Ho, Hw, hi, hm, hmb, hmc, hwn, m1, m2, hget, hset]
        exact hn _ (by simp [qb, qr, qo, qi, p1, p2, Hi, Hr, Ho, Hw, intsO]))
    (by
      rintro st next ⟨qb, qr, qo, qi, p1, p2, Hi, Hr, Ho, Hw⟩
      have hfa := fillL_all (chgM (clG lo hi0) l) l (by omega)
      rw [hz] at hfa
      simp [intsO] at Hw
      simp [L62_0, R62_0, R62_1, R62_2, R62_3, R62_4, R62_5, R62_6, R62_7, R62_8, R62_9, Try.f62, lpL62_0, lpM62_0, M62_0, qb, qr, qo, qi, p1, p2, Hi, Hr, Ho, Hw, intsO, hfa])
  simp [R62_0, R62_1, R62_2, R62_3, R62_4, R62_5, R62_6, R62_7, R62_8, R62_9, Try.f62, lpL62_0, lpM62_0, fldV, o1, v1, i1, i2, hng, undef]
  generalize hr2 : loopRun _ _ _ _ = res
  obtain ⟨s1, rfl, fr, fo, Hr, Ho, Hw⟩ := loop_at hL hr2 ⟨by simp, by simp, by simp, by simp, by simp, by simp, by simp, by simp, by simp, by simp [fillL_zero, intsO]⟩
  simp [intsO] at Hw
  simp [R62_0, R62_1, R62_2, R62_3, R62_4, R62_5, R62_6, R62_7, R62_8, R62_9, Try.f62, lpL62_0, lpM62_0, M62_0, fr, fo, Hr, Ho, Hw, hz, ownV, intsO]
theorem c_specClipNo (k : Nat) (b : Bool) (w h : Int) (l : List Int) (lo hi0 : Int) (hc : (goodB w h l && clB lo hi0) = false) (hk : 300 ≤ k) : callK C k 62 [fldV b w h l, .c (.int .i64 lo), .c (.int .i64 hi0)] [] = some (.tp [nilV, .c (.bool false)], hpOf [] []) := by
  obtain ⟨k, rfl⟩ : ∃ m, k = m + 9 := ⟨k - 9, by omega⟩
  rw [callK_fn rfl F62 code62]
  have v1 := c_l2Good (k + 8) b w h l (by omega)
  have i1 := c_l1In (k + 8) lo (-9000) 9000 (by omega)
  have i2 := c_l1In (k + 8) hi0 (-9000) 9000 (by omega)
  simp only [clB] at hc
  obtain ⟨g, hg⟩ : ∃ g, goodB w h l = g := ⟨_, rfl⟩
  obtain ⟨a, ha⟩ : ∃ a, (decide (-9000 ≤ lo) && decide (lo ≤ 9000)) = a := ⟨_, rfl⟩
  obtain ⟨c, hcc⟩ : ∃ a, (decide (-9000 ≤ hi0) && decide (hi0 ≤ 9000)) = a := ⟨_, rfl⟩
  rw [hg, ha, hcc] at hc
  rw [hg] at v1
  rw [ha] at i1
  rw [hcc] at i2
  simp [fldV] at v1
  by_cases hng : lo > hi0
  · cases g <;> cases a <;> cases c <;> simp [R62_0, R62_1, R62_2, R62_3, R62_4, R62_5, R62_6, R62_7, R62_8, R62_9, Try.f62, lpL62_0, lpM62_0, M62_0, fldV, v1, i1, i2, hng, nilV, undef]
  · have : decide (lo ≤ hi0) = true := by simp; omega
    rw [this] at hc
    cases g <;> cases a <;> cases c <;> simp at hc <;> simp [R62_0, R62_1, R62_2, R62_3, R62_4, R62_5, R62_6, R62_7, R62_8, R62_9, Try.f62, lpL62_0, lpM62_0, M62_0, fldV, v1, i1, i2, hng, nilV, undef]
def abG (x : Int) : Int := if x > -x then x else -x
theorem c_specAbs (k : Nat) (b : Bool) (w h : Int) (l : List Int) (hg : goodB w h l = true) (hk : 300 ≤ k) : callK C k 65 [fldV b w h l] [] = some (.tp [ownV w h 0 2 l.length, .c (.bool true)], hpOf [] [intsO (chgM abG l)]) := by
  obtain ⟨k, rfl⟩ : ∃ m, k = m + 9 := ⟨k - 9, by omega⟩
  rw [callK_fn rfl F65 code65]
  obtain ⟨s1, n1, cl1, k1⟩ := good_length hg
  have hz := chgM_length abG l
  have o1 := c_l2Own (k + 8) b w h l (by omega) (by omega)
  have v1 := c_l2Good (k + 8) b w h l (by omega)
  rw [hg] at v1
  simp [fldV] at v1
  simp [fldV, ownV, intsO] at o1
  have hL := loopHas (body := fun st => runCode C (callK C (k + 8)) (k + 8) (K 65) L65_0 1 st) (keep := [1, 2, 4, 5]) (.ex 0) (fun st => st.ρ 2 = .p 32 1 3 0 0 ∧ st.ρ 4 = .p 3120 3 3 0 0 ∧ st.H 32 = some (1, ⟨29, 3, false, [[.c (.int .i64 0), .c (.int .i64 0), .c (.slice none 0 0)]]⟩) ∧ st.H 3120 = some (3, ⟨29, 3, false, [[.c (.int .i64 w), .c (.int .i64 h), .s 3104 3 1 0 l.length]]⟩) ∧ st.H 3104 = some (3, intsO (chgM abG l)))
    (fun i st => st.ρ 1 = .p 16 1 3 0 0 ∧ st.ρ 2 = .p 32 1 3 0 0 ∧ st.ρ 4 = .p 3120 3 3 0 0 ∧ st.ρ 5 = .c (.int .i64 (i : Int)) ∧ st.H 16 = some (1, ⟨29, 3, false, [[.c (.int .i64 w), .c (.int .i64 h), .sq b true 1 (ints l)]]⟩) ∧ st.H 32 = some (1, ⟨29, 3, false, [[.c (.int .i64 0), .c (.int .i64 0), .c (.slice none 0 0)]]⟩) ∧ st.H 3120 = some (3, ⟨29, 3, false, [[.c (.int .i64 w), .c (.int .i64 h), .s 3104 3 1 0 l.length]]⟩) ∧ st.H 3104 = some (3, intsO (fillL (chgM abG l) l i)))
    l.length (k + 8) (by omega)
    (by
      rintro i st next hi ⟨qb, qr, qo, qi, Hi, Hr, Ho, Hw⟩ hn
      have hget := fillL_get (chgM abG l) l i hz.symm (by omega)
      have hset := fillL_set (chgM abG l) l i hz.symm (by omega)
      rw [chgM_get] at hset
      have hwn := wrap_next hi (by omega)
      simp [intsO] at Hw
      by_cases hm : l[i] = -9999
      · have hkp := fillL_keep (chgM abG l) l i hz.symm (by omega) (by rw [chgM_get, if_pos hm])
        simp [L65_0, R65_0, R65_1, R65_2, R65_3, R65_4, R65_5, R65_6, R65_7, R65_8, R65_9, Try.f65, lpL65_0, lpM65_0, M65_0, qb, qr, qo, qi, Hi, Hr, Ho, Hw, hi, hm, hwn]
        exact hn _ (by simp [qb, qr, qo, qi, Hi, Hr, Ho, Hw, intsO, hkp])
      · have hmb : (l[i] != -9999) = true := by simpa using hm
        have hmc : (l[i] == -9999) = false := by simpa using hm
        rw [if_neg hm] at hset
        have hcl := List.all_eq_true.1 cl1 _ (List.getElem_mem hi)
        have hbd : -9999 ≤ l[i] ∧ l[i] ≤ 9000 := by simp only [cellB, Bool.or_eq_true, beq_iff_eq, Bool.and_eq_true, decide_eq_true_eq] at hcl; omega
        have hwr : IntKind.i64.wrap (-l[i]) = -l[i] := wrap_small (by omega) (by omega)
        have m2 := c_l1Most (k + 8) l[i] (-l[i]) (by omega)
        rw [show abG l[i] = (if l[i] > -l[i] then l[i] else -l[i]) from rfl] at hset
        simp at m2
        try simp at hset
        simp [L65_0, R65_0, R65_1, R65_2, R65_3, R65_4, R65_5, R65_6, R65_7, R65_8, R65_9, Try.f65, lpL65_0, lpM65_0, M65_0, qb, qr, qo, qi, Hi, Hr, Ho, Hw, hi, hm, hmb, hmc, hwn, hwr, m2, hget, hset]
        exact hn _ (by simp [qb, qr, qo, qi, Hi, Hr, Ho, Hw, intsO]))
    (by
      rintro st next ⟨qb, qr, qo, qi, Hi, Hr, Ho, Hw⟩
      have hfa := fillL_all (chgM abG l) l (by omega)
      rw [hz] at hfa
      simp [intsO] at Hw
      simp [L65_0, R65_0, R65_1, R65_2, R65_3, R65_4, R65_5, R65_6, R65_7, R65_8, R65_9, Try.f65, lpL65_0, lpM65_0, M65_0, qb, qr, qo, qi, Hi, Hr, Ho, Hw, intsO, hfa])
  simp [R65_0, R65_1, R65_2, R65_3, R65_4, R65_5, R65_6, R65_7, R65_8, R65_9, Try.f65, lpL65_0, lpM65_0, fldV, o1, v1]
  generalize hr2 : loopRun _ _ _ _ = res
  obtain ⟨s1, rfl, fr, fo, Hr, Ho, Hw⟩ := loop_at hL hr2 ⟨by simp, by simp, by simp, by simp, by simp, by simp, by simp, by simp [fillL_zero, intsO]⟩
  simp [intsO] at Hw
  simp [R65_0, R65_1, R65_2, R65_3, R65_4, R65_5, R65_6, R65_7, R65_8, R65_9, Try.f65, lpL65_0, lpM65_0, M65_0, fr, fo, Hr, Ho, Hw, hz, ownV, intsO]
theorem c_specAbsNo (k : Nat) (b : Bool) (w h : Int) (l : List Int) (hg : goodB w h l = false) (hk : 300 ≤ k) : callK C k 65 [fldV b w h l] [] = some (.tp [nilV, .c (.bool false)], hpOf [] []) := by
  obtain ⟨k, rfl⟩ : ∃ m, k = m + 9 := ⟨k - 9, by omega⟩
  rw [callK_fn rfl F65 code65]
  have v1 := c_l2Good (k + 8) b w h l (by omega)
  rw [hg] at v1
  simp [fldV] at v1
  simp [R65_0, R65_1, R65_2, R65_3, R65_4, R65_5, R65_6, R65_7, R65_8, R65_9, Try.f65, lpL65_0, lpM65_0, M65_0, fldV, v1, nilV]

end Go.Proofs.Ytfdlllhcjfhknaa.Eng
