/- A deterministic reading of Go code over plain data: what functions of the program compute, and what its laws come to. No conditions. -/
import Derived.Test.YtalpgpjhloohfaaDoorEngT
import Derived.Lib.IndexLaws
import Derived.Test.YtalpgpjhloohfaaDoorLmmf1
namespace Go.Proofs.YtalpgpjhloohfaaDoor.Eng
open Go Go.Proofs
set_option maxRecDepth 100000
set_option maxHeartbeats 2000000
set_option linter.unusedSimpArgs false
set_option linter.unusedVariables false
attribute [local simp] finK fin1 hpOf xi renQ isRoot runCode runOps Eng.step wantedV astep val ofO made loadV storeV find V.cells bin binT binA numT numFs eqCells un1 setAt fieldAddrV fieldV indexAddrV indexV bounds sliceV convV lenV foldV max2V min2V callO bor rdsO wrsO seen_none okD_none loops keepIds resV resultsV St.ev TK.agg refs refsL refsO V.one V.isC Value.oneCell' ren renL renO noTag noTagL noTagR noTagO nodup mapO passV frs psi refsR newD loopNext opsAt idx flatAt rootOf backR newsV appendV copyV clearV strV bytesV bldV bufV selfV bytesOf nilCmp buildV fillF chunk
attribute [local simp] cT cF cX cWR cOW cK cBL X ints_length ints_get ints_getElem ints_drop ints_take ints_append ints_nil ints_set
attribute [local simp] ints_replicate
attribute [local simp] putV_some putV_none putH_app applyD_nil applyD_cons seen_app gc_ρ gc_H gc_tick st0_ρ st0_H st0_tick retV callRo callV_if borL_nil borL_cons ints_snoc take_self callWr cutH_app findQ afterV exportV_0 exportV_n okD_nil okD_cons sub_seq0 sub_seq1 sub_cond0 sub_cond1 sub_block sub_loop sub_nil young_far young_none hidW_nil mayW_nil pairs okI ok_0 ok_1 ok_2
attribute [local simp] T3 T4 T5 T9 T22 T28 T32 T55 T57 T63 T64 T66 T70 T72
attribute [local simp] young_near clo cloF Region.binds Nat.testBit hidW declW mayW
theorem ints_cons (a : Int) (l : List Int) : ints (a :: l) = [.c (.int .i64 a)] :: ints l := rfl
theorem ints_0 : ints [] = [] := rfl
theorem ok_cons (ty : TypeId) (sz : Nat) (fl : Bool) (e : List V) (es : List (List V)) : okObj ⟨ty, sz, fl, e :: es⟩ = ((e.length == sz && e.all fun x => x.one && (!fl || x.isC)) && okObj ⟨ty, sz, fl, es⟩) := by simp [okObj]
def u8s (l : List Int) : List (List V) := l.map fun n => [.c (.int .u8 n)]
theorem u8s_length (l : List Int) : (u8s l).length = l.length := by simp [u8s]
theorem u8s_get (l : List Int) (i : Nat) (h : i < l.length) : (u8s l)[i]? = some [.c (.int .u8 l[i])] := by simp [u8s, h]
theorem u8s_getElem (l : List Int) (i : Nat) (h : i < (u8s l).length) : (u8s l)[i] = [.c (.int .u8 (l[i]'(by simpa [u8s] using h)))] := by simp [u8s]
/-- A row of choices that is read. -/
structure Cur where
  l : List Int
  n : Nat
  seed : Int
def curE (c : Cur) : List V := [.sq false true 1 (u8s c.l), .c (.int .i64 (c.n : Int)), .c (.int .u64 c.seed)]
def curO (c : Cur) : Eng.Obj := ⟨66, 3, false, [curE c]⟩
structure Cur.P (c : Cur) (m : Nat) : Prop where
  by8 : ∀ x ∈ c.l, 0 ≤ x ∧ x ≤ 255
  len : c.l.length ≤ maxLen
  le : c.n ≤ m
theorem and255 (x : Int) : ∃ r : Int, IntKind.u64.wrap (((BitVec.ofInt IntKind.u64.bits x &&& BitVec.ofInt IntKind.u64.bits 255).toNat : Nat) : Int) = r ∧ 0 ≤ r ∧ r ≤ 255 := by
  refine ⟨_, rfl, ?_⟩
  have h : (BitVec.ofInt IntKind.u64.bits x &&& BitVec.ofInt IntKind.u64.bits 255).toNat ≤ 255 := by
    rw [BitVec.toNat_and]
    have : (BitVec.ofInt IntKind.u64.bits 255).toNat = 255 := rfl
    rw [this]
    exact Nat.and_le_right
  have h2 : IntKind.u64.wrap (((BitVec.ofInt IntKind.u64.bits x &&& BitVec.ofInt IntKind.u64.bits 255).toNat : Nat) : Int) = (((BitVec.ofInt IntKind.u64.bits x &&& BitVec.ofInt IntKind.u64.bits 255).toNat : Nat) : Int) := by
    show (((BitVec.ofInt IntKind.u64.bits x &&& BitVec.ofInt IntKind.u64.bits 255).toNat : Nat) : Int) % 18446744073709551616 = _
    omega
  rw [h2]
  omega
theorem c_next (k : Nat) (c : Cur) (m : Nat) (h : c.P m) (hm : m ≤ 1000000000000) (hk : 1 ≤ k) : ∃ (r : Int) (c' : Cur), callK C k 81 [.p 0 0 3 0 0] [curO c] = some (.c (.int .i64 r), hpOf [some (curO c')] []) ∧ 0 ≤ r ∧ r ≤ 255 ∧ c'.P (m + 1) := by
  obtain ⟨k, rfl⟩ : ∃ m, k = m + 1 := ⟨k - 1, by omega⟩
  rw [callK_fn rfl F81 code81]
  obtain ⟨hb, hl, hle⟩ := h
  unfold maxLen at hl
  have hw : IntKind.i64.wrap ((c.n : Int) + 1) = (c.n : Int) + 1 := wrap_small (by omega) (by omega)
  by_cases hlt : c.n < c.l.length
  · have hg := u8s_get c.l c.n hlt
    have hr := hb c.l[c.n] (by simp)
    have hle : c.n + 1 ≤ c.l.length := by omega
    have hle' : (c.n : Int) + 1 ≤ (c.l.length : Int) := by omega
    have hw2 : IntKind.i64.wrap c.l[c.n] = c.l[c.n] := wrap_small (by omega) (by omega)
    refine ⟨c.l[c.n], ⟨c.l, c.n + 1, IntKind.u64.wrap (IntKind.u64.wrap (IntKind.u64.wrap (c.seed * 6364136223846793005) + IntKind.u64.wrap c.l[c.n]) + 889889)⟩, ?_, hr.1, hr.2, ⟨hb, by unfold maxLen; exact hl, by simp; omega⟩⟩
    simp [R81_0, R81_1, R81_2, R81_3, R81_4, R81_5, R81_6, R81_7, R81_8, Tryd.f81, curO, curE, u8s_length, u8s_getElem, hlt, hg, hw, hw2, hle']
  · have hnle : ¬ (c.n : Int) + 1 ≤ (c.l.length : Int) := by omega
    have hnlt : ¬ (c.n : Int) < (c.l.length : Int) := by omega
    obtain ⟨r, hr, hr1, hr2⟩ := and255 ((IntKind.u64.wrap (IntKind.u64.wrap (IntKind.u64.wrap (c.seed * 6364136223846793005) + IntKind.u64.wrap 0) + 889889)).fdiv (2 ^ min 40 IntKind.u64.bits))
    simp at hr
    have hwr : IntKind.i64.wrap r = r := wrap_small (by omega) (by omega)
    refine ⟨r, ⟨c.l, c.n + 1, IntKind.u64.wrap (IntKind.u64.wrap (IntKind.u64.wrap (c.seed * 6364136223846793005) + IntKind.u64.wrap 0) + 889889)⟩, ?_, hr1, hr2, ⟨hb, by unfold maxLen; exact hl, by simp; omega⟩⟩
    simp [R81_0, R81_1, R81_2, R81_3, R81_4, R81_5, R81_6, R81_7, R81_8, Tryd.f81, curO, curE, u8s_length, hlt, hnlt, hw, hnle, hr, hwr]
theorem c_pick (k : Nat) (c : Cur) (m : Nat) (n : Int) (h : c.P m) (hm : m ≤ 1000000000) (hn : n ≤ 1000000000) (hk : 2 ≤ k) : ∃ (r : Int) (c' : Cur), callK C k 45 [.p 0 0 3 0 0, .c (.int .i64 n)] [curO c] = some (.c (.int .i64 r), hpOf [some (curO c')] []) ∧ 0 ≤ r ∧ (r < n ∨ (r = 0 ∧ n ≤ 1)) ∧ c'.P (m + 2) := by
  obtain ⟨k, rfl⟩ : ∃ m, k = m + 1 := ⟨k - 1, by omega⟩
  rw [callK_fn rfl F45 code45]
  by_cases h1 : n ≤ 1
  · refine ⟨0, c, ?_, by omega, .inr ⟨rfl, h1⟩, ⟨h.by8, h.len, by have := h.le; omega⟩⟩
    simp [R45_0, R45_1, R45_2, R45_3, R45_4, R45_5, R45_6, Tryd.f45, curO, curE, h1]
  · obtain ⟨r1, c1, e1, r1a, r1b, p1⟩ := c_next k c m h (by omega) (by omega)
    obtain ⟨r2, c2, e2, r2a, r2b, p2⟩ := c_next k c1 (m + 1) p1 (by omega) (by omega)
    simp [curO, curE] at e1 e2
    by_cases h2 : n > 200
    · have hw1 : IntKind.i64.wrap (r1 * 256) = r1 * 256 := wrap_small (by omega) (by omega)
      have hw2 : IntKind.i64.wrap (r1 * 256 + r2) = r1 * 256 + r2 := wrap_small (by omega) (by omega)
      have hm1 := Int.tmod_nonneg n (by omega : 0 ≤ r1 * 256 + r2)
      have hm2 := Int.tmod_lt_of_pos (r1 * 256 + r2) (by omega : 0 < n)
      have hn0 : ¬ n = 0 := by omega
      refine ⟨(r1 * 256 + r2).tmod n, c2, ?_, hm1, .inl hm2, p2⟩
      simp [R45_0, R45_1, R45_2, R45_3, R45_4, R45_5, R45_6, Tryd.f45, curO, curE, h1, h2, e1, e2, hw1, hw2, hn0]
    · have hm1 := Int.tmod_nonneg n r1a
      have hm2 := Int.tmod_lt_of_pos r1 (by omega : 0 < n)
      have hn0 : ¬ n = 0 := by omega
      refine ⟨r1.tmod n, c1, ?_, hm1, .inl hm2, ⟨p1.by8, p1.len, by have := p1.le; omega⟩⟩
      simp [R45_0, R45_1, R45_2, R45_3, R45_4, R45_5, R45_6, Tryd.f45, curO, curE, h1, h2, e1, hn0]
theorem c_one (k : Nat) (c : Cur) (m : Nat) (n : Int) (h : c.P m) (hm : m ≤ 1000000000) (hn : n ≤ 1000000000) (hk : 3 ≤ k) : ∃ (r : Bool) (c' : Cur), callK C k 49 [.p 0 0 3 0 0, .c (.int .i64 n)] [curO c] = some (.c (.bool r), hpOf [some (curO c')] []) ∧ c'.P (m + 2) := by
  obtain ⟨k, rfl⟩ : ∃ m, k = m + 1 := ⟨k - 1, by omega⟩
  rw [callK_fn rfl F49 code49]
  obtain ⟨r1, c1, e1, r1a, r1b, p1⟩ := c_pick k c m n h (by omega) (by omega) (by omega)
  simp [curO, curE] at e1
  refine ⟨r1 == 0, c1, ?_, p1⟩
  simp [R49_0, R49_1, Tryd.f49, curO, curE, e1]
theorem c_among (k : Nat) (c : Cur) (m : Nat) (b : Bool) (l : List Int) (h : c.P m) (hm : m ≤ 1000000000) (h0 : 0 < l.length) (hl : l.length ≤ 1000000000) (hk : 3 ≤ k) : ∃ (i : Nat) (hi : i < l.length) (c' : Cur), callK C k 44 [.p 0 0 3 0 0, .sq b true 1 (ints l)] [curO c] = some (.c (.int .i64 l[i]), hpOf [some (curO c')] []) ∧ c'.P (m + 2) := by
  obtain ⟨k, rfl⟩ : ∃ m, k = m + 1 := ⟨k - 1, by omega⟩
  rw [callK_fn rfl F44 code44]
  obtain ⟨r1, c1, e1, r1a, r1b, p1⟩ := c_pick k c m l.length h (by omega) (by omega) (by omega)
  have hlt : r1 < l.length := by omega
  obtain ⟨i, rfl⟩ : ∃ i : Nat, r1 = i := ⟨r1.toNat, by omega⟩
  have hi : i < l.length := by omega
  simp [curO, curE] at e1
  refine ⟨i, hi, c1, ?_, p1⟩
  simp [R44_0, R44_1, Tryd.f44, curO, curE, e1, hi]

end Go.Proofs.YtalpgpjhloohfaaDoor.Eng
namespace Go.Proofs.YtalpgpjhloohfaaDoor.Eng
open Go Go.Proofs
set_option maxRecDepth 100000
set_option maxHeartbeats 2000000
set_option linter.unusedSimpArgs false
set_option linter.unusedVariables false
attribute [local simp] finK fin1 hpOf xi renQ isRoot runCode runOps Eng.step wantedV astep val ofO made loadV storeV find V.cells bin binT binA numT numFs eqCells un1 setAt fieldAddrV fieldV indexAddrV indexV bounds sliceV convV lenV foldV max2V min2V callO bor rdsO wrsO seen_none okD_none loops keepIds resV resultsV St.ev TK.agg refs refsL refsO V.one V.isC Value.oneCell' ren renL renO noTag noTagL noTagR noTagO nodup mapO passV frs psi refsR newD loopNext opsAt idx flatAt rootOf backR newsV appendV copyV clearV strV bytesV bldV bufV selfV bytesOf nilCmp buildV fillF chunk
attribute [local simp] cT cF cX cWR cOW cK cBL X ints_length ints_get ints_getElem ints_drop ints_take ints_append ints_nil ints_set
attribute [local simp] ints_replicate
attribute [local simp] putV_some putV_none putH_app applyD_nil applyD_cons seen_app gc_ρ gc_H gc_tick st0_ρ st0_H st0_tick retV callRo callV_if borL_nil borL_cons ints_snoc take_self callWr cutH_app findQ afterV exportV_0 exportV_n okD_nil okD_cons sub_seq0 sub_seq1 sub_cond0 sub_cond1 sub_block sub_loop sub_nil young_far young_none hidW_nil mayW_nil pairs okI ok_0 ok_1 ok_2
attribute [local simp] T3 T4 T5 T9 T22 T28 T32 T55 T57 T63 T64 T66 T70 T72
theorem c_vBig (k : Nat) (code : List Int) (hk : 1 ≤ k) : callK C k 12 [.sq false true 1 (u8s code)] [] = some (.c (.bool (decide (65536 < code.length))), hpOf [] []) := by
  obtain ⟨k, rfl⟩ : ∃ m, k = m + 1 := ⟨k - 1, by omega⟩
  rw [callK_fn rfl F12 code12]
  have : ((65536 : Int) < (code.length : Int)) = (65536 < code.length) := by apply propext; omega
  simp [R12_0, R12_1, Tryd.f12, u8s_length, this]
def cOk (w h : Int) (l : List Int) (x y : Int) : Bool := goodB w h l && hasB w h x y
theorem c_CellAt (k : Nat) (w h : Int) (l : List Int) (x y : Int) (hk : 400 ≤ k) : callK C k 34 [fldV true w h l, .c (.int .i64 x), .c (.int .i64 y)] [] = some (.tp [.c (.int .i64 (if cOk w h l x y then cellOf l w x y else 0)), .c (.bool (cOk w h l x y))], hpOf [] []) := by
  obtain ⟨k, rfl⟩ : ∃ m, k = m + 9 := ⟨k - 9, by omega⟩
  rw [callK_fn rfl F34 code34]
  have hv := c_IsValidField (k + 8) true w h l (by omega)
  unfold cOk
  cases hg : goodB w h l
  · rw [hg] at hv
    simp [fldV] at hv
    simp [R34_0, R34_1, R34_2, R34_3, Tryd.f34, fldV, hv]
  · rw [hg] at hv
    obtain ⟨s1, n1, cl1, k1⟩ := good_length hg
    obtain ⟨_, _, p1, p2, p3, p4⟩ := shape_area s1
    have hc := c_hasCell (k + 8) true w h l x y ⟨p1, p2⟩ ⟨p3, p4⟩ (by omega)
    simp [fldV] at hv
    cases hh : hasB w h x y
    · rw [hh] at hc
      simp [fldV] at hc
      simp [R34_0, R34_1, R34_2, R34_3, Tryd.f34, fldV, hv, hc]
    · rw [hh] at hc
      simp [fldV] at hc
      have hb : 0 ≤ x ∧ x < w ∧ 0 ≤ y ∧ y < h := by
        simp only [hasB, Bool.and_eq_true, decide_eq_true_eq] at hh
        omega
      obtain ⟨h1, h2, h3, h4⟩ := cell_ix (x := x) (y := y) n1 hb.1 hb.2.1 hb.2.2.1 hb.2.2.2
      have w1 : IntKind.i64.wrap (y * w) = y * w := wrap_small (by omega) (by omega)
      have w2 : IntKind.i64.wrap (y * w + x) = y * w + x := wrap_small (by omega) (by omega)
      simp [R34_0, R34_1, R34_2, R34_3, Tryd.f34, fldV, hv, hc, w1, w2, h1, h4]

end Go.Proofs.YtalpgpjhloohfaaDoor.Eng
namespace Go.Proofs.YtalpgpjhloohfaaDoor.Eng
open Go Go.Proofs
set_option maxRecDepth 100000
set_option maxHeartbeats 2000000
set_option linter.unusedSimpArgs false
set_option linter.unusedVariables false
attribute [local simp] finK fin1 hpOf xi renQ isRoot runCode runOps Eng.step wantedV astep val ofO made loadV storeV find V.cells bin binT binA numT numFs eqCells un1 setAt fieldAddrV fieldV indexAddrV indexV bounds sliceV convV lenV foldV max2V min2V callO bor rdsO wrsO seen_none okD_none loops keepIds resV resultsV St.ev TK.agg refs refsL refsO V.one V.isC Value.oneCell' ren renL renO noTag noTagL noTagR noTagO nodup mapO passV frs psi refsR newD loopNext opsAt idx flatAt rootOf backR newsV appendV copyV clearV strV bytesV bldV bufV selfV bytesOf nilCmp buildV fillF chunk
attribute [local simp] cT cF cX cWR cOW cK cBL X ints_length ints_get ints_getElem ints_drop ints_take ints_append ints_nil ints_set
attribute [local simp] ints_replicate
attribute [local simp] putV_some putV_none putH_app applyD_nil applyD_cons seen_app gc_ρ gc_H gc_tick st0_ρ st0_H st0_tick retV callRo callV_if borL_nil borL_cons ints_snoc take_self callWr cutH_app findQ afterV exportV_0 exportV_n okD_nil okD_cons sub_seq0 sub_seq1 sub_cond0 sub_cond1 sub_block sub_loop sub_nil young_far young_none hidW_nil mayW_nil pairs okI ok_0 ok_1 ok_2
attribute [local simp] T3 T4 T5 T9 T22 T28 T32 T55 T57 T63 T64 T66 T70 T72
attribute [local simp] young_near clo cloF Region.binds Nat.testBit hidW declW mayW
/-- A list that grows in a slot: nothing yet, or an object. -/
def Gw (id : Nat) (v : V) (H : Hp) (acc : List Int) : Prop := (acc = [] ∧ v = .c (.slice none 0 0)) ∨ (acc ≠ [] ∧ ∃ tk, v = .s id tk 1 0 acc.length ∧ H id = some (tk, intsO acc))
theorem c_l2Fill (k : Nat) (w h v : Int) (n : Nat) (hn : w * h = n) (h0 : 0 < n) (h64 : n ≤ 64) (hk : 200 ≤ k) : callK C k 94 [.c (.int .i64 w), .c (.int .i64 h), .c (.int .i64 v)] [] = some (.ag [.c (.int .i64 w), .c (.int .i64 h), .s 0 2 1 0 n], hpOf [] [intsO (List.replicate n v)]) := by
  obtain ⟨k, rfl⟩ : ∃ m, k = m + 9 := ⟨k - 9, by omega⟩
  rw [callK_fn rfl F94 code94]
  have hwn : IntKind.i64.wrap (w * h) = n := by rw [hn]; exact wrap_small (by omega) (by omega)
  have hL := loopHas (body := fun st => runCode C (callK C (k + 8)) (k + 8) (K 94) L94_0 1 st) (keep := [0, 1, 2, 6, 7, 8]) (.ex 0)
    (fun st => st.ρ 6 = .p 16 1 3 0 0 ∧ st.ρ 7 = .p 1088 2 3 0 0 ∧ st.H 16 = some (1, ⟨28, 3, false, [[.c (.int .i64 0), .c (.int .i64 0), .c (.slice none 0 0)]]⟩) ∧ ∃ cv, st.H 1088 = some (2, ⟨28, 3, false, [[.c (.int .i64 w), .c (.int .i64 h), cv]]⟩) ∧ Gw 5208 cv st.H (List.replicate n v))
    (fun i st => st.ρ 0 = .c (.int .i64 w) ∧ st.ρ 1 = .c (.int .i64 h) ∧ st.ρ 2 = .c (.int .i64 v) ∧ st.ρ 6 = .p 16 1 3 0 0 ∧ st.ρ 7 = .p 1088 2 3 0 0 ∧ st.ρ 8 = .c (.int .i64 (i : Int)) ∧ st.H 16 = some (1, ⟨28, 3, false, [[.c (.int .i64 0), .c (.int .i64 0), .c (.slice none 0 0)]]⟩) ∧ ∃ cv, st.H 1088 = some (2, ⟨28, 3, false, [[.c (.int .i64 w), .c (.int .i64 h), cv]]⟩) ∧ Gw 5208 cv st.H (List.replicate i v))
    n (k + 8) (by omega)
    (by
      rintro i st next hi ⟨q0, q1, q2, q6, q7, q8, H16, cv, H1, hc⟩ hx
      have hwi := wrap_next hi (by omega : n ≤ 9000000000000000000)
      have hrep : List.replicate (i + 1) v = List.replicate i v ++ [v] := by rw [List.replicate_succ']
      rcases hc with ⟨ha, rfl⟩ | ⟨ha, tk, rfl, hH⟩
      · have hi0 : i = 0 := by simpa using ha
        subst hi0
        simp [L94_0, R94_0, R94_1, R94_2, R94_3, R94_4, R94_5, R94_6, Tryd.f94, lpL94_0, lpM94_0, M94_0, q0, q1, q2, q6, q7, q8, H16, H1, hwn, hi, hwi, maxLen]
        refine hx _ ⟨?_, ?_, ?_, ?_, ?_, ?_, ?_, .s 5208 (st.tick + 1) 1 0 1, ?_, .inr ⟨by simp, st.tick + 1, ?_, ?_⟩⟩ <;> simp [q0, q1, q2, q6, q7, q8, H16, H1, intsO, ints, wrap_1]
      · have hb1 : (i + 1) * 8 ≤ 140737488355328 := by omega
        have hb2 : i + 1 ≤ maxLen := by unfold maxLen; omega
        simp [intsO] at hH
        simp [L94_0, R94_0, R94_1, R94_2, R94_3, R94_4, R94_5, R94_6, Tryd.f94, lpL94_0, lpM94_0, M94_0, q0, q1, q2, q6, q7, q8, H16, H1, hH, hwn, hi, hwi, hb1, hb2, okI]
        refine hx _ ⟨?_, ?_, ?_, ?_, ?_, ?_, ?_, .s 5208 (st.tick + 1) 1 0 (i + 1), ?_, .inr ⟨by simp, st.tick + 1, ?_, ?_⟩⟩ <;> simp [q0, q1, q2, q6, q7, q8, H16, H1, intsO, hrep])
    (by
      rintro st next ⟨q0, q1, q2, q6, q7, q8, H16, cv, H1, hc⟩
      rcases hc with ⟨ha, rfl⟩ | ⟨ha, tk, rfl, hH⟩
      · have : n = 0 := by simpa using ha
        omega
      · simp [intsO] at hH
        simp [L94_0, R94_0, R94_1, R94_2, R94_3, R94_4, R94_5, R94_6, Tryd.f94, lpL94_0, lpM94_0, M94_0, q0, q1, q2, q6, q7, q8, H16, H1, hH, hwn]
        exact .inr ⟨ha, tk, by simp, by simp [intsO, hH, H1, q7]⟩)
  simp [R94_0, R94_1, R94_2, R94_3, R94_4, R94_5, R94_6, Tryd.f94, lpL94_0, lpM94_0]
  generalize hr2 : loopRun _ _ _ _ = res
  obtain ⟨s1, rfl, f6, f7, H16, cv, H1, hc⟩ := loop_at hL hr2 ⟨by simp, by simp, by simp, by simp, by simp, by simp, by simp, .c (.slice none 0 0), by simp, .inl ⟨rfl, rfl⟩⟩
  rcases hc with ⟨ha, rfl⟩ | ⟨ha, tk, rfl, hH⟩
  · have : n = 0 := by simpa using ha
    omega
  · simp [intsO] at hH
    simp [R94_0, R94_1, R94_2, R94_3, R94_4, R94_5, R94_6, Tryd.f94, lpL94_0, lpM94_0, M94_0, f6, f7, H16, H1, hH, intsO]
theorem ints_map (l : List Int) : (l.map fun n => [V.c (.int .i64 n)]) = ints l := rfl
def FdX (m : Nat) (w h' : Int) (i : Nat) (st : St) : Prop := ∃ (c' : Cur) (cv : V) (l : List Int), c'.P (m + 10 + 4 * i) ∧ l.length = i ∧ st.H 0 = some (0, curO c') ∧ st.H 1152 = some (2, ⟨28, 3, false, [[.c (.int .i64 w), .c (.int .i64 h'), cv]]⟩) ∧ Gw 9304 cv st.H l
theorem c_field (k : Nat) (c : Cur) (m : Nat) (h : c.P m) (hm : m ≤ 100000000) (hk : 300 ≤ k) : ∃ (w h' : Int) (l : List Int) (c' : Cur), callK C k 75 [.p 0 0 3 0 0] [curO c] = some (.ag [.c (.int .i64 w), .c (.int .i64 h'), .s 1 2 1 0 l.length], hpOf [some (curO c')] [intsO l]) ∧ 0 < l.length ∧ l.length ≤ 64 ∧ c'.P (m + 200) := by
  obtain ⟨k, rfl⟩ : ∃ m, k = m + 9 := ⟨k - 9, by omega⟩
  rw [callK_fn rfl F75 code75]
  obtain ⟨r1, c1, e1, r1a, r1b, p1⟩ := c_pick (k + 8) c m 5 h (by omega) (by omega) (by omega)
  obtain ⟨r2, c2, e2, r2a, r2b, p2⟩ := c_pick (k + 8) c1 (m + 2) 5 p1 (by omega) (by omega) (by omega)
  obtain ⟨i3, hi3, c3, e3, p3⟩ := c_among (k + 8) c2 (m + 2 + 2) true [0, 10, 100, -50] p2 (by omega) (by simp) (by simp) (by omega)
  obtain ⟨base, hb⟩ : ∃ b, [(0 : Int), 10, 100, -50][i3] = b := ⟨_, rfl⟩
  rw [hb] at e3
  have hw1 : IntKind.i64.wrap (1 + r1) = 1 + r1 := wrap_small (by omega) (by omega)
  have hw2 : IntKind.i64.wrap (1 + r2) = 1 + r2 := wrap_small (by omega) (by omega)
  obtain ⟨w, hw⟩ : ∃ w, 1 + r1 = w := ⟨_, rfl⟩
  obtain ⟨h', hh⟩ : ∃ h', 1 + r2 = h' := ⟨_, rfl⟩
  rw [hw] at hw1
  rw [hh] at hw2
  have hw0 : 1 ≤ w := by omega
  have hw5 : w ≤ 5 := by omega
  have hh0 : 1 ≤ h' := by omega
  have hh5 : h' ≤ 5 := by omega
  obtain ⟨n, hn⟩ : ∃ n : Nat, w * h' = n := ⟨(w * h').toNat, by have := Int.mul_nonneg (by omega : 0 ≤ w) (by omega : 0 ≤ h'); omega⟩
  have hn0 : 0 < n := by have : 1 * 1 ≤ w * h' := Int.mul_le_mul hw0 hh0 (by omega) (by omega); omega
  have hn25 : n ≤ 25 := by have : w * h' ≤ 5 * 5 := Int.mul_le_mul hw5 hh5 (by omega) (by omega); omega
  have hwn : IntKind.i64.wrap (w * h') = n := by rw [hn]; exact wrap_small (by omega) (by omega)
  simp [curO, curE] at e1 e2
  simp [curO, curE, ints] at e3
  have hL := loopHas (body := fun st => runCode C (callK C (k + 8)) (k + 8) (K 75) L75_0 1 st) (keep := [0, 2, 3, 4, 5]) (.ex 0)
    (fun st => st.H 11408 = none ∧ st.ρ 0 = .p 0 0 3 0 0 ∧ st.ρ 2 = .p 16 1 3 0 0 ∧ st.ρ 3 = .p 1152 2 3 0 0 ∧ st.H 16 = some (1, ⟨28, 3, false, [[.c (.int .i64 0), .c (.int .i64 0), .c (.slice none 0 0)]]⟩) ∧ FdX m w h' n st)
    (fun i st => st.ρ 0 = .p 0 0 3 0 0 ∧ st.ρ 2 = .p 16 1 3 0 0 ∧ st.ρ 3 = .p 1152 2 3 0 0 ∧ st.ρ 4 = .c (.int .i64 base) ∧ st.ρ 5 = .c (.int .i64 (i : Int)) ∧ st.H 16 = some (1, ⟨28, 3, false, [[.c (.int .i64 0), .c (.int .i64 0), .c (.slice none 0 0)]]⟩) ∧ FdX m w h' i st)
    n (k + 8) (by omega)
    (by
      rintro i st next hi ⟨q0, q2, q3, q4, q5, H16, c', cv, l, pc, hl, H0, H1, hc⟩ hx
      have hwi := wrap_next hi (by omega : n ≤ 9000000000000000000)
      obtain ⟨s1, d1, f1, s1a, s1b, g1⟩ := c_pick (k + 8) c' (m + 10 + 4 * i) 40 pc (by omega) (by omega) (by omega)
      obtain ⟨s2, d2, f2, g2⟩ := c_one (k + 8) d1 (m + 10 + 4 * i + 2) 12 g1 (by omega) (by omega) (by omega)
      simp [curO, curE] at f1 f2 H0
      obtain ⟨v, hv⟩ : ∃ v, (if s2 = true then -9999 else IntKind.i64.wrap (base + s1)) = v := ⟨_, rfl⟩
      have g3 : d2.P (m + 10 + 4 * (i + 1)) := ⟨g2.by8, g2.len, by have := g2.le; omega⟩
      rcases hc with ⟨ha, rfl⟩ | ⟨ha, tk, rfl, hH⟩
      · subst ha
        simp at hl
        subst hl
        cases s2
        · simp at hv
          simp [L75_0, R75_0, R75_1, R75_2, R75_3, R75_4, R75_5, R75_6, R75_7, R75_8, R75_9, R75_10, R75_11, R75_12, R75_13, R75_14, Tryd.f75, lpL75_0, lpM75_0, M75_0, q0, q2, q3, q4, q5, H16, H0, H1, hwn, hi, hwi, f1, f2, maxLen]
          refine hx _ ⟨?_, ?_, ?_, ?_, ?_, ?_, d2, .s 9304 (st.tick + 1 + 1 + 1) 1 0 (1), [v], g3, by simp, ?_, ?_, .inr ⟨by simp, st.tick + 1 + 1 + 1, ?_, ?_⟩⟩ <;> simp [q0, q2, q3, q4, q5, H16, H1, intsO, ints, curO, curE, hv, wrap_1]
        · simp at hv
          simp [L75_0, R75_0, R75_1, R75_2, R75_3, R75_4, R75_5, R75_6, R75_7, R75_8, R75_9, R75_10, R75_11, R75_12, R75_13, R75_14, Tryd.f75, lpL75_0, lpM75_0, M75_0, q0, q2, q3, q4, q5, H16, H0, H1, hwn, hi, hwi, f1, f2, maxLen]
          refine hx _ ⟨?_, ?_, ?_, ?_, ?_, ?_, d2, .s 9304 (st.tick + 1 + 1 + 1 + 1) 1 0 (1), [v], g3, by simp, ?_, ?_, .inr ⟨by simp, st.tick + 1 + 1 + 1 + 1, ?_, ?_⟩⟩ <;> simp [q0, q2, q3, q4, q5, H16, H1, intsO, ints, curO, curE, hv, wrap_1]
      · have hb1 : (l.length + 1) * 8 ≤ 140737488355328 := by omega
        have hb2 : l.length + 1 ≤ maxLen := by unfold maxLen; omega
        simp [intsO] at hH
        cases s2
        · simp at hv
          simp [L75_0, R75_0, R75_1, R75_2, R75_3, R75_4, R75_5, R75_6, R75_7, R75_8, R75_9, R75_10, R75_11, R75_12, R75_13, R75_14, Tryd.f75, lpL75_0, lpM75_0, M75_0, q0, q2, q3, q4, q5, H16, H0, H1, hH, hwn, hi, hwi, f1, f2, hb1, hb2, okI]
          refine hx _ ⟨?_, ?_, ?_, ?_, ?_, ?_, d2, .s 9304 (st.tick + 1 + 1 + 1) 1 0 (l.length + 1), l ++ [v], g3, by simp [hl], ?_, ?_, .inr ⟨by simp, st.tick + 1 + 1 + 1, ?_, ?_⟩⟩ <;> simp [q0, q2, q3, q4, q5, H16, H1, intsO, curO, curE, hv, wrap_1]
        · simp at hv
          simp [L75_0, R75_0, R75_1, R75_2, R75_3, R75_4, R75_5, R75_6, R75_7, R75_8, R75_9, R75_10, R75_11, R75_12, R75_13, R75_14, Tryd.f75, lpL75_0, lpM75_0, M75_0, q0, q2, q3, q4, q5, H16, H0, H1, hH, hwn, hi, hwi, f1, f2, hb1, hb2, okI]
          refine hx _ ⟨?_, ?_, ?_, ?_, ?_, ?_, d2, .s 9304 (st.tick + 1 + 1 + 1 + 1) 1 0 (l.length + 1), l ++ [v], g3, by simp [hl], ?_, ?_, .inr ⟨by simp, st.tick + 1 + 1 + 1 + 1, ?_, ?_⟩⟩ <;> simp [q0, q2, q3, q4, q5, H16, H1, intsO, curO, curE, hv, wrap_1])
    (by
      rintro st next ⟨q0, q2, q3, q4, q5, H16, c', cv, l, pc, hl, H0, H1, hc⟩
      rcases hc with ⟨ha, rfl⟩ | ⟨ha, tk, rfl, hH⟩
      · subst ha
        simp at hl
        omega
      · simp [curO, curE] at H0
        simp [intsO] at hH
        simp [L75_0, R75_0, R75_1, R75_2, R75_3, R75_4, R75_5, R75_6, R75_7, R75_8, R75_9, R75_10, R75_11, R75_12, R75_13, R75_14, Tryd.f75, lpL75_0, lpM75_0, M75_0, q0, q2, q3, q4, q5, H16, H0, H1, hH, hwn]
        exact ⟨c', .s 9304 tk 1 0 l.length, l, pc, hl, by simp [curO, curE, q0, q2, q3, q4, q5, H16, H0, H1, hH], by simp [q0, q2, q3, q4, q5, H16, H0, H1, hH], .inr ⟨ha, tk, rfl, by simp [intsO, q0, q2, q3, q4, q5, H16, H0, H1, hH]⟩⟩)
  simp [R75_0, R75_1, R75_2, R75_3, R75_4, R75_5, R75_6, R75_7, R75_8, R75_9, R75_10, R75_11, R75_12, R75_13, R75_14, Tryd.f75, lpL75_0, lpM75_0, ints_cons, ints_0, ok_cons, curO, curE, e1, e2, e3, hw1, hw2, hw, hh]
  generalize hr2 : loopRun _ _ _ _ = res
  obtain ⟨s1, rfl, Hn, f0, f2, f3, H16, c4, cv, l, p4, hl, H0, H1, hc⟩ := loop_at hL hr2 ⟨by simp, by simp, by simp, by simp, by simp, by simp, c3, .c (.slice none 0 0), [], ⟨p3.by8, p3.len, by have := p3.le; omega⟩, rfl, by simp [curO, curE], by simp, .inl ⟨rfl, rfl⟩⟩
  rcases hc with ⟨ha, rfl⟩ | ⟨ha, tk, rfl, hH⟩
  · subst ha
    simp at hl
    omega
  have hl0 : 0 < l.length := by omega
  obtain ⟨b5, c5, e5, p5⟩ := c_one (k + 8) c4 (m + 10 + 4 * n) 10 p4 (by omega) (by omega) (by omega)
  obtain ⟨r6, c6, e6, r6a, r6b, p6⟩ := c_pick (k + 8) c5 (m + 10 + 4 * n + 2) l.length p5 (by omega) (by omega) (by omega)
  obtain ⟨i7, hi7, c7, e7, p7⟩ := c_among (k + 8) c6 (m + 10 + 4 * n + 2 + 2) true [9000, -9000, 0] p6 (by omega) (by simp) (by simp) (by omega)
  obtain ⟨v7, hv7⟩ : ∃ b, [(9000 : Int), -9000, 0][i7] = b := ⟨_, rfl⟩
  rw [hv7] at e7
  obtain ⟨j, rfl⟩ : ∃ j : Nat, r6 = j := ⟨r6.toNat, by omega⟩
  have hj : j < l.length := by omega
  obtain ⟨b8, c8, e8, p8⟩ := c_one (k + 8) c7 (m + 10 + 4 * n + 2 + 2 + 2) 24 p7 (by omega) (by omega) (by omega)
  obtain ⟨b9, c9, e9, p9⟩ := c_one (k + 8) c5 (m + 10 + 4 * n + 2) 24 p5 (by omega) (by omega) (by omega)
  have e10 := c_l2Fill (k + 8) 8 8 3 64 (by rfl) (by omega) (by omega) (by omega)
  simp [curO, curE] at e5 e6 e8 e9 H0
  simp [curO, curE, ints] at e7
  simp [intsO] at hH e10
  have lv : ∀ (c : Cur) (q : Nat), c.P q → q ≤ m + 200 → c.P (m + 200) := fun c q h hq => ⟨h.by8, h.len, by have := h.le; omega⟩
  cases b5
  · cases b9
    · refine ⟨w, h', l, c9, ?_, by omega, by omega, lv _ _ p9 (by omega)⟩
      simp [R75_0, R75_1, R75_2, R75_3, R75_4, R75_5, R75_6, R75_7, R75_8, R75_9, R75_10, R75_11, R75_12, R75_13, R75_14, Tryd.f75, lpL75_0, lpM75_0, M75_0, ints_cons, ints_0, ok_cons, Hn, f0, f2, f3, H16, H0, H1, hH, e5, e9, curO, curE, intsO]
    · refine ⟨8, 8, List.replicate 64 3, c9, ?_, by simp, by simp, lv _ _ p9 (by omega)⟩
      simp [R75_0, R75_1, R75_2, R75_3, R75_4, R75_5, R75_6, R75_7, R75_8, R75_9, R75_10, R75_11, R75_12, R75_13, R75_14, Tryd.f75, lpL75_0, lpM75_0, M75_0, ints_cons, ints_0, ok_cons, Hn, f0, f2, f3, H16, H0, H1, hH, e5, e9, e10, curO, curE, intsO]
  · cases b8
    · refine ⟨w, h', l.set j v7, c8, ?_, by simp; omega, by simp; omega, lv _ _ p8 (by omega)⟩
      simp [R75_0, R75_1, R75_2, R75_3, R75_4, R75_5, R75_6, R75_7, R75_8, R75_9, R75_10, R75_11, R75_12, R75_13, R75_14, Tryd.f75, lpL75_0, lpM75_0, M75_0, ints_cons, ints_0, ok_cons, Hn, f0, f2, f3, H16, H0, H1, hH, e5, e6, e7, e8, hj, curO, curE, intsO]
    · refine ⟨8, 8, List.replicate 64 3, c8, ?_, by simp, by simp, lv _ _ p8 (by omega)⟩
      simp [R75_0, R75_1, R75_2, R75_3, R75_4, R75_5, R75_6, R75_7, R75_8, R75_9, R75_10, R75_11, R75_12, R75_13, R75_14, Tryd.f75, lpL75_0, lpM75_0, M75_0, ints_cons, ints_0, ok_cons, Hn, f0, f2, f3, H16, H0, H1, hH, e5, e6, e7, e8, e10, hj, curO, curE, intsO]

end Go.Proofs.YtalpgpjhloohfaaDoor.Eng
namespace Go.Proofs.YtalpgpjhloohfaaDoor.Eng
open Go Go.Proofs
set_option maxRecDepth 100000
set_option maxHeartbeats 2000000
set_option linter.unusedSimpArgs false
set_option linter.unusedVariables false
attribute [local simp] finK fin1 hpOf xi renQ isRoot runCode runOps Eng.step wantedV astep val ofO made loadV storeV find V.cells bin binT binA numT numFs eqCells un1 setAt fieldAddrV fieldV indexAddrV indexV bounds sliceV convV lenV foldV max2V min2V callO bor rdsO wrsO seen_none okD_none loops keepIds resV resultsV St.ev TK.agg refs refsL refsO V.one V.isC Value.oneCell' ren renL renO noTag noTagL noTagR noTagO nodup mapO passV frs psi refsR newD loopNext opsAt idx flatAt rootOf backR newsV appendV copyV clearV strV bytesV bldV bufV selfV bytesOf nilCmp buildV fillF chunk
attribute [local simp] cT cF cX cWR cOW cK cBL X ints_length ints_get ints_getElem ints_drop ints_take ints_append ints_nil ints_set
attribute [local simp] ints_replicate
attribute [local simp] putV_some putV_none putH_app applyD_nil applyD_cons seen_app gc_ρ gc_H gc_tick st0_ρ st0_H st0_tick retV callRo callV_if borL_nil borL_cons ints_snoc take_self callWr cutH_app findQ afterV exportV_0 exportV_n okD_nil okD_cons sub_seq0 sub_seq1 sub_cond0 sub_cond1 sub_block sub_loop sub_nil young_far young_none hidW_nil mayW_nil pairs okI ok_0 ok_1 ok_2
attribute [local simp] T3 T4 T5 T9 T22 T28 T32 T55 T57 T63 T64 T66 T70 T72
attribute [local simp] young_near clo cloF Region.binds Nat.testBit hidW declW mayW
theorem lv {c : Cur} {q m : Nat} (h : c.P q) (hq : q ≤ m) : c.P m := ⟨h.by8, h.len, by have := h.le; omega⟩
theorem c_anyField (k : Nat) (c : Cur) (m : Nat) (h : c.P m) (hm : m ≤ 10000000) (hk : 400 ≤ k) : ∃ (w h' : Int) (l : List Int) (off n : Nat) (c' : Cur), callK C k 65 [.p 0 0 3 0 0] [curO c] = some (.ag [.c (.int .i64 w), .c (.int .i64 h'), .s 1 2 1 off n], hpOf [some (curO c')] [intsO l]) ∧ off + n ≤ l.length ∧ l.length ≤ 64 ∧ c'.P (m + 300) := by
  obtain ⟨k, rfl⟩ : ∃ m, k = m + 9 := ⟨k - 9, by omega⟩
  rw [callK_fn rfl F65 code65]
  obtain ⟨w, h', l, c1, e1, l0, l64, p1⟩ := c_field (k + 8) c m h (by omega) (by omega)
  obtain ⟨r2, c2, e2, r2a, r2b, p2⟩ := c_pick (k + 8) c1 (m + 200) 24 p1 (by omega) (by omega) (by omega)
  obtain ⟨i3, hi3, c3, e3, p3⟩ := c_among (k + 8) c2 (m + 200 + 2) true [0, 9, 8, h'] p2 (by omega) (by simp) (by simp) (by omega)
  obtain ⟨v3, hv3⟩ : ∃ b, [(0 : Int), 9, 8, h'][i3] = b := ⟨_, rfl⟩
  rw [hv3] at e3
  obtain ⟨r4, c4, e4, r4a, r4b, p4⟩ := c_pick (k + 8) c2 (m + 200 + 2) l.length p2 (by omega) (by omega) (by omega)
  obtain ⟨i5, hi5, c5, e5, p5⟩ := c_among (k + 8) c4 (m + 200 + 2 + 2) true [9001, -9001, -9998, -9999] p4 (by omega) (by simp) (by simp) (by omega)
  obtain ⟨v5, hv5⟩ : ∃ b, [(9001 : Int), -9001, -9998, -9999][i5] = b := ⟨_, rfl⟩
  rw [hv5] at e5
  obtain ⟨j, rfl⟩ : ∃ j : Nat, r4 = j := ⟨r4.toNat, by omega⟩
  have hj : j < l.length := by omega
  have hl1 : 1 ≤ l.length := l0
  have hl1' : (1 : Int) ≤ (l.length : Int) := by omega
  simp [curO, curE, intsO] at e1 e2 e4
  simp [curO, curE, ints_cons, ints_0] at e3 e5
  by_cases h0 : r2 = 0
  · subst h0
    refine ⟨v3, h', l, 0, l.length, c3, ?_, by omega, l64, lv p3 (by omega)⟩
    simp [R65_0, R65_1, R65_2, R65_3, R65_4, R65_5, R65_6, R65_7, R65_8, R65_9, Tryd.f65, ints_cons, ints_0, ok_cons, e1, e2, e3, curO, curE, intsO]
  · have h0b : (r2 == 0) = false := by simpa using h0
    by_cases h1 : r2 = 1
    · subst h1
      refine ⟨w, h', l.set j v5, 0, l.length, c5, ?_, by simp, by simpa using l64, lv p5 (by omega)⟩
      simp [R65_0, R65_1, R65_2, R65_3, R65_4, R65_5, R65_6, R65_7, R65_8, R65_9, Tryd.f65, ints_cons, ints_0, ok_cons, e1, e2, e4, e5, hj, curO, curE, intsO]
    · have h1b : (r2 == 1) = false := by simpa using h1
      by_cases h2 : r2 = 2
      · subst h2
        refine ⟨w, h', l, 1, l.length - 1, c2, ?_, by omega, l64, lv p2 (by omega)⟩
        simp [R65_0, R65_1, R65_2, R65_3, R65_4, R65_5, R65_6, R65_7, R65_8, R65_9, Tryd.f65, e1, e2, hl1, hl1', curO, curE, intsO]
      · have h2b : (r2 == 2) = false := by simpa using h2
        refine ⟨w, h', l, 0, l.length, c2, ?_, by omega, l64, lv p2 (by omega)⟩
        simp [R65_0, R65_1, R65_2, R65_3, R65_4, R65_5, R65_6, R65_7, R65_8, R65_9, Tryd.f65, e1, e2, h0, h1, h2, h0b, h1b, h2b, curO, curE, intsO]
def LkX (m : Nat) (n : Nat) (i : Nat) (st : St) : Prop := ∃ (c' : Cur) (l : List Int), c'.P (m + 4 * i) ∧ l.length = n ∧ st.H 0 = some (0, curO c') ∧ st.H 1056 = some (2, intsO l)

end Go.Proofs.YtalpgpjhloohfaaDoor.Eng
namespace Go.Proofs.YtalpgpjhloohfaaDoor.Eng
open Go Go.Proofs
set_option maxRecDepth 100000
set_option maxHeartbeats 2000000
set_option linter.unusedSimpArgs false
set_option linter.unusedVariables false
attribute [local simp] finK fin1 hpOf xi renQ isRoot runCode runOps Eng.step wantedV astep val ofO made loadV storeV find V.cells bin binT binA numT numFs eqCells un1 setAt fieldAddrV fieldV indexAddrV indexV bounds sliceV convV lenV foldV max2V min2V callO bor rdsO wrsO seen_none okD_none loops keepIds resV resultsV St.ev TK.agg refs refsL refsO V.one V.isC Value.oneCell' ren renL renO noTag noTagL noTagR noTagO nodup mapO passV frs psi refsR newD loopNext opsAt idx flatAt rootOf backR newsV appendV copyV clearV strV bytesV bldV bufV selfV bytesOf nilCmp buildV fillF chunk
attribute [local simp] cT cF cX cWR cOW cK cBL X ints_length ints_get ints_getElem ints_drop ints_take ints_append ints_nil ints_set
attribute [local simp] ints_replicate
attribute [local simp] putV_some putV_none putH_app applyD_nil applyD_cons seen_app gc_ρ gc_H gc_tick st0_ρ st0_H st0_tick retV callRo callV_if borL_nil borL_cons ints_snoc take_self callWr cutH_app findQ afterV exportV_0 exportV_n okD_nil okD_cons sub_seq0 sub_seq1 sub_cond0 sub_cond1 sub_block sub_loop sub_nil young_far young_none hidW_nil mayW_nil pairs okI ok_0 ok_1 ok_2
attribute [local simp] T3 T4 T5 T9 T22 T28 T32 T55 T57 T63 T64 T66 T70 T72
attribute [local simp] young_near clo cloF Region.binds Nat.testBit hidW declW mayW
theorem all_set {p : Int → Bool} {l : List Int} {j : Nat} {v : Int} (h : l.all p = true) (hv : p v = true) : (l.set j v).all p = true := by
  rw [List.all_eq_true] at h ⊢
  intro x hx
  rcases List.mem_or_eq_of_mem_set hx with hx | rfl
  · exact h x hx
  · exact hv
def FdG (m : Nat) (w h' : Int) (i : Nat) (st : St) : Prop := ∃ (c' : Cur) (cv : V) (l : List Int), c'.P (m + 10 + 4 * i) ∧ (l.length = i ∧ l.all cellB = true) ∧ st.H 0 = some (0, curO c') ∧ st.H 1152 = some (2, ⟨28, 3, false, [[.c (.int .i64 w), .c (.int .i64 h'), cv]]⟩) ∧ Gw 9304 cv st.H l
theorem c_fieldG (k : Nat) (c : Cur) (m : Nat) (h : c.P m) (hm : m ≤ 100000000) (hk : 300 ≤ k) : ∃ (w h' : Int) (l : List Int) (c' : Cur), callK C k 75 [.p 0 0 3 0 0] [curO c] = some (.ag [.c (.int .i64 w), .c (.int .i64 h'), .s 1 2 1 0 l.length], hpOf [some (curO c')] [intsO l]) ∧ goodB w h' l = true ∧ c'.P (m + 200) := by
  obtain ⟨k, rfl⟩ : ∃ m, k = m + 9 := ⟨k - 9, by omega⟩
  rw [callK_fn rfl F75 code75]
  obtain ⟨r1, c1, e1, r1a, r1b, p1⟩ := c_pick (k + 8) c m 5 h (by omega) (by omega) (by omega)
  obtain ⟨r2, c2, e2, r2a, r2b, p2⟩ := c_pick (k + 8) c1 (m + 2) 5 p1 (by omega) (by omega) (by omega)
  obtain ⟨i3, hi3, c3, e3, p3⟩ := c_among (k + 8) c2 (m + 2 + 2) true [0, 10, 100, -50] p2 (by omega) (by simp) (by simp) (by omega)
  obtain ⟨base, hb⟩ : ∃ b, [(0 : Int), 10, 100, -50][i3] = b := ⟨_, rfl⟩
  rw [hb] at e3
  have hbb : -50 ≤ base ∧ base ≤ 100 := by
    rw [← hb]
    have := List.getElem_mem hi3
    simp only [List.mem_cons, List.not_mem_nil, or_false] at this
    omega
  have hw1 : IntKind.i64.wrap (1 + r1) = 1 + r1 := wrap_small (by omega) (by omega)
  have hw2 : IntKind.i64.wrap (1 + r2) = 1 + r2 := wrap_small (by omega) (by omega)
  obtain ⟨w, hw⟩ : ∃ w, 1 + r1 = w := ⟨_, rfl⟩
  obtain ⟨h', hh⟩ : ∃ h', 1 + r2 = h' := ⟨_, rfl⟩
  rw [hw] at hw1
  rw [hh] at hw2
  have hw0 : 1 ≤ w := by omega
  have hw5 : w ≤ 5 := by omega
  have hh0 : 1 ≤ h' := by omega
  have hh5 : h' ≤ 5 := by omega
  obtain ⟨n, hn⟩ : ∃ n : Nat, w * h' = n := ⟨(w * h').toNat, by have := Int.mul_nonneg (by omega : 0 ≤ w) (by omega : 0 ≤ h'); omega⟩
  have hn0 : 0 < n := by have : 1 * 1 ≤ w * h' := Int.mul_le_mul hw0 hh0 (by omega) (by omega); omega
  have hn25 : n ≤ 25 := by have : w * h' ≤ 5 * 5 := Int.mul_le_mul hw5 hh5 (by omega) (by omega); omega
  have hwn : IntKind.i64.wrap (w * h') = n := by rw [hn]; exact wrap_small (by omega) (by omega)
  simp [curO, curE] at e1 e2
  simp [curO, curE, ints] at e3
  have hL := loopHas (body := fun st => runCode C (callK C (k + 8)) (k + 8) (K 75) L75_0 1 st) (keep := [0, 2, 3, 4, 5]) (.ex 0)
    (fun st => st.H 11408 = none ∧ st.ρ 0 = .p 0 0 3 0 0 ∧ st.ρ 2 = .p 16 1 3 0 0 ∧ st.ρ 3 = .p 1152 2 3 0 0 ∧ st.H 16 = some (1, ⟨28, 3, false, [[.c (.int .i64 0), .c (.int .i64 0), .c (.slice none 0 0)]]⟩) ∧ FdG m w h' n st)
    (fun i st => st.ρ 0 = .p 0 0 3 0 0 ∧ st.ρ 2 = .p 16 1 3 0 0 ∧ st.ρ 3 = .p 1152 2 3 0 0 ∧ st.ρ 4 = .c (.int .i64 base) ∧ st.ρ 5 = .c (.int .i64 (i : Int)) ∧ st.H 16 = some (1, ⟨28, 3, false, [[.c (.int .i64 0), .c (.int .i64 0), .c (.slice none 0 0)]]⟩) ∧ FdG m w h' i st)
    n (k + 8) (by omega)
    (by
      rintro i st next hi ⟨q0, q2, q3, q4, q5, H16, c', cv, l, pc, ⟨hl, hall⟩, H0, H1, hc⟩ hx
      have hwi := wrap_next hi (by omega : n ≤ 9000000000000000000)
      obtain ⟨s1, d1, f1, s1a, s1b, g1⟩ := c_pick (k + 8) c' (m + 10 + 4 * i) 40 pc (by omega) (by omega) (by omega)
      obtain ⟨s2, d2, f2, g2⟩ := c_one (k + 8) d1 (m + 10 + 4 * i + 2) 12 g1 (by omega) (by omega) (by omega)
      simp [curO, curE] at f1 f2 H0
      obtain ⟨v, hv⟩ : ∃ v, (if s2 = true then -9999 else IntKind.i64.wrap (base + s1)) = v := ⟨_, rfl⟩
      have hcv : cellB v = true := by
        have w3 : IntKind.i64.wrap (base + s1) = base + s1 := wrap_small (by omega) (by omega)
        rw [← hv, w3]
        cases s2
        · simp [cellB]; omega
        · simp [cellB]
      have g3 : d2.P (m + 10 + 4 * (i + 1)) := ⟨g2.by8, g2.len, by have := g2.le; omega⟩
      rcases hc with ⟨ha, rfl⟩ | ⟨ha, tk, rfl, hH⟩
      · subst ha
        simp at hl
        subst hl
        cases s2
        · simp at hv
          simp [L75_0, R75_0, R75_1, R75_2, R75_3, R75_4, R75_5, R75_6, R75_7, R75_8, R75_9, R75_10, R75_11, R75_12, R75_13, R75_14, Tryd.f75, lpL75_0, lpM75_0, M75_0, q0, q2, q3, q4, q5, H16, H0, H1, hwn, hi, hwi, f1, f2, maxLen]
          refine hx _ ⟨?_, ?_, ?_, ?_, ?_, ?_, d2, .s 9304 (st.tick + 1 + 1 + 1) 1 0 (1), [v], g3, ⟨by simp, by simp [hcv]⟩, ?_, ?_, .inr ⟨by simp, st.tick + 1 + 1 + 1, ?_, ?_⟩⟩ <;> simp [q0, q2, q3, q4, q5, H16, H1, intsO, ints, curO, curE, hv, wrap_1]
        · simp at hv
          simp [L75_0, R75_0, R75_1, R75_2, R75_3, R75_4, R75_5, R75_6, R75_7, R75_8, R75_9, R75_10, R75_11, R75_12, R75_13, R75_14, Tryd.f75, lpL75_0, lpM75_0, M75_0, q0, q2, q3, q4, q5, H16, H0, H1, hwn, hi, hwi, f1, f2, maxLen]
          refine hx _ ⟨?_, ?_, ?_, ?_, ?_, ?_, d2, .s 9304 (st.tick + 1 + 1 + 1 + 1) 1 0 (1), [v], g3, ⟨by simp, by simp [hcv]⟩, ?_, ?_, .inr ⟨by simp, st.tick + 1 + 1 + 1 + 1, ?_, ?_⟩⟩ <;> simp [q0, q2, q3, q4, q5, H16, H1, intsO, ints, curO, curE, hv, wrap_1]
      · have hb1 : (l.length + 1) * 8 ≤ 140737488355328 := by omega
        have hb2 : l.length + 1 ≤ maxLen := by unfold maxLen; omega
        simp [intsO] at hH
        cases s2
        · simp at hv
          simp [L75_0, R75_0, R75_1, R75_2, R75_3, R75_4, R75_5, R75_6, R75_7, R75_8, R75_9, R75_10, R75_11, R75_12, R75_13, R75_14, Tryd.f75, lpL75_0, lpM75_0, M75_0, q0, q2, q3, q4, q5, H16, H0, H1, hH, hwn, hi, hwi, f1, f2, hb1, hb2, okI]
          refine hx _ ⟨?_, ?_, ?_, ?_, ?_, ?_, d2, .s 9304 (st.tick + 1 + 1 + 1) 1 0 (l.length + 1), l ++ [v], g3, ⟨by simp [hl], by simp [hcv, hall]⟩, ?_, ?_, .inr ⟨by simp, st.tick + 1 + 1 + 1, ?_, ?_⟩⟩ <;> simp [q0, q2, q3, q4, q5, H16, H1, intsO, curO, curE, hv, wrap_1]
        · simp at hv
          simp [L75_0, R75_0, R75_1, R75_2, R75_3, R75_4, R75_5, R75_6, R75_7, R75_8, R75_9, R75_10, R75_11, R75_12, R75_13, R75_14, Tryd.f75, lpL75_0, lpM75_0, M75_0, q0, q2, q3, q4, q5, H16, H0, H1, hH, hwn, hi, hwi, f1, f2, hb1, hb2, okI]
          refine hx _ ⟨?_, ?_, ?_, ?_, ?_, ?_, d2, .s 9304 (st.tick + 1 + 1 + 1 + 1) 1 0 (l.length + 1), l ++ [v], g3, ⟨by simp [hl], by simp [hcv, hall]⟩, ?_, ?_, .inr ⟨by simp, st.tick + 1 + 1 + 1 + 1, ?_, ?_⟩⟩ <;> simp [q0, q2, q3, q4, q5, H16, H1, intsO, curO, curE, hv, wrap_1])
    (by
      rintro st next ⟨q0, q2, q3, q4, q5, H16, c', cv, l, pc, ⟨hl, hall⟩, H0, H1, hc⟩
      rcases hc with ⟨ha, rfl⟩ | ⟨ha, tk, rfl, hH⟩
      · subst ha
        simp at hl
        omega
      · simp [curO, curE] at H0
        simp [intsO] at hH
        simp [L75_0, R75_0, R75_1, R75_2, R75_3, R75_4, R75_5, R75_6, R75_7, R75_8, R75_9, R75_10, R75_11, R75_12, R75_13, R75_14, Tryd.f75, lpL75_0, lpM75_0, M75_0, q0, q2, q3, q4, q5, H16, H0, H1, hH, hwn]
        exact ⟨c', .s 9304 tk 1 0 l.length, l, pc, ⟨hl, hall⟩, by simp [curO, curE, q0, q2, q3, q4, q5, H16, H0, H1, hH], by simp [q0, q2, q3, q4, q5, H16, H0, H1, hH], .inr ⟨ha, tk, rfl, by simp [intsO, q0, q2, q3, q4, q5, H16, H0, H1, hH]⟩⟩)
  simp [R75_0, R75_1, R75_2, R75_3, R75_4, R75_5, R75_6, R75_7, R75_8, R75_9, R75_10, R75_11, R75_12, R75_13, R75_14, Tryd.f75, lpL75_0, lpM75_0, ints_cons, ints_0, ok_cons, curO, curE, e1, e2, e3, hw1, hw2, hw, hh]
  generalize hr2 : loopRun _ _ _ _ = res
  obtain ⟨s1, rfl, Hn, f0, f2, f3, H16, c4, cv, l, p4, ⟨hl, hall⟩, H0, H1, hc⟩ := loop_at hL hr2 ⟨by simp, by simp, by simp, by simp, by simp, by simp, c3, .c (.slice none 0 0), [], ⟨p3.by8, p3.len, by have := p3.le; omega⟩, ⟨rfl, rfl⟩, by simp [curO, curE], by simp, .inl ⟨rfl, rfl⟩⟩
  rcases hc with ⟨ha, rfl⟩ | ⟨ha, tk, rfl, hH⟩
  · subst ha
    simp at hl
    omega
  have hl0 : 0 < l.length := by omega
  obtain ⟨b5, c5, e5, p5⟩ := c_one (k + 8) c4 (m + 10 + 4 * n) 10 p4 (by omega) (by omega) (by omega)
  obtain ⟨r6, c6, e6, r6a, r6b, p6⟩ := c_pick (k + 8) c5 (m + 10 + 4 * n + 2) l.length p5 (by omega) (by omega) (by omega)
  obtain ⟨i7, hi7, c7, e7, p7⟩ := c_among (k + 8) c6 (m + 10 + 4 * n + 2 + 2) true [9000, -9000, 0] p6 (by omega) (by simp) (by simp) (by omega)
  obtain ⟨v7, hv7⟩ : ∃ b, [(9000 : Int), -9000, 0][i7] = b := ⟨_, rfl⟩
  rw [hv7] at e7
  obtain ⟨j, rfl⟩ : ∃ j : Nat, r6 = j := ⟨r6.toNat, by omega⟩
  have hj : j < l.length := by omega
  obtain ⟨b8, c8, e8, p8⟩ := c_one (k + 8) c7 (m + 10 + 4 * n + 2 + 2 + 2) 24 p7 (by omega) (by omega) (by omega)
  obtain ⟨b9, c9, e9, p9⟩ := c_one (k + 8) c5 (m + 10 + 4 * n + 2) 24 p5 (by omega) (by omega) (by omega)
  have e10 := c_l2Fill (k + 8) 8 8 3 64 (by rfl) (by omega) (by omega) (by omega)
  simp [curO, curE] at e5 e6 e8 e9 H0
  simp [curO, curE, ints] at e7
  simp [intsO] at hH e10
  have hv7b : cellB v7 = true := by
    rw [← hv7]
    have := List.getElem_mem hi7
    simp only [List.mem_cons, List.not_mem_nil, or_false] at this
    rcases this with e | e | e <;> rw [e] <;> rfl
  have gd : ∀ l' : List Int, l'.length = l.length → l'.all cellB = true → goodB w h' l' = true := fun l' e1 e2 => by
    simp only [goodB, shapeB, e2, e1, hl, ← hn]
    simp
    omega
  have g88 : goodB 8 8 (List.replicate 64 3) = true := by decide
  have lv : ∀ (c : Cur) (q : Nat), c.P q → q ≤ m + 200 → c.P (m + 200) := fun c q h hq => ⟨h.by8, h.len, by have := h.le; omega⟩
  cases b5
  · cases b9
    · refine ⟨w, h', l, c9, ?_, gd l rfl hall, lv _ _ p9 (by omega)⟩
      simp [R75_0, R75_1, R75_2, R75_3, R75_4, R75_5, R75_6, R75_7, R75_8, R75_9, R75_10, R75_11, R75_12, R75_13, R75_14, Tryd.f75, lpL75_0, lpM75_0, M75_0, ints_cons, ints_0, ok_cons, Hn, f0, f2, f3, H16, H0, H1, hH, e5, e9, curO, curE, intsO]
    · refine ⟨8, 8, List.replicate 64 3, c9, ?_, g88, lv _ _ p9 (by omega)⟩
      simp [R75_0, R75_1, R75_2, R75_3, R75_4, R75_5, R75_6, R75_7, R75_8, R75_9, R75_10, R75_11, R75_12, R75_13, R75_14, Tryd.f75, lpL75_0, lpM75_0, M75_0, ints_cons, ints_0, ok_cons, Hn, f0, f2, f3, H16, H0, H1, hH, e5, e9, e10, curO, curE, intsO]
  · cases b8
    · refine ⟨w, h', l.set j v7, c8, ?_, gd _ (by simp) (all_set hall hv7b), lv _ _ p8 (by omega)⟩
      simp [R75_0, R75_1, R75_2, R75_3, R75_4, R75_5, R75_6, R75_7, R75_8, R75_9, R75_10, R75_11, R75_12, R75_13, R75_14, Tryd.f75, lpL75_0, lpM75_0, M75_0, ints_cons, ints_0, ok_cons, Hn, f0, f2, f3, H16, H0, H1, hH, e5, e6, e7, e8, hj, curO, curE, intsO]
    · refine ⟨8, 8, List.replicate 64 3, c8, ?_, g88, lv _ _ p8 (by omega)⟩
      simp [R75_0, R75_1, R75_2, R75_3, R75_4, R75_5, R75_6, R75_7, R75_8, R75_9, R75_10, R75_11, R75_12, R75_13, R75_14, Tryd.f75, lpL75_0, lpM75_0, M75_0, ints_cons, ints_0, ok_cons, Hn, f0, f2, f3, H16, H0, H1, hH, e5, e6, e7, e8, e10, hj, curO, curE, intsO]

end Go.Proofs.YtalpgpjhloohfaaDoor.Eng
namespace Go.Proofs.YtalpgpjhloohfaaDoor.Eng
open Go Go.Proofs
set_option maxRecDepth 100000
set_option maxHeartbeats 2000000
set_option linter.unusedSimpArgs false
set_option linter.unusedVariables false
attribute [local simp] finK fin1 hpOf xi renQ isRoot runCode runOps Eng.step wantedV astep val ofO made loadV storeV find V.cells bin binT binA numT numFs eqCells un1 setAt fieldAddrV fieldV indexAddrV indexV bounds sliceV convV lenV foldV max2V min2V callO bor rdsO wrsO seen_none okD_none loops keepIds resV resultsV St.ev TK.agg refs refsL refsO V.one V.isC Value.oneCell' ren renL renO noTag noTagL noTagR noTagO nodup mapO passV frs psi refsR newD loopNext opsAt idx flatAt rootOf backR newsV appendV copyV clearV strV bytesV bldV bufV selfV bytesOf nilCmp buildV fillF chunk
attribute [local simp] cT cF cX cWR cOW cK cBL X ints_length ints_get ints_getElem ints_drop ints_take ints_append ints_nil ints_set
attribute [local simp] ints_replicate
attribute [local simp] putV_some putV_none putH_app applyD_nil applyD_cons seen_app gc_ρ gc_H gc_tick st0_ρ st0_H st0_tick retV callRo callV_if borL_nil borL_cons ints_snoc take_self callWr cutH_app findQ afterV exportV_0 exportV_n okD_nil okD_cons sub_seq0 sub_seq1 sub_cond0 sub_cond1 sub_block sub_loop sub_nil young_far young_none hidW_nil mayW_nil pairs okI ok_0 ok_1 ok_2
attribute [local simp] T3 T4 T5 T9 T22 T28 T32 T55 T57 T63 T64 T66 T70 T72
/-- What stands behind the i-th cell. -/
def sepT (W i : Nat) : UInt8 := if (i + 1) % W = 0 then 10 else 32
/-- A field's text, cell by cell. -/
def txT (W : Nat) : Nat → List Int → List UInt8
  | _, [] => []
  | i, a :: l => cellT a ++ sepT W i :: txT W (i + 1) l
theorem txT_append (W : Nat) : ∀ (a b : List Int) (i : Nat), txT W i (a ++ b) = txT W i a ++ txT W (i + a.length) b
  | [], b, i => by simp [txT]
  | x :: a, b, i => by
    have h := txT_append W a b (i + 1)
    simp only [List.cons_append, txT, List.length_cons, h, List.append_assoc]
    rw [show i + 1 + a.length = i + (a.length + 1) by omega]
theorem txT_step (W : Nat) (l : List Int) (i : Nat) (h : i < l.length) : txT W 0 (l.take (i + 1)) = txT W 0 (l.take i) ++ cellT l[i] ++ [sepT W i] := by
  rw [List.take_succ_eq_append_getElem h, txT_append, List.length_take, Nat.min_eq_left (by omega), Nat.zero_add]
  simp [txT]
theorem sep_in {W q i : Nat} (h1 : W * q ≤ i) (h2 : i + 1 < W * (q + 1)) : sepT W i = 32 := by
  unfold sepT
  rw [if_neg]
  intro h
  have hd := Nat.div_add_mod (i + 1) W
  rw [h, Nat.add_zero] at hd
  rw [← hd] at h2
  have h3 : (i + 1) / W < q + 1 := Nat.lt_of_mul_lt_mul_left h2
  have h4 : W * ((i + 1) / W) ≤ W * q := Nat.mul_le_mul_left W (by omega)
  omega
theorem sep_end {W q i : Nat} (h : i + 1 = W * q) : sepT W i = 10 := by
  unfold sepT
  rw [if_pos]
  rw [h]
  exact Nat.mul_mod_right W q
theorem txT_row (W q : Nat) : ∀ (r : List Int) (i : Nat), r ≠ [] → W * q ≤ i → i + r.length = W * (q + 1) → txT W i r = rowT r ++ [10]
  | [a], i, _, _, h => by
    have := sep_end (i := i) (by simpa using h)
    simp [txT, this, rowT, joinB, Lib.join_one]
  | a :: b :: r, i, _, h1, h2 => by
    have hs := sep_in (i := i) h1 (by simp at h2; omega)
    have ih := txT_row W q (b :: r) (i + 1) (by simp) (by omega) (by simp at h2 ⊢; omega)
    rw [txT, ih, hs]
    simp [rowT, joinB, Lib.join, List.intercalate]
theorem txT_rows (W : Nat) (hW : 0 < W) : ∀ (h : Nat) (c : List Int) (q : Nat), c.length = W * h → txT W (W * q) c = rowsT (chnk W h c)
  | 0, c, q, hc => by
    have : c = [] := List.eq_nil_of_length_eq_zero (by simpa using hc)
    subst this
    simp [txT, chnk, rowsT]
  | h + 1, c, q, hc => by
    have hm : W * (h + 1) = W * h + W := Nat.mul_succ W h
    have hm2 : W * (q + 1) = W * q + W := Nat.mul_succ W q
    have ht : (c.take W).length = W := by rw [List.length_take]; omega
    have hne : c.take W ≠ [] := fun e => by rw [e] at ht; simp at ht; omega
    have ih := txT_rows W hW h (c.drop W) (q + 1) (by rw [List.length_drop]; omega)
    have hr := txT_row W q (c.take W) (W * q) hne (Nat.le_refl _) (by omega)
    conv => lhs; rw [← List.take_append_drop W c]
    rw [txT_append, ht, hr, ← hm2, ih]
    simp [chnk, rowsT]
theorem txT_text (W H : Nat) (hW : 0 < W) (c : List Int) (hc : c.length = W * H) : txT W 0 c = textF W H c := by
  have := txT_rows W hW H c 0 hc
  rwa [Nat.mul_zero] at this
theorem sep_tmod (W i : Nat) : (((i : Int) + 1)).tmod (W : Int) = (((i + 1) % W : Nat) : Int) := rfl
theorem txT_len (W : Nat) : ∀ (l : List Int) (i : Nat), l.all cellB = true → (txT W i l).length ≤ 6 * l.length
  | [], _, _ => by simp [txT]
  | a :: l, i, h => by
    simp only [List.all_cons, Bool.and_eq_true] at h
    have := txT_len W l (i + 1) h.2
    have := cell_len h.1
    simp only [txT, List.length_append, List.length_cons]
    omega

end Go.Proofs.YtalpgpjhloohfaaDoor.Eng
namespace Go.Proofs.YtalpgpjhloohfaaDoor.Eng
open Go Go.Proofs
set_option maxRecDepth 100000
set_option maxHeartbeats 2000000
set_option linter.unusedSimpArgs false
set_option linter.unusedVariables false
attribute [local simp] finK fin1 hpOf xi renQ isRoot runCode runOps Eng.step wantedV astep val ofO made loadV storeV find V.cells bin binT binA numT numFs eqCells un1 setAt fieldAddrV fieldV indexAddrV indexV bounds sliceV convV lenV foldV max2V min2V callO bor rdsO wrsO seen_none okD_none loops keepIds resV resultsV St.ev TK.agg refs refsL refsO V.one V.isC Value.oneCell' ren renL renO noTag noTagL noTagR noTagO nodup mapO passV frs psi refsR newD loopNext opsAt idx flatAt rootOf backR newsV appendV copyV clearV strV bytesV bldV bufV selfV bytesOf nilCmp buildV fillF chunk
attribute [local simp] cT cF cX cWR cOW cK cBL X ints_length ints_get ints_getElem ints_drop ints_take ints_append ints_nil ints_set
attribute [local simp] ints_replicate
attribute [local simp] putV_some putV_none putH_app applyD_nil applyD_cons seen_app gc_ρ gc_H gc_tick st0_ρ st0_H st0_tick retV callRo callV_if borL_nil borL_cons ints_snoc take_self callWr cutH_app findQ afterV exportV_0 exportV_n okD_nil okD_cons sub_seq0 sub_seq1 sub_cond0 sub_cond1 sub_block sub_loop sub_nil young_far young_none hidW_nil mayW_nil pairs okI ok_0 ok_1 ok_2
attribute [local simp] T3 T4 T5 T9 T22 T28 T32 T55 T57 T63 T64 T66 T70 T72
attribute [local simp] young_near clo cloF Region.binds Nat.testBit hidW declW mayW List.findIdx?_cons
theorem byteE_bs (l : List UInt8) : byteE (bs l) = l.map fun b => [.c (.int .u8 ((b.toNat : Nat) : Int))] := by simp [byteE, bs]
theorem byteE_len (l : List UInt8) : (byteE (bs l)).length = l.length := by simp [byteE_bs]
theorem byteE_ok (ty : TypeId) (l : List UInt8) : okObj ⟨ty, 1, true, byteE (bs l)⟩ = true := by simp [okObj, byteE_bs, V.one, V.isC, Value.oneCell']
theorem byteE_bytes : ∀ l : List UInt8, bytesOf (byteE (bs l)).flatten = some l
  | [] => by simp [byteE_bs, bytesOf]
  | c :: l => by
    have ih := byteE_bytes l
    rw [byteE_bs] at ih ⊢
    have h2 := c.toNat_lt
    have h3 : (c.toNat : Int) ≤ 255 := by omega
    simp [bytesOf, ih, h3]
theorem byteE_app (a b : List UInt8) : byteE (bs a) ++ byteE (bs b) = byteE (bs (a ++ b)) := by simp [byteE_bs]
theorem itoa_pos (n : Int) : 0 < (Lib.itoa n).length := by
  unfold Lib.itoa
  split
  · simp
  · obtain ⟨b, r, h, _⟩ := dec_head n.toNat
    rw [h]; simp
/-- A builder that holds T. -/
def Bd (H : Hp) (T : List UInt8) : Prop := (T = [] ∧ H 3088 = some (3, ⟨55, 2, false, [[.c (.pointer none), .c (.slice none 0 0)]]⟩)) ∨
  (T ≠ [] ∧ ∃ id tk, (id = 11288 ∨ id = 12312) ∧ H 3088 = some (3, ⟨55, 2, false, [[.p 3088 3 2 0 0, .s id tk 1 0 T.length]]⟩) ∧ H id = some (tk, ⟨5, 1, true, byteE (bs T)⟩))
theorem c_FieldText (k : Nat) (b : Bool) (W H : Nat) (l : List Int) (hg : goodB W H l = true) (hk : 500 ≤ k) : callK C k 10 [fldV b W H l] [] = some (.tp [.c (.string (bs (textF W H l))), .c (.bool true)], hpOf [] []) := by
  obtain ⟨k, rfl⟩ : ∃ m, k = m + 9 := ⟨k - 9, by omega⟩
  rw [callK_fn rfl F10 code10]
  obtain ⟨sh, hcl, hall, h64⟩ := good_length hg
  obtain ⟨_, _, a1, a2, b1, b2⟩ := shape_area sh
  have hcl' : l.length = W * H := by
    have : ((W * H : Nat) : Int) = (W : Int) * (H : Int) := Int.natCast_mul W H
    omega
  have G := c_IsValidField (k + 8) b (W : Int) (H : Int) l (by omega)
  rw [hg] at G
  simp [fldV] at G
  have hT := txT_text W H (by omega) l hcl'
  have hlen : ∀ i, (txT W 0 (l.take i)).length ≤ 384 := by
    intro i
    have := txT_len W (l.take i) 0 (by
      rw [List.all_eq_true] at hall ⊢
      exact fun z hz => hall z (List.mem_of_mem_take hz))
    rw [List.length_take] at this
    omega
  have hL := loopHas (body := fun st => runCode C (callK C (k + 8)) (k + 8) (K 10) L10_0 1 st) (keep := [1, 4, 11, 12, 13]) (.ex 0) (fun s => s.ρ 4 = .p 3088 3 2 0 0 ∧ Bd s.H (textF W H l))
    (fun i s => s.ρ 1 = .p 16 1 3 0 0 ∧ s.H 16 = some (1, ⟨28, 3, false, [[.c (.int .i64 (W : Int)), .c (.int .i64 (H : Int)), .sq b true 1 (ints l)]]⟩) ∧ s.ρ 4 = .p 3088 3 2 0 0 ∧ s.ρ 11 = .sq b true 1 (ints l) ∧ s.ρ 12 = .c (.int .i64 (l.length : Int)) ∧ s.ρ 13 = .c (.int .i64 (i : Int)) ∧ Bd s.H (txT W 0 (l.take i)))
    l.length (k + 8) (by omega)
    (by
      rintro i s next hi ⟨q1, H1, q4, q11, q12, q13, hB⟩ hn
      have hs := txT_step W l i hi
      have hl0 := hlen i
      have hwn := wrap_next hi (by omega : l.length ≤ 9000000000000000000)
      have hi2 : (i : Int) < (l.length : Int) := by omega
      have hgi : (ints l)[i]? = some [.c (.int .i64 l[i])] := by rw [ints_get]; simp [hi]
      have htm := sep_tmod W i
      have hW0 : ¬ (W : Int) = 0 := by omega
      have hcell := List.all_eq_true.1 hall _ (List.getElem_mem hi)
      have hclen := cell_len hcell
      obtain ⟨v, hv⟩ : ∃ v, l[i] = v := ⟨_, rfl⟩
      rw [hv] at hs hcell hclen hgi
      have hnum : v ≠ -9999 → callK C (k + 8) 41 [.c (.int .i64 v)] [] = some (.c (.string (bs (cellT v))), hpOf [] []) ∧ 0 < (cellT v).length := by
        intro hne
        unfold cellB at hcell
        simp only [Bool.or_eq_true, beq_iff_eq, Bool.and_eq_true, decide_eq_true_eq] at hcell
        unfold cellT
        rw [if_neg hne]
        exact ⟨c_Itoa (k + 8) v (by omega) (by omega) (by omega), itoa_pos v⟩
      obtain ⟨T, hTT⟩ : ∃ T, txT W 0 (l.take i) = T := ⟨_, rfl⟩
      rw [hTT] at hs hl0 hB
      rw [hs] at hn
      obtain ⟨sp, hsp⟩ : ∃ sp, sepT W i = sp := ⟨_, rfl⟩
      rw [hsp] at hn
      obtain ⟨m, hm⟩ : ∃ m, (i + 1) % W = m := ⟨_, rfl⟩
      unfold sepT at hsp
      rw [hm] at hsp htm
      have g1 : (l.length : Int) ≤ 64 := by omega
      have g2 : T.length + 1 ≤ 140737488355328 := by omega
      have g3 : T.length + (cellT v).length ≤ 140737488355328 := by omega
      have g4 : T.length + 1 + 1 ≤ 140737488355328 := by omega
      have g5 : T.length + (cellT v).length + 1 ≤ 140737488355328 := by omega
      have hsp1 : m = 0 → sp = 10 := fun e => by rw [← hsp, if_pos e]
      have hsp2 : m ≠ 0 → sp = 32 := fun e => by rw [← hsp, if_neg e]
      have hW1 : ¬ W = 0 := by omega
      have g6 : T.length ≤ 140737488355327 := by omega
      have gg : T.length ≤ 140737488355326 := by omega
      have g7 : T.length + 1 ≤ 140737488355327 := by omega
      have g8 : T.length + (cellT v).length ≤ 140737488355327 := by omega
      have g9 : T.length + (cellT v).length ≤ 140737488355328 := by omega
      have ga : (cellT v).length ≤ 140737488355328 := by omega
      have gb : (cellT v).length ≤ 140737488355327 := by omega
      by_cases hm0 : m = 0
      · rw [hsp1 hm0] at hn
        rw [hm0] at htm
        simp at htm
        by_cases hv : v = -9999
        · have hct : cellT v = [46] := by rw [hv]; rfl
          rw [hct] at hn
          rcases hB with ⟨h, B1⟩ | ⟨h, id, tk, rfl | rfl, B1, B2⟩
          · rw [h] at hn
            simp [L10_0, R10_0, R10_1, R10_2, R10_3, R10_4, R10_5, R10_6, R10_7, R10_8, R10_9, R10_10, R10_11, R10_12, R10_13, R10_14, Tryd.f10, lpL10_0, lpM10_0, M10_0, q1, H1, q4, q11, q12, q13, hi2, hgi, hv, lit1, bs_size, byteE_len, byteE_ok, byteE_app, hwn, hW1, htm, g6, gg, g7, g8, g9, ga, gb, B1]
            exact hn _ ⟨by simp [q1], by simp [q1, H1], by simp [q4], by simp [q11], by simp [q12], by simp, .inr ⟨by simp, 11288, s.tick + 1 + 1 + 1 + 1 + 1, .inl rfl, by simp [q4, Nat.add_assoc], by simp [q4]⟩⟩
          · have h0 : 0 < T.length := by
              rcases Nat.eq_zero_or_pos T.length with e | e
              · exact absurd (List.eq_nil_of_length_eq_zero e) h
              · exact e
            simp [L10_0, R10_0, R10_1, R10_2, R10_3, R10_4, R10_5, R10_6, R10_7, R10_8, R10_9, R10_10, R10_11, R10_12, R10_13, R10_14, Tryd.f10, lpL10_0, lpM10_0, M10_0, q1, H1, q4, q11, q12, q13, hi2, hgi, hv, lit1, bs_size, byteE_len, byteE_ok, byteE_app, hwn, hW1, htm, g6, gg, g7, g8, g9, ga, gb, B1, B2, h, h0]
            exact hn _ ⟨by simp [q1], by simp [q1, H1], by simp [q4], by simp [q11], by simp [q12], by simp, .inr ⟨by simp, 11288, s.tick + 1 + 1 + 1 + 1 + 1, .inl rfl, by simp [q4, Nat.add_assoc], by simp [q4]⟩⟩
          · have h0 : 0 < T.length := by
              rcases Nat.eq_zero_or_pos T.length with e | e
              · exact absurd (List.eq_nil_of_length_eq_zero e) h
              · exact e
            simp [L10_0, R10_0, R10_1, R10_2, R10_3, R10_4, R10_5, R10_6, R10_7, R10_8, R10_9, R10_10, R10_11, R10_12, R10_13, R10_14, Tryd.f10, lpL10_0, lpM10_0, M10_0, q1, H1, q4, q11, q12, q13, hi2, hgi, hv, lit1, bs_size, byteE_len, byteE_ok, byteE_app, hwn, hW1, htm, g6, gg, g7, g8, g9, ga, gb, B1, B2, h, h0]
            exact hn _ ⟨by simp [q1], by simp [q1, H1], by simp [q4], by simp [q11], by simp [q12], by simp, .inr ⟨by simp, 11288, s.tick + 1 + 1 + 1 + 1 + 1, .inl rfl, by simp [q4, Nat.add_assoc], by simp [q4]⟩⟩
        · obtain ⟨n1, n2⟩ := hnum hv
          have n3 : 0 < T.length + (cellT v).length := by omega
          rcases hB with ⟨h, B1⟩ | ⟨h, id, tk, rfl | rfl, B1, B2⟩
          · rw [h] at hn
            simp [L10_0, R10_0, R10_1, R10_2, R10_3, R10_4, R10_5, R10_6, R10_7, R10_8, R10_9, R10_10, R10_11, R10_12, R10_13, R10_14, Tryd.f10, lpL10_0, lpM10_0, M10_0, q1, H1, q4, q11, q12, q13, hi2, hgi, hv, lit1, bs_size, byteE_len, byteE_ok, byteE_app, hwn, hW1, htm, g6, gg, g7, g8, g9, ga, gb, B1, n1, n2, n3]
            exact hn _ ⟨by simp [q1], by simp [q1, H1], by simp [q4], by simp [q11], by simp [q12], by simp, .inr ⟨by simp, 11288, s.tick + 1 + 1 + 1 + 1 + 1, .inl rfl, by simp [q4, Nat.add_assoc], by simp [q4]⟩⟩
          · have h0 : 0 < T.length := by
              rcases Nat.eq_zero_or_pos T.length with e | e
              · exact absurd (List.eq_nil_of_length_eq_zero e) h
              · exact e
            simp [L10_0, R10_0, R10_1, R10_2, R10_3, R10_4, R10_5, R10_6, R10_7, R10_8, R10_9, R10_10, R10_11, R10_12, R10_13, R10_14, Tryd.f10, lpL10_0, lpM10_0, M10_0, q1, H1, q4, q11, q12, q13, hi2, hgi, hv, lit1, bs_size, byteE_len, byteE_ok, byteE_app, hwn, hW1, htm, g6, gg, g7, g8, g9, ga, gb, B1, B2, h, h0, n1, n2, n3]
            exact hn _ ⟨by simp [q1], by simp [q1, H1], by simp [q4], by simp [q11], by simp [q12], by simp, .inr ⟨by simp, 11288, s.tick + 1 + 1 + 1 + 1 + 1, .inl rfl, by simp [q4, Nat.add_assoc], by simp [q4]⟩⟩
          · have h0 : 0 < T.length := by
              rcases Nat.eq_zero_or_pos T.length with e | e
              · exact absurd (List.eq_nil_of_length_eq_zero e) h
              · exact e
            simp [L10_0, R10_0, R10_1, R10_2, R10_3, R10_4, R10_5, R10_6, R10_7, R10_8, R10_9, R10_10, R10_11, R10_12, R10_13, R10_14, Tryd.f10, lpL10_0, lpM10_0, M10_0, q1, H1, q4, q11, q12, q13, hi2, hgi, hv, lit1, bs_size, byteE_len, byteE_ok, byteE_app, hwn, hW1, htm, g6, gg, g7, g8, g9, ga, gb, B1, B2, h, h0, n1, n2, n3]
            exact hn _ ⟨by simp [q1], by simp [q1, H1], by simp [q4], by simp [q11], by simp [q12], by simp, .inr ⟨by simp, 11288, s.tick + 1 + 1 + 1 + 1 + 1, .inl rfl, by simp [q4, Nat.add_assoc], by simp [q4]⟩⟩
      · rw [hsp2 hm0] at hn
        by_cases hv : v = -9999
        · have hct : cellT v = [46] := by rw [hv]; rfl
          rw [hct] at hn
          rcases hB with ⟨h, B1⟩ | ⟨h, id, tk, rfl | rfl, B1, B2⟩
          · rw [h] at hn
            simp [L10_0, R10_0, R10_1, R10_2, R10_3, R10_4, R10_5, R10_6, R10_7, R10_8, R10_9, R10_10, R10_11, R10_12, R10_13, R10_14, Tryd.f10, lpL10_0, lpM10_0, M10_0, q1, H1, q4, q11, q12, q13, hi2, hgi, hv, lit1, bs_size, byteE_len, byteE_ok, byteE_app, hwn, hW1, htm, g6, gg, g7, g8, g9, ga, gb, B1, hm0]
            exact hn _ ⟨by simp [q1], by simp [q1, H1], by simp [q4], by simp [q11], by simp [q12], by simp, .inr ⟨by simp, 12312, s.tick + 1 + 1 + 1 + 1 + 1, .inr rfl, by simp [q4, Nat.add_assoc], by simp [q4]⟩⟩
          · have h0 : 0 < T.length := by
              rcases Nat.eq_zero_or_pos T.length with e | e
              · exact absurd (List.eq_nil_of_length_eq_zero e) h
              · exact e
            simp [L10_0, R10_0, R10_1, R10_2, R10_3, R10_4, R10_5, R10_6, R10_7, R10_8, R10_9, R10_10, R10_11, R10_12, R10_13, R10_14, Tryd.f10, lpL10_0, lpM10_0, M10_0, q1, H1, q4, q11, q12, q13, hi2, hgi, hv, lit1, bs_size, byteE_len, byteE_ok, byteE_app, hwn, hW1, htm, g6, gg, g7, g8, g9, ga, gb, B1, B2, h, h0, hm0]
            exact hn _ ⟨by simp [q1], by simp [q1, H1], by simp [q4], by simp [q11], by simp [q12], by simp, .inr ⟨by simp, 12312, s.tick + 1 + 1 + 1 + 1 + 1, .inr rfl, by simp [q4, Nat.add_assoc], by simp [q4]⟩⟩
          · have h0 : 0 < T.length := by
              rcases Nat.eq_zero_or_pos T.length with e | e
              · exact absurd (List.eq_nil_of_length_eq_zero e) h
              · exact e
            simp [L10_0, R10_0, R10_1, R10_2, R10_3, R10_4, R10_5, R10_6, R10_7, R10_8, R10_9, R10_10, R10_11, R10_12, R10_13, R10_14, Tryd.f10, lpL10_0, lpM10_0, M10_0, q1, H1, q4, q11, q12, q13, hi2, hgi, hv, lit1, bs_size, byteE_len, byteE_ok, byteE_app, hwn, hW1, htm, g6, gg, g7, g8, g9, ga, gb, B1, B2, h, h0, hm0]
            exact hn _ ⟨by simp [q1], by simp [q1, H1], by simp [q4], by simp [q11], by simp [q12], by simp, .inr ⟨by simp, 12312, s.tick + 1 + 1 + 1 + 1 + 1, .inr rfl, by simp [q4, Nat.add_assoc], by simp [q4]⟩⟩
        · obtain ⟨n1, n2⟩ := hnum hv
          have n3 : 0 < T.length + (cellT v).length := by omega
          rcases hB with ⟨h, B1⟩ | ⟨h, id, tk, rfl | rfl, B1, B2⟩
          · rw [h] at hn
            simp [L10_0, R10_0, R10_1, R10_2, R10_3, R10_4, R10_5, R10_6, R10_7, R10_8, R10_9, R10_10, R10_11, R10_12, R10_13, R10_14, Tryd.f10, lpL10_0, lpM10_0, M10_0, q1, H1, q4, q11, q12, q13, hi2, hgi, hv, lit1, bs_size, byteE_len, byteE_ok, byteE_app, hwn, hW1, htm, g6, gg, g7, g8, g9, ga, gb, B1, n1, n2, n3, hm0]
            exact hn _ ⟨by simp [q1], by simp [q1, H1], by simp [q4], by simp [q11], by simp [q12], by simp, .inr ⟨by simp, 12312, s.tick + 1 + 1 + 1 + 1 + 1, .inr rfl, by simp [q4, Nat.add_assoc], by simp [q4]⟩⟩
          · have h0 : 0 < T.length := by
              rcases Nat.eq_zero_or_pos T.length with e | e
              · exact absurd (List.eq_nil_of_length_eq_zero e) h
              · exact e
            simp [L10_0, R10_0, R10_1, R10_2, R10_3, R10_4, R10_5, R10_6, R10_7, R10_8, R10_9, R10_10, R10_11, R10_12, R10_13, R10_14, Tryd.f10, lpL10_0, lpM10_0, M10_0, q1, H1, q4, q11, q12, q13, hi2, hgi, hv, lit1, bs_size, byteE_len, byteE_ok, byteE_app, hwn, hW1, htm, g6, gg, g7, g8, g9, ga, gb, B1, B2, h, h0, n1, n2, n3, hm0]
            exact hn _ ⟨by simp [q1], by simp [q1, H1], by simp [q4], by simp [q11], by simp [q12], by simp, .inr ⟨by simp, 12312, s.tick + 1 + 1 + 1 + 1 + 1, .inr rfl, by simp [q4, Nat.add_assoc], by simp [q4]⟩⟩
          · have h0 : 0 < T.length := by
              rcases Nat.eq_zero_or_pos T.length with e | e
              · exact absurd (List.eq_nil_of_length_eq_zero e) h
              · exact e
            simp [L10_0, R10_0, R10_1, R10_2, R10_3, R10_4, R10_5, R10_6, R10_7, R10_8, R10_9, R10_10, R10_11, R10_12, R10_13, R10_14, Tryd.f10, lpL10_0, lpM10_0, M10_0, q1, H1, q4, q11, q12, q13, hi2, hgi, hv, lit1, bs_size, byteE_len, byteE_ok, byteE_app, hwn, hW1, htm, g6, gg, g7, g8, g9, ga, gb, B1, B2, h, h0, n1, n2, n3, hm0]
            exact hn _ ⟨by simp [q1], by simp [q1, H1], by simp [q4], by simp [q11], by simp [q12], by simp, .inr ⟨by simp, 12312, s.tick + 1 + 1 + 1 + 1 + 1, .inr rfl, by simp [q4, Nat.add_assoc], by simp [q4]⟩⟩)
    (by
      rintro s next ⟨q1, H1, q4, q11, q12, q13, hB⟩
      rw [List.take_length, hT] at hB
      simp [L10_0, R10_0, R10_1, R10_2, R10_3, R10_4, R10_5, R10_6, R10_7, R10_8, R10_9, R10_10, R10_11, R10_12, R10_13, R10_14, Tryd.f10, lpL10_0, lpM10_0, q4, q12, q13]
      rcases hB with ⟨h, h2⟩ | ⟨h, id, tk, hid, B1, B2⟩
      · exact .inl ⟨h, by simp [q4, h2]⟩
      · refine .inr ⟨h, id, tk, hid, ?_, ?_⟩
        · rcases hid with rfl | rfl <;> simp [q4, B1]
        · rcases hid with rfl | rfl <;> simp [q4, B1, B2])
  simp [R10_0, R10_1, R10_2, R10_3, R10_4, R10_5, R10_6, R10_7, R10_8, R10_9, R10_10, R10_11, R10_12, R10_13, R10_14, Tryd.f10, lpL10_0, lpM10_0, fldV, G]
  generalize hr : loopRun _ _ _ _ = res
  obtain ⟨s1, rfl, f4, hB⟩ := loop_at hL hr ⟨by simp, by simp, by simp, by simp, by simp, by simp, .inl ⟨by simp [txT], by simp⟩⟩
  have hne : textF W H l ≠ [] := by
    rw [← hT]
    cases l with
    | nil =>
      have := Nat.mul_le_mul (by omega : 1 ≤ W) (by omega : 1 ≤ H)
      simp at hcl'
      omega
    | cons a l => simp [txT]
  rcases hB with ⟨h, _⟩ | ⟨_, id, tk, hid, B1, B2⟩
  · exact absurd h hne
  · have e1 := byteE_len (textF W H l)
    have e2 := byteE_bytes (textF W H l)
    have e3 : 0 < (textF W H l).length := by
      rcases Nat.eq_zero_or_pos (textF W H l).length with h0 | h0
      · exact absurd (List.eq_nil_of_length_eq_zero h0) hne
      · exact h0
    rcases hid with rfl | rfl
    · simp [R10_0, R10_1, R10_2, R10_3, R10_4, R10_5, R10_6, R10_7, R10_8, R10_9, R10_10, R10_11, R10_12, R10_13, R10_14, Tryd.f10, lpL10_0, lpM10_0, M10_0, f4, B1, B2, e1, e2, e3, hne]; rfl
    · simp [R10_0, R10_1, R10_2, R10_3, R10_4, R10_5, R10_6, R10_7, R10_8, R10_9, R10_10, R10_11, R10_12, R10_13, R10_14, Tryd.f10, lpL10_0, lpM10_0, M10_0, f4, B1, B2, e1, e2, e3, hne]; rfl
theorem c_FieldTextNo (k : Nat) (b : Bool) (w h : Int) (l : List Int) (hg : goodB w h l = false) (hk : 500 ≤ k) : callK C k 10 [fldV b w h l] [] = some (.tp [.c (.string (bs [])), .c (.bool false)], hpOf [] []) := by
  obtain ⟨k, rfl⟩ : ∃ m, k = m + 9 := ⟨k - 9, by omega⟩
  rw [callK_fn rfl F10 code10]
  have G := c_IsValidField (k + 8) b w h l (by omega)
  rw [hg] at G
  simp [fldV] at G
  simp [R10_0, R10_1, R10_2, R10_3, R10_4, R10_5, R10_6, R10_7, R10_8, R10_9, R10_10, R10_11, R10_12, R10_13, R10_14, Tryd.f10, lpL10_0, lpM10_0, M10_0, fldV, G, lit0]

end Go.Proofs.YtalpgpjhloohfaaDoor.Eng
namespace Go.Proofs.YtalpgpjhloohfaaDoor.Eng
open Go Go.Proofs
set_option maxRecDepth 100000
set_option maxHeartbeats 2000000
set_option linter.unusedSimpArgs false
set_option linter.unusedVariables false
attribute [local simp] finK fin1 hpOf xi renQ isRoot runCode runOps Eng.step wantedV astep val ofO made loadV storeV find V.cells bin binT binA numT numFs eqCells un1 setAt fieldAddrV fieldV indexAddrV indexV bounds sliceV convV lenV foldV max2V min2V callO bor rdsO wrsO seen_none okD_none loops keepIds resV resultsV St.ev TK.agg refs refsL refsO V.one V.isC Value.oneCell' ren renL renO noTag noTagL noTagR noTagO nodup mapO passV frs psi refsR newD loopNext opsAt idx flatAt rootOf backR newsV appendV copyV clearV strV bytesV bldV bufV selfV bytesOf nilCmp buildV fillF chunk
attribute [local simp] cT cF cX cWR cOW cK cBL X ints_length ints_get ints_getElem ints_drop ints_take ints_append ints_nil ints_set
attribute [local simp] ints_replicate
attribute [local simp] putV_some putV_none putH_app applyD_nil applyD_cons seen_app gc_ρ gc_H gc_tick st0_ρ st0_H st0_tick retV callRo callV_if borL_nil borL_cons ints_snoc take_self callWr cutH_app findQ afterV exportV_0 exportV_n okD_nil okD_cons sub_seq0 sub_seq1 sub_cond0 sub_cond1 sub_block sub_loop sub_nil young_far young_none hidW_nil mayW_nil pairs okI ok_0 ok_1 ok_2
attribute [local simp] T3 T4 T5 T9 T22 T28 T32 T55 T57 T63 T64 T66 T70 T72
attribute [local simp] young_near clo cloF Region.binds Nat.testBit hidW declW mayW List.findIdx?_cons
/-- May the cell be set? -/
def sOk (w h : Int) (l : List Int) (x y v : Int) : Bool := goodB w h l && (hasB w h x y && cellB v)
/-- The cells with one set. -/
def setL (l : List Int) (w x y v : Int) : List Int := l.set (y * w + x).toNat v
theorem setL_len (l : List Int) (w x y v : Int) : (setL l w x y v).length = l.length := by simp [setL]
theorem c_implSet (k : Nat) (b : Bool) (w h : Int) (l : List Int) (x y v : Int) (hs : sOk w h l x y v = true) (hk : 400 ≤ k) : callK C k 29 [fldV b w h l, .c (.int .i64 x), .c (.int .i64 y), .c (.int .i64 v)] [] = some (.tp [ownV w h 0 2 l.length, .c (.bool true)], hpOf [] [intsO (setL l w x y v)]) := by
  obtain ⟨k, rfl⟩ : ∃ m, k = m + 9 := ⟨k - 9, by omega⟩
  rw [callK_fn rfl F29 code29]
  simp only [sOk, Bool.and_eq_true] at hs
  obtain ⟨hg, hh, hc⟩ := hs
  have hv := c_IsValidField (k + 8) b w h l (by omega)
  obtain ⟨s1, n1, cl1, k1⟩ := good_length hg
  obtain ⟨_, _, p1, p2, p3, p4⟩ := shape_area s1
  have h1 := c_hasCell (k + 8) b w h l x y ⟨p1, p2⟩ ⟨p3, p4⟩ (by omega)
  have h2 := c_isCell (k + 8) v (by omega)
  have hb := has_bound hh
  obtain ⟨i1, i2, i3, i4⟩ := cell_ix (x := x) (y := y) n1 hb.1 hb.2.1 hb.2.2.1 hb.2.2.2
  have w1 : IntKind.i64.wrap (y * w) = y * w := wrap_small (by omega) (by omega)
  have w2 : IntKind.i64.wrap (y * w + x) = y * w + x := wrap_small (by omega) (by omega)
  have h0 : l ≠ [] := by intro e; rw [e] at i2; simp at i2; omega
  have h3 := c_cloneField (k + 8) b w h l (by omega) h0 (by omega)
  have i5 : (y * w + x).toNat < l.length := by omega
  rw [hg] at hv
  rw [hh] at h1
  rw [hc] at h2
  simp [fldV, intsO] at hv h1 h2 h3
  simp [R29_0, R29_1, R29_2, R29_3, R29_4, R29_5, Tryd.f29, fldV, hv, h1, h2, h3, w1, w2, i1, i2, i5, okI, ownV, intsO, setL]
theorem c_specSet (k : Nat) (b : Bool) (w h : Int) (l : List Int) (x y v : Int) (hs : sOk w h l x y v = true) (hk : 400 ≤ k) : callK C k 30 [fldV b w h l, .c (.int .i64 x), .c (.int .i64 y), .c (.int .i64 v)] [] = some (.tp [ownV w h 0 2 l.length, .c (.bool true)], hpOf [] [intsO (setL l w x y v)]) := by
  obtain ⟨k, rfl⟩ : ∃ m, k = m + 9 := ⟨k - 9, by omega⟩
  rw [callK_fn rfl F30 code30]
  simp only [sOk, Bool.and_eq_true] at hs
  obtain ⟨hg, hh, hc⟩ := hs
  have hv := c_l2Good (k + 8) b w h l (by omega)
  obtain ⟨s1, n1, cl1, k1⟩ := good_length hg
  obtain ⟨_, _, p1, p2, p3, p4⟩ := shape_area s1
  have h1 := c_l2Has (k + 8) b w h l x y ⟨p1, p2⟩ ⟨p3, p4⟩ (by omega)
  have h2 := c_l2Value (k + 8) v (by omega)
  have hb := has_bound hh
  obtain ⟨i1, i2, i3, i4⟩ := cell_ix (x := x) (y := y) n1 hb.1 hb.2.1 hb.2.2.1 hb.2.2.2
  have w1 : IntKind.i64.wrap (y * w) = y * w := wrap_small (by omega) (by omega)
  have w2 : IntKind.i64.wrap (y * w + x) = y * w + x := wrap_small (by omega) (by omega)
  have h3 := c_l2Own (k + 8) b w h l (by omega) (by omega)
  have i5 : (y * w + x).toNat < l.length := by omega
  rw [hg] at hv
  rw [hh] at h1
  rw [hc] at h2
  simp [fldV, intsO, ownV] at hv h1 h2 h3
  simp [R30_0, R30_1, R30_2, R30_3, R30_4, R30_5, Tryd.f30, fldV, hv, h1, h2, h3, w1, w2, i1, i2, i5, okI, ownV, intsO, setL]
theorem c_implSetNo (k : Nat) (b : Bool) (w h : Int) (l : List Int) (x y v : Int) (hs : sOk w h l x y v = false) (hk : 400 ≤ k) : callK C k 29 [fldV b w h l, .c (.int .i64 x), .c (.int .i64 y), .c (.int .i64 v)] [] = some (.tp [nilV, .c (.bool false)], hpOf [] []) := by
  obtain ⟨k, rfl⟩ : ∃ m, k = m + 9 := ⟨k - 9, by omega⟩
  rw [callK_fn rfl F29 code29]
  have hv := c_IsValidField (k + 8) b w h l (by omega)
  cases hg : goodB w h l
  · rw [hg] at hv
    simp [fldV] at hv
    simp [R29_0, R29_1, R29_2, R29_3, R29_4, R29_5, Tryd.f29, fldV, hv, nilV]
  · obtain ⟨s1, n1, cl1, k1⟩ := good_length hg
    obtain ⟨_, _, p1, p2, p3, p4⟩ := shape_area s1
    have h1 := c_hasCell (k + 8) b w h l x y ⟨p1, p2⟩ ⟨p3, p4⟩ (by omega)
    have h2 := c_isCell (k + 8) v (by omega)
    rw [hg] at hv
    simp [fldV] at hv
    cases hh : hasB w h x y
    · rw [hh] at h1
      simp [fldV] at h1
      simp [R29_0, R29_1, R29_2, R29_3, R29_4, R29_5, Tryd.f29, fldV, hv, h1, nilV]
    · rw [hh] at h1
      have hc : cellB v = false := by
        unfold sOk at hs
        rw [hg, hh] at hs
        simpa using hs
      rw [hc] at h2
      simp [fldV] at h1 h2
      simp [R29_0, R29_1, R29_2, R29_3, R29_4, R29_5, Tryd.f29, fldV, hv, h1, h2, nilV]
theorem c_specSetNo (k : Nat) (b : Bool) (w h : Int) (l : List Int) (x y v : Int) (hs : sOk w h l x y v = false) (hk : 400 ≤ k) : callK C k 30 [fldV b w h l, .c (.int .i64 x), .c (.int .i64 y), .c (.int .i64 v)] [] = some (.tp [nilV, .c (.bool false)], hpOf [] []) := by
  obtain ⟨k, rfl⟩ : ∃ m, k = m + 9 := ⟨k - 9, by omega⟩
  rw [callK_fn rfl F30 code30]
  have hv := c_l2Good (k + 8) b w h l (by omega)
  cases hg : goodB w h l
  · rw [hg] at hv
    simp [fldV] at hv
    simp [R30_0, R30_1, R30_2, R30_3, R30_4, R30_5, Tryd.f30, fldV, hv, nilV]
  · obtain ⟨s1, n1, cl1, k1⟩ := good_length hg
    obtain ⟨_, _, p1, p2, p3, p4⟩ := shape_area s1
    have h1 := c_l2Has (k + 8) b w h l x y ⟨p1, p2⟩ ⟨p3, p4⟩ (by omega)
    have h2 := c_l2Value (k + 8) v (by omega)
    rw [hg] at hv
    simp [fldV] at hv
    cases hh : hasB w h x y
    · rw [hh] at h1
      simp [fldV] at h1
      simp [R30_0, R30_1, R30_2, R30_3, R30_4, R30_5, Tryd.f30, fldV, hv, h1, nilV]
    · rw [hh] at h1
      have hc : cellB v = false := by
        unfold sOk at hs
        rw [hg, hh] at hs
        simpa using hs
      rw [hc] at h2
      simp [fldV] at h1 h2
      simp [R30_0, R30_1, R30_2, R30_3, R30_4, R30_5, Tryd.f30, fldV, hv, h1, h2, nilV]
theorem set_facts {w h : Int} {l : List Int} {x y v : Int} (hs : sOk w h l x y v = true) :
    cOk w h (setL l w x y v) x y = true ∧ cellOf (setL l w x y v) w x y = v ∧ cOk w h l x y = true ∧ sOk w h (setL l w x y v) x y (cellOf l w x y) = true ∧ setL (setL l w x y v) w x y (cellOf l w x y) = l := by
  simp only [sOk, Bool.and_eq_true] at hs
  obtain ⟨hg, hh, hc⟩ := hs
  obtain ⟨s1, n1, cl1, k1⟩ := good_length hg
  have hb := has_bound hh
  obtain ⟨i1, i2, i3, i4⟩ := cell_ix (x := x) (y := y) n1 hb.1 hb.2.1 hb.2.2.1 hb.2.2.2
  obtain ⟨j, hj⟩ : ∃ j, (y * w + x).toNat = j := ⟨_, rfl⟩
  have hjl : j < l.length := by omega
  have e1 : cellOf l w x y = l[j] := by unfold cellOf; rw [hj, List.getD_eq_getElem?_getD, List.getElem?_eq_getElem hjl]; rfl
  have hg' : goodB w h (setL l w x y v) = true := by
    simp only [goodB, Bool.and_eq_true, beq_iff_eq] at hg ⊢
    refine ⟨hg.1, by rw [setL_len]; exact hg.2.1, ?_⟩
    rw [List.all_eq_true] at cl1 ⊢
    intro z hz
    rcases List.mem_or_eq_of_mem_set hz with hz | rfl
    · exact cl1 z hz
    · exact hc
  refine ⟨?_, ?_, ?_, ?_, ?_⟩
  · simp only [cOk, hg', hh, Bool.and_self]
  · unfold cellOf setL
    rw [hj, List.getD_eq_getElem?_getD, List.getElem?_set_self hjl]
    rfl
  · simp only [cOk, hg, hh, Bool.and_self]
  · simp only [sOk, hg', hh, Bool.true_and]
    rw [e1]
    exact List.all_eq_true.1 cl1 _ (List.getElem_mem hjl)
  · rw [e1]
    unfold setL
    rw [hj, List.set_set, List.set_getElem_self]

end Go.Proofs.YtalpgpjhloohfaaDoor.Eng
namespace Go.Proofs.YtalpgpjhloohfaaDoor.Eng
open Go Go.Proofs
set_option maxRecDepth 100000
set_option maxHeartbeats 2000000
set_option linter.unusedSimpArgs false
set_option linter.unusedVariables false
attribute [local simp] finK fin1 hpOf xi renQ isRoot runCode runOps Eng.step wantedV astep val ofO made loadV storeV find V.cells bin binT binA numT numFs eqCells un1 setAt fieldAddrV fieldV indexAddrV indexV bounds sliceV convV lenV foldV max2V min2V callO bor rdsO wrsO seen_none okD_none loops keepIds resV resultsV St.ev TK.agg refs refsL refsO V.one V.isC Value.oneCell' ren renL renO noTag noTagL noTagR noTagO nodup mapO passV frs psi refsR newD loopNext opsAt idx flatAt rootOf backR newsV appendV copyV clearV strV bytesV bldV bufV selfV bytesOf nilCmp buildV fillF chunk
attribute [local simp] cT cF cX cWR cOW cK cBL X ints_length ints_get ints_getElem ints_drop ints_take ints_append ints_nil ints_set
attribute [local simp] ints_replicate
attribute [local simp] putV_some putV_none putH_app applyD_nil applyD_cons seen_app gc_ρ gc_H gc_tick st0_ρ st0_H st0_tick retV callRo callV_if borL_nil borL_cons ints_snoc take_self callWr cutH_app findQ afterV exportV_0 exportV_n okD_nil okD_cons sub_seq0 sub_seq1 sub_cond0 sub_cond1 sub_block sub_loop sub_nil young_far young_none hidW_nil mayW_nil pairs okI ok_0 ok_1 ok_2
attribute [local simp] T3 T4 T5 T9 T22 T28 T32 T55 T57 T63 T64 T66 T70 T72
/-- A field's text read again. -/
theorem acc_text {w n : Nat} {c : List Int} (hg : goodB w n c = true) : accI (textF w n c) = some (w, n, c) := by
  obtain ⟨sh, hcl, hall, _⟩ := good_length hg
  obtain ⟨_, _, a1, a2, b1, b2⟩ := shape_area sh
  have hcl' : c.length = w * n := by
    have : ((w * n : Nat) : Int) = (w : Int) * (n : Int) := Int.natCast_mul w n
    omega
  obtain ⟨hf, hw⟩ := chnk_flat w n c hcl'
  have hRl := chnk_len w n c
  obtain ⟨s, hs0⟩ : ∃ s, textF w n c = s := ⟨_, rfl⟩
  rw [hs0]
  unfold textF at hs0
  obtain ⟨R, hR⟩ : ∃ R, chnk w n c = R := ⟨_, rfl⟩
  rw [hR] at hf hw hRl hs0
  have hR0 : R ≠ [] := by intro e; rw [e] at hRl; simp at hRl; omega
  have hcr : ∀ r ∈ R, r.all cellB = true := cells_rows (by rw [hf]; exact hall)
  obtain ⟨hcut, he⟩ := rows_cut hR0
  obtain ⟨L, hL⟩ : ∃ L, joinB (R.map rowT) 10 = L := ⟨_, rfl⟩
  rw [hL] at hcut he
  have hs : s = L ++ [10] := by rw [← hs0]; exact he
  have hsl : splitL L 10 = R.map rowT := split_is hcut
  have hdl : s.dropLast = L := by rw [hs]; simp
  have hlen : s.length ≤ 384 := by
    have := rows_len R w (by omega) hw hcr
    rw [hs0, hRl] at this
    have h64 : w * n ≤ 64 := by
      have : w * n ≤ 8 * 8 := Nat.mul_le_mul (by omega) (by omega)
      omega
    omega
  have hpI : preI (R.map rowT) n = some (w, c) := by
    have := (preI_of R w (by omega) hw hcr R.length (Nat.le_refl _)).1
    rw [if_neg (by omega), List.take_length, hf, hRl] at this
    exact this
  unfold accI
  rw [hdl, hsl, List.length_map, hRl, hpI]
  simp only []
  rw [if_pos ⟨hlen, by rw [hs]; simp⟩, if_pos hg]
/-- What is read is valid, and has this text. -/
theorem acc_back {s : List UInt8} {w n : Nat} {c : List Int} (h : accI s = some (w, n, c)) : goodB w n c = true ∧ textF w n c = s := by
  rw [acc_same] at h
  unfold accS at h
  split at h
  case isFalse => cases h
  split at h
  case h_2 => cases h
  split at h
  case isFalse => cases h
  rename_i hg
  simp only [Option.some.injEq, Prod.mk.injEq] at h
  obtain ⟨rfl, rfl, rfl⟩ := h
  exact hg
theorem acc_nil : accI [] = none := by
  unfold accI
  rw [if_neg]
  simp
theorem text_len {W H : Nat} {l : List Int} (hg : goodB W H l = true) : (textF W H l).length ≤ 384 := by
  obtain ⟨s1, n1, cl1, k1⟩ := good_length hg
  obtain ⟨_, _, q1, q2, q3, q4⟩ := shape_area s1
  have hcl' : l.length = W * H := by
    have : ((W * H : Nat) : Int) = (W : Int) * (H : Int) := Int.natCast_mul W H
    omega
  obtain ⟨hf, hw⟩ := chnk_flat W H l hcl'
  have := rows_len (chnk W H l) W (by omega) hw (cells_rows (by rw [hf]; exact cl1))
  rw [chnk_len] at this
  unfold textF
  omega

end Go.Proofs.YtalpgpjhloohfaaDoor.Eng
namespace Go.Proofs.YtalpgpjhloohfaaDoor.Eng
open Go Go.Proofs
set_option maxRecDepth 100000
set_option maxHeartbeats 2000000
set_option linter.unusedSimpArgs false
set_option linter.unusedVariables false
attribute [local simp] finK fin1 hpOf xi renQ isRoot runCode runOps Eng.step wantedV astep val ofO made loadV storeV find V.cells bin binT binA numT numFs eqCells un1 setAt fieldAddrV fieldV indexAddrV indexV bounds sliceV convV lenV foldV max2V min2V callO bor rdsO wrsO seen_none okD_none loops keepIds resV resultsV St.ev TK.agg refs refsL refsO V.one V.isC Value.oneCell' ren renL renO noTag noTagL noTagR noTagO nodup mapO passV frs psi refsR newD loopNext opsAt idx flatAt rootOf backR newsV appendV copyV clearV strV bytesV bldV bufV selfV bytesOf nilCmp buildV fillF chunk
attribute [local simp] cT cF cX cWR cOW cK cBL X ints_length ints_get ints_getElem ints_drop ints_take ints_append ints_nil ints_set
attribute [local simp] ints_replicate
attribute [local simp] putV_some putV_none putH_app applyD_nil applyD_cons seen_app gc_ρ gc_H gc_tick st0_ρ st0_H st0_tick retV callRo callV_if borL_nil borL_cons ints_snoc take_self callWr cutH_app findQ afterV exportV_0 exportV_n okD_nil okD_cons sub_seq0 sub_seq1 sub_cond0 sub_cond1 sub_block sub_loop sub_nil young_far young_none hidW_nil mayW_nil pairs okI ok_0 ok_1 ok_2
attribute [local simp] T3 T4 T5 T9 T22 T28 T32 T55 T57 T63 T64 T66 T70 T72
attribute [local simp] young_near clo cloF Region.binds Nat.testBit hidW declW mayW List.findIdx?_cons
theorem c_spoiltF (k : Nat) (c : Cur) (m : Nat) (t : List UInt8) (h : c.P m) (hm : m ≤ 100000000) (hl : t.length ≤ 1000) (hk : 100 ≤ k) : ∃ (r : List UInt8) (c' : Cur), callK C k 76 [.p 0 0 3 0 0, .c (.string (bs t)), .c (.string (bs [49, 32, 46, 10, 45]))] [curO c] = some (.c (.string (bs r)), hpOf [some (curO c')] []) ∧ r.length ≤ 3000 := by
  obtain ⟨k, rfl⟩ : ∃ m, k = m + 9 := ⟨k - 9, by omega⟩
  rw [callK_fn rfl F76 code76]
  by_cases h0 : t = []
  · subst h0
    refine ⟨[49], c, ?_, by simp⟩
    simp [R76_0, R76_1, R76_2, R76_3, R76_4, R76_5, R76_6, R76_7, R76_8, R76_9, R76_10, Tryd.f76, curO, curE, lit0, bs_neq, bs_size, bs_extract]
  have hp : 0 < t.length := List.length_pos_iff.2 h0
  obtain ⟨r1, c1, e1, r1a, r1b, p1⟩ := c_pick (k + 8) c m t.length h (by omega) (by omega) (by omega)
  obtain ⟨i, rfl⟩ : ∃ i : Nat, r1 = i := ⟨r1.toNat, by omega⟩
  have hi : i < t.length := by omega
  obtain ⟨r2, c2, e2, r2a, r2b, p2⟩ := c_pick (k + 8) c1 _ 5 p1 (by omega) (by omega) (by omega)
  obtain ⟨r3, c3, e3, r3a, r3b, p3⟩ := c_pick (k + 8) c2 _ 3 p2 (by omega) (by omega) (by omega)
  simp [curO, curE] at e1 e2 e3
  have g1 : (i : Int) ≤ (t.length : Int) := by omega
  have g2 : i ≤ t.length := by omega
  have g3 : (i : Int) + 1 ≤ (t.length : Int) := by omega
  have g4 : i + 1 ≤ t.length := by omega
  have g5 : (0 : Int) ≤ (i : Int) + 1 := by omega
  have g6 : ((i : Int) + 1).toNat = i + 1 := by omega
  have w1 : IntKind.i64.wrap ((i : Int) + 1) = (i : Int) + 1 := wrap_small (by omega) (by omega)
  obtain ⟨T1, hT1⟩ : ∃ T, (bs t).extract 0 i = bs T ∧ T.length ≤ 1000 := ⟨_, bs_extract t 0 i, by simp; omega⟩
  obtain ⟨T2, hT2⟩ : ∃ T, (bs t).extract i t.length = bs T ∧ T.length ≤ 1000 := ⟨_, bs_extract t i t.length, by simp; omega⟩
  obtain ⟨T3, hT3⟩ : ∃ T, (bs t).extract (i + 1) t.length = bs T ∧ T.length ≤ 1000 := ⟨_, bs_extract t (i + 1) t.length, by simp; omega⟩
  obtain ⟨hT1, n1⟩ := hT1
  obtain ⟨hT2, n2⟩ := hT2
  obtain ⟨hT3, n3⟩ := hT3
  have a1 : T1.length + 1 ≤ 9223372036854775807 := by omega
  have a2 : T1.length + 1 + T2.length ≤ 9223372036854775807 := by omega
  have a3 : T1.length + 1 + T3.length ≤ 9223372036854775807 := by omega
  have a4 : T1.length + T3.length ≤ 9223372036854775807 := by omega
  have a5 : T1.length + (T2.length + 1) ≤ 9223372036854775807 := by omega
  have a6 : T1.length + (T3.length + 1) ≤ 9223372036854775807 := by omega
  have hX : ∀ j, (bs [49, 32, 46, 10, 45]).extract j 5 = bs (([49, 32, 46, 10, 45].drop j).take (5 - j)) := fun j => bs_extract _ j 5
  have hY : ∀ l : List UInt8, (bs l).extract 0 1 = bs (l.take 1) := fun l => by rw [bs_extract]; simp
  have hq : r3 = 0 ∨ r3 = 1 ∨ r3 = 2 := by omega
  have hj : r2 = 0 ∨ r2 = 1 ∨ r2 = 2 ∨ r2 = 3 ∨ r2 = 4 := by omega
  obtain ⟨wv, hwv⟩ : ∃ wv : UInt8, (r2 = 0 ∧ wv = 49) ∨ (r2 = 1 ∧ wv = 32) ∨ (r2 = 2 ∧ wv = 46) ∨ (r2 = 3 ∧ wv = 10) ∨ (r2 = 4 ∧ wv = 45) := by
    rcases hj with h | h | h | h | h
    · exact ⟨49, by simp [h]⟩
    · exact ⟨32, by simp [h]⟩
    · exact ⟨46, by simp [h]⟩
    · exact ⟨10, by simp [h]⟩
    · exact ⟨45, by simp [h]⟩
  rcases hq with rfl | rfl | rfl
  · refine ⟨T1 ++ [wv] ++ T2, c3, ?_, by simp; omega⟩
    rcases hwv with ⟨rfl, rfl⟩ | ⟨rfl, rfl⟩ | ⟨rfl, rfl⟩ | ⟨rfl, rfl⟩ | ⟨rfl, rfl⟩ <;>
      simp [R76_0, R76_1, R76_2, R76_3, R76_4, R76_5, R76_6, R76_7, R76_8, R76_9, R76_10, Tryd.f76, curO, curE, lit0, bs_neq, bs_size, h0, e1, e2, e3, hT1, hT2, hT3, hX, hY, bs_append, g1, g2, g3, g4, g5, g6, w1, a1, a2, a3, a4, a5, a6]
  · refine ⟨T1 ++ [wv] ++ T3, c3, ?_, by simp; omega⟩
    rcases hwv with ⟨rfl, rfl⟩ | ⟨rfl, rfl⟩ | ⟨rfl, rfl⟩ | ⟨rfl, rfl⟩ | ⟨rfl, rfl⟩ <;>
      simp [R76_0, R76_1, R76_2, R76_3, R76_4, R76_5, R76_6, R76_7, R76_8, R76_9, R76_10, Tryd.f76, curO, curE, lit0, bs_neq, bs_size, h0, e1, e2, e3, hT1, hT2, hT3, hX, hY, bs_append, g1, g2, g3, g4, g5, g6, w1, a1, a2, a3, a4, a5, a6]
  · refine ⟨T1 ++ T3, c3, ?_, by simp; omega⟩
    rcases hwv with ⟨rfl, rfl⟩ | ⟨rfl, rfl⟩ | ⟨rfl, rfl⟩ | ⟨rfl, rfl⟩ | ⟨rfl, rfl⟩ <;>
      simp [R76_0, R76_1, R76_2, R76_3, R76_4, R76_5, R76_6, R76_7, R76_8, R76_9, R76_10, Tryd.f76, curO, curE, lit0, bs_neq, bs_size, h0, e1, e2, e3, hT1, hT2, hT3, hX, hY, bs_append, g1, g2, g3, g4, g5, g6, w1, a1, a2, a3, a4, a5, a6]
theorem c_DrawSetCell (k : Nat) (code : List Int) (hb : ∀ x ∈ code, 0 ≤ x ∧ x ≤ 255) (hl : code.length ≤ maxLen) (hk : 1000 ≤ k) : ∃ (w h : Int) (l : List Int) (off n : Nat) (x y v : Int), callK C k 28 [.sq false true 1 (u8s code)] [] = some (.tp [.ag [.c (.int .i64 w), .c (.int .i64 h), .s 0 2 1 off n], .c (.int .i64 x), .c (.int .i64 y), .c (.int .i64 v)], hpOf [] [intsO l]) ∧ off + n ≤ l.length ∧ l.length ≤ 64 := by
  obtain ⟨k, rfl⟩ : ∃ m, k = m + 9 := ⟨k - 9, by omega⟩
  rw [callK_fn rfl F28 code28]
  obtain ⟨w, h, l, off, n, c1, e1, hon, h64, p1⟩ := c_anyField (k + 8) ⟨code, 0, 0⟩ 0 ⟨hb, hl, Nat.le_refl _⟩ (by omega) (by omega)
  obtain ⟨r2, c2, e2, _, _, p2⟩ := c_pick (k + 8) c1 (0 + 300) 5 p1 (by omega) (by omega) (by omega)
  obtain ⟨r3, c3, e3, _, _, p3⟩ := c_pick (k + 8) c2 _ 9 p2 (by omega) (by omega) (by omega)
  obtain ⟨r4, c4, e4, _, _, p4⟩ := c_pick (k + 8) c3 _ 5 p3 (by omega) (by omega) (by omega)
  obtain ⟨i5, hi5, c5, e5, p5⟩ := c_among (k + 8) c4 _ true [0, 7, -7, 9000, -9000, 9001, -9999, -9998] p4 (by omega) (by simp) (by simp) (by omega)
  obtain ⟨v5, hv5⟩ : ∃ b, [(0 : Int), 7, -7, 9000, -9000, 9001, -9999, -9998][i5] = b := ⟨_, rfl⟩
  rw [hv5] at e5
  simp [curO, curE, intsO] at e1 e2 e3 e4
  simp [curO, curE, ints_cons, ints_0] at e5
  refine ⟨w, h, l, off, n, IntKind.i64.wrap (r2 - IntKind.i64.wrap (r3.tdiv 8)), r4, v5, ?_, hon, h64⟩
  simp [R28_0, R28_1, R28_2, Tryd.f28, e1, e2, e3, e4, e5, intsO, ints_cons, ints_0, ok_cons]
theorem c_DrawParseField (k : Nat) (code : List Int) (hb : ∀ x ∈ code, 0 ≤ x ∧ x ≤ 255) (hl : code.length ≤ maxLen) (hk : 2000 ≤ k) : ∃ (r : List UInt8), callK C k 35 [.sq false true 1 (u8s code)] [] = some (.c (.string (bs r)), hpOf [] []) ∧ r.length ≤ 3000 := by
  obtain ⟨k, rfl⟩ : ∃ m, k = m + 9 := ⟨k - 9, by omega⟩
  rw [callK_fn rfl F35 code35]
  obtain ⟨w, h, l, c1, e1, hg, p1⟩ := c_fieldG (k + 8) ⟨code, 0, 0⟩ 0 ⟨hb, hl, Nat.le_refl _⟩ (by omega) (by omega)
  obtain ⟨s1, n1, cl1, k1⟩ := good_length hg
  obtain ⟨_, _, q1, q2, q3, q4⟩ := shape_area s1
  obtain ⟨W, rfl⟩ : ∃ W : Nat, w = W := ⟨w.toNat, by omega⟩
  obtain ⟨H, rfl⟩ : ∃ H : Nat, h = H := ⟨h.toNat, by omega⟩
  have e2 := c_l2Text (k + 8) true W H l hg (by omega)
  have hlen : (textF W H l).length ≤ 384 := by
    have hcl' : l.length = W * H := by
      have : ((W * H : Nat) : Int) = (W : Int) * (H : Int) := Int.natCast_mul W H
      omega
    obtain ⟨hf, hw⟩ := chnk_flat W H l hcl'
    have := rows_len (chnk W H l) W (by omega) hw (cells_rows (by rw [hf]; exact cl1))
    rw [chnk_len] at this
    unfold textF
    omega
  obtain ⟨t, ht⟩ : ∃ t, textF W H l = t := ⟨_, rfl⟩
  rw [ht] at e2 hlen
  obtain ⟨b3, c3, e3, p3⟩ := c_one (k + 8) c1 _ 4 p1 (by omega) (by omega) (by omega)
  obtain ⟨r, c4, e4, hr⟩ := c_spoiltF (k + 8) c3 _ t p3 (by omega) (by omega) (by omega)
  have q1 : l.take l.length = l := List.take_length
  simp [curO, curE, intsO, fldV] at e1 e2 e3
  simp [curO, curE] at e4
  have hlit : (⟨#[49, 32, 46, 10, 45]⟩ : ByteArray) = bs [49, 32, 46, 10, 45] := rfl
  cases b3
  · refine ⟨t, ?_, by omega⟩
    simp [R35_0, R35_1, R35_2, R35_3, R35_4, R35_5, Tryd.f35, e1, e2, e3, q1, intsO]
  · refine ⟨r, ?_, hr⟩
    simp [R35_0, R35_1, R35_2, R35_3, R35_4, R35_5, Tryd.f35, e1, e2, e3, e4, q1, intsO, hlit]

end Go.Proofs.YtalpgpjhloohfaaDoor.Eng
namespace Go.Proofs.YtalpgpjhloohfaaDoor.Eng
open Go Go.Proofs
set_option maxRecDepth 100000
set_option maxHeartbeats 2000000
set_option linter.unusedSimpArgs false
set_option linter.unusedVariables false
attribute [local simp] finK fin1 hpOf xi renQ isRoot runCode runOps Eng.step wantedV astep val ofO made loadV storeV find V.cells bin binT binA numT numFs eqCells un1 setAt fieldAddrV fieldV indexAddrV indexV bounds sliceV convV lenV foldV max2V min2V callO bor rdsO wrsO seen_none okD_none loops keepIds resV resultsV St.ev TK.agg refs refsL refsO V.one V.isC Value.oneCell' ren renL renO noTag noTagL noTagR noTagO nodup mapO passV frs psi refsR newD loopNext opsAt idx flatAt rootOf backR newsV appendV copyV clearV strV bytesV bldV bufV selfV bytesOf nilCmp buildV fillF chunk
attribute [local simp] cT cF cX cWR cOW cK cBL X ints_length ints_get ints_getElem ints_drop ints_take ints_append ints_nil ints_set
attribute [local simp] ints_replicate
attribute [local simp] putV_some putV_none putH_app applyD_nil applyD_cons seen_app gc_ρ gc_H gc_tick st0_ρ st0_H st0_tick retV callRo callV_if borL_nil borL_cons ints_snoc take_self callWr cutH_app findQ afterV exportV_0 exportV_n okD_nil okD_cons sub_seq0 sub_seq1 sub_cond0 sub_cond1 sub_block sub_loop sub_nil young_far young_none hidW_nil mayW_nil pairs okI ok_0 ok_1 ok_2
attribute [local simp] T3 T4 T5 T9 T22 T28 T32 T55 T57 T63 T64 T66 T70 T72
attribute [local simp] young_near clo cloF Region.binds Nat.testBit hidW declW mayW List.findIdx?_cons
theorem c_FieldTextNil (k : Nat) (w h : Int) (hk : 500 ≤ k) : callK C k 10 [.ag [.c (.int .i64 w), .c (.int .i64 h), .c (.slice none 0 0)]] [] = some (.tp [.c (.string (bs [])), .c (.bool false)], hpOf [] []) := by
  obtain ⟨k, rfl⟩ : ∃ m, k = m + 9 := ⟨k - 9, by omega⟩
  rw [callK_fn rfl F10 code10]
  have G := c_IsValidNil (k + 8) w h (by omega)
  simp [R10_0, R10_1, R10_2, R10_3, R10_4, R10_5, R10_6, R10_7, R10_8, R10_9, R10_10, R10_11, R10_12, R10_13, R10_14, Tryd.f10, lpL10_0, lpM10_0, M10_0, fldV, G, lit0]
theorem c_specValid (k : Nat) (b : Bool) (w h : Int) (l : List Int) (hk : 300 ≤ k) : callK C k 33 [fldV b w h l] [] = some (.c (.bool (goodB w h l)), hpOf [] []) := by
  obtain ⟨k, rfl⟩ : ∃ m, k = m + 9 := ⟨k - 9, by omega⟩
  rw [callK_fn rfl F33 code33]
  have G := c_l2Good (k + 8) b w h l (by omega)
  simp [fldV] at G
  simp [R33_0, R33_1, Tryd.f33, fldV, G]
theorem law_FnFields (code : List Int) (hl : code.length ≤ maxLen) (hb : ∀ x ∈ code, (Lit.int .u8 x).wf = true) : ∃ k, callK C k 6 [.sq false true 1 (u8s code)] [] = some (.c (.bool true), hpOf [] []) := by
  have hb' : ∀ x ∈ code, 0 ≤ x ∧ x ≤ 255 := fun x hx => by
    have := hb x hx
    simpa [Lit.wf, IntKind.min, IntKind.max, IntKind.signed, IntKind.bits] using this
  refine ⟨20000, ?_⟩
  rw [callK_fn (k := 19999) rfl F6 code6]
  have v0 := c_vBig 19999 code (by omega)
  by_cases h16 : 65536 < code.length
  · simp [h16] at v0
    simp [R6_0, R6_1, R6_2, R6_3, R6_4, R6_5, R6_6, R6_7, R6_8, R6_9, R6_10, R6_11, R6_12, R6_13, R6_14, R6_15, R6_16, R6_17, R6_18, R6_19, R6_20, R6_21, Tryd.f6, v0]
  simp [h16] at v0
  obtain ⟨w, h, l, off, n, x, y, v, D1, hon, h64⟩ := c_DrawSetCell 19999 code hb' hl (by omega)
  obtain ⟨t, D2, hr⟩ := c_DrawParseField 19999 code hb' hl (by omega)
  obtain ⟨L, hL⟩ : ∃ L, (l.drop off).take n = L := ⟨_, rfl⟩
  have hn : n = L.length := by rw [← hL, List.length_take, List.length_drop]; omega
  have hLl : L.length ≤ 64 := by omega
  have P2 := c_implPF 19999 t (by omega) (by omega)
  have G1 := c_IsValidField 19999 true w h L (by omega)
  have G2 := c_specValid 19999 true w h L (by omega)
  cases hs : sOk w h L x y v
  · have S1 := c_implSetNo 19999 true w h L x y v hs (by omega)
    have S2 := c_specSetNo 19999 true w h L x y v hs (by omega)
    have V1 := c_vFieldNil 19999 (by omega)
    cases hg : goodB w h L
    · rw [hg] at G1 G2
      have F1 := c_FieldTextNo 19999 true w h L hg (by omega)
      have P1 := c_implPF 19999 [] (by simp) (by omega)
      rw [acc_nil] at P1
      simp only [pfRes] at P1
      simp [fldV, nilV, intsO] at D1 G1 G2 S1 S2 V1 F1 P1
      cases ha : accI t with
      | none =>
        rw [ha] at P2
        have F2 := c_FieldTextNil 19999 0 0 (by omega)
        simp only [pfRes] at P2
        simp [R6_0, R6_1, R6_2, R6_3, R6_4, R6_5, R6_6, R6_7, R6_8, R6_9, R6_10, R6_11, R6_12, R6_13, R6_14, R6_15, R6_16, R6_17, R6_18, R6_19, R6_20, R6_21, Tryd.f6, v0, D1, D2, hL, hon, undef, G1, G2, S1, S2, V1, F1, P1, intsO, P2, F2]
      | some q =>
        obtain ⟨w', n', c'⟩ := q
        obtain ⟨g', ht'⟩ := acc_back ha
        rw [ha] at P2
        have F2 := c_FieldText 19999 true w' n' c' g' (by omega)
        rw [ht'] at F2
        have q2 : c'.take c'.length = c' := List.take_length
        simp only [pfRes] at P2
        simp [fldV, intsO] at P2 F2
        simp [R6_0, R6_1, R6_2, R6_3, R6_4, R6_5, R6_6, R6_7, R6_8, R6_9, R6_10, R6_11, R6_12, R6_13, R6_14, R6_15, R6_16, R6_17, R6_18, R6_19, R6_20, R6_21, Tryd.f6, v0, D1, D2, hL, hon, undef, G1, G2, S1, S2, V1, F1, P1, intsO, P2, F2, q2]
    · rw [hg] at G1 G2
      obtain ⟨s1, n1, cl1, k1⟩ := good_length hg
      obtain ⟨_, _, q1, q2, q3, q4⟩ := shape_area s1
      obtain ⟨W, rfl⟩ : ∃ W : Nat, w = W := ⟨w.toNat, by omega⟩
      obtain ⟨H, rfl⟩ : ∃ H : Nat, h = H := ⟨h.toNat, by omega⟩
      have F1 := c_FieldText 19999 true W H L hg (by omega)
      have hlen := text_len hg
      have P1 := c_implPF 19999 (textF W H L) (by omega) (by omega)
      rw [acc_text hg] at P1
      simp only [pfRes] at P1
      have V2 := c_vField 19999 true true (W : Int) (H : Int) L (by omega) (by omega)
      have q1 : L.take L.length = L := List.take_length
      obtain ⟨T, hT⟩ : ∃ T, textF W H L = T := ⟨_, rfl⟩
      rw [hT] at F1 P1
      simp [fldV, nilV, intsO] at D1 G1 G2 S1 S2 V1 V2 F1 P1
      cases ha : accI t with
      | none =>
        rw [ha] at P2
        have F2 := c_FieldTextNil 19999 0 0 (by omega)
        simp only [pfRes] at P2
        simp [R6_0, R6_1, R6_2, R6_3, R6_4, R6_5, R6_6, R6_7, R6_8, R6_9, R6_10, R6_11, R6_12, R6_13, R6_14, R6_15, R6_16, R6_17, R6_18, R6_19, R6_20, R6_21, Tryd.f6, v0, D1, D2, hL, hon, undef, G1, G2, S1, S2, V1, V2, F1, P1, q1, intsO, P2, F2]
      | some q =>
        obtain ⟨w', n', c'⟩ := q
        obtain ⟨g', ht'⟩ := acc_back ha
        rw [ha] at P2
        have F2 := c_FieldText 19999 true w' n' c' g' (by omega)
        rw [ht'] at F2
        have q2 : c'.take c'.length = c' := List.take_length
        simp only [pfRes] at P2
        simp [fldV, intsO] at P2 F2
        simp [R6_0, R6_1, R6_2, R6_3, R6_4, R6_5, R6_6, R6_7, R6_8, R6_9, R6_10, R6_11, R6_12, R6_13, R6_14, R6_15, R6_16, R6_17, R6_18, R6_19, R6_20, R6_21, Tryd.f6, v0, D1, D2, hL, hon, undef, G1, G2, S1, S2, V1, V2, F1, P1, q1, intsO, P2, F2, q2]
  · have S1 := c_implSet 19999 true w h L x y v hs (by omega)
    have S2 := c_specSet 19999 true w h L x y v hs (by omega)
    obtain ⟨f1, f2, f3, f4, f5⟩ := set_facts hs
    have hg : goodB w h L = true := by
      simp only [sOk, Bool.and_eq_true] at hs
      exact hs.1
    have hl2 := setL_len L w x y v
    obtain ⟨L2, hL2⟩ : ∃ L2, setL L w x y v = L2 := ⟨_, rfl⟩
    obtain ⟨old, hold⟩ : ∃ old, cellOf L w x y = old := ⟨_, rfl⟩
    rw [hL2] at S1 S2 f1 f2 f4 f5 hl2
    rw [hold] at f4 f5
    have V1 := c_vField 19999 true true w h L2 (by omega) (by omega)
    have V2 := c_vField 19999 true true w h L (by omega) (by omega)
    have C1 := c_CellAt 19999 w h L2 x y (by omega)
    have C2 := c_CellAt 19999 w h L x y (by omega)
    have S3 := c_implSet 19999 true w h L2 x y old f4 (by omega)
    rw [f5] at S3
    rw [f1, f2] at C1
    rw [f3, hold] at C2
    rw [hg] at G1 G2
    obtain ⟨s1, n1, cl1, k1⟩ := good_length hg
    obtain ⟨_, _, q1, q2, q3, q4⟩ := shape_area s1
    obtain ⟨W, rfl⟩ : ∃ W : Nat, w = W := ⟨w.toNat, by omega⟩
    obtain ⟨H, rfl⟩ : ∃ H : Nat, h = H := ⟨h.toNat, by omega⟩
    have F1 := c_FieldText 19999 true W H L hg (by omega)
    have hlen := text_len hg
    have P1 := c_implPF 19999 (textF W H L) (by omega) (by omega)
    rw [acc_text hg] at P1
    simp only [pfRes] at P1
    have q1 : L.take L.length = L := List.take_length
    have q3 : L2.take L.length = L2 := by rw [← hl2]; exact List.take_length
    have q5 : L.length ≤ L2.length := by omega
    obtain ⟨T, hT⟩ : ∃ T, textF W H L = T := ⟨_, rfl⟩
    rw [hT] at F1 P1
    rw [hl2] at S3
    simp [fldV, ownV, intsO] at D1 G1 G2 S1 S2 S3 V1 V2 C1 C2 F1 P1
    cases ha : accI t with
    | none =>
      rw [ha] at P2
      have F2 := c_FieldTextNil 19999 0 0 (by omega)
      simp only [pfRes] at P2
      simp [R6_0, R6_1, R6_2, R6_3, R6_4, R6_5, R6_6, R6_7, R6_8, R6_9, R6_10, R6_11, R6_12, R6_13, R6_14, R6_15, R6_16, R6_17, R6_18, R6_19, R6_20, R6_21, Tryd.f6, v0, D1, D2, hL, hon, undef, G1, G2, S1, S2, S3, V1, V2, C1, C2, F1, P1, q1, q3, q5, intsO, P2, F2]
    | some q =>
      obtain ⟨w', n', c'⟩ := q
      obtain ⟨g', ht'⟩ := acc_back ha
      rw [ha] at P2
      have F2 := c_FieldText 19999 true w' n' c' g' (by omega)
      rw [ht'] at F2
      have q2 : c'.take c'.length = c' := List.take_length
      simp only [pfRes] at P2
      simp [fldV, intsO] at P2 F2
      simp [R6_0, R6_1, R6_2, R6_3, R6_4, R6_5, R6_6, R6_7, R6_8, R6_9, R6_10, R6_11, R6_12, R6_13, R6_14, R6_15, R6_16, R6_17, R6_18, R6_19, R6_20, R6_21, Tryd.f6, v0, D1, D2, hL, hon, undef, G1, G2, S1, S2, S3, V1, V2, C1, C2, F1, P1, q1, q3, q5, intsO, P2, F2, q2]

end Go.Proofs.YtalpgpjhloohfaaDoor.Eng
