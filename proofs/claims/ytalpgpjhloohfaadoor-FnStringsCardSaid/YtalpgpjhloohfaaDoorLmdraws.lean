/- A deterministic reading of Go code over plain data: what functions of the program compute. No conditions. -/
import Derived.Test.YtalpgpjhloohfaaDoorLmbase
import Derived.Test.YtalpgpjhloohfaaDoorEngT
namespace Go.Proofs.YtalpgpjhloohfaaDoor.Eng
open Go Go.Proofs
set_option maxRecDepth 100000
set_option maxHeartbeats 2000000
set_option linter.unusedSimpArgs false
set_option linter.unusedVariables false
attribute [local simp] finK fin1 hpOf xi renQ isRoot runCode runOps Eng.step wantedV astep val ofO made loadV storeV find V.cells bin binT binA numT numFs eqCells un1 setAt fieldAddrV fieldV indexAddrV indexV bounds sliceV convV lenV foldV max2V min2V callO bor rdsO wrsO seen_none okD_none loops keepIds resV resultsV St.ev TK.agg refs refsL refsO V.one V.isC Value.oneCell' ren renL renO noTag noTagL noTagR noTagO nodup mapO passV frs psi refsR newD loopNext opsAt idx flatAt rootOf backR newsV appendV copyV clearV strV bytesV bytesOf nilCmp buildV fillF chunk
attribute [local simp] cT cF cX cWR cOW cK X ints_length ints_get ints_getElem ints_drop ints_take ints_append ints_nil ints_set
attribute [local simp] ints_replicate
attribute [local simp] putV_some putV_none putH_app applyD_nil applyD_cons seen_app gc_ρ gc_H gc_tick st0_ρ st0_H st0_tick retV callRo callV_if borL_nil borL_cons ints_snoc take_self callWr cutH_app findQ afterV exportV_0 exportV_n okD_nil okD_cons sub_seq0 sub_seq1 sub_cond0 sub_cond1 sub_block sub_loop sub_nil young_far young_none hidW_nil mayW_nil pairs okI ok_0 ok_1 ok_2
attribute [local simp] T3 T4 T5 T9 T22 T32 T57 T63 T64 T66 T72
attribute [local simp] young_near clo cloF Region.binds Nat.testBit hidW declW mayW
theorem ints_cons (a : Int) (l : List Int) : ints (a :: l) = [.c (.int .i64 a)] :: ints l := rfl
theorem ints_0 : ints [] = [] := rfl
theorem ok_cons (ty : TypeId) (sz : Nat) (fl : Bool) (e : List V) (es : List (List V)) : okObj ⟨ty, sz, fl, e :: es⟩ = ((e.length == sz && e.all fun x => x.one && (!fl || x.isC)) && okObj ⟨ty, sz, fl, es⟩) := by simp [okObj]
def u8s (l : List Int) : List (List V) := l.map fun n => [.c (.int .u8 n)]
theorem u8s_length (l : List Int) : (u8s l).length = l.length := by simp [u8s]
theorem u8s_get (l : List Int) (i : Nat) (h : i < l.length) : (u8s l)[i]? = some [.c (.int .u8 l[i])] := by simp [u8s, h]
theorem u8s_getElem (l : List Int) (i : Nat) (h : i < (u8s l).length) : (u8s l)[i] = [.c (.int .u8 (l[i]'(by simpa [u8s] using h)))] := by simp [u8s]
/-- A row of choices that is read. -/
structure Cur where
  l : List Int
  n : Nat
  seed : Int
def curE (c : Cur) : List V := [.sq false true 1 (u8s c.l), .c (.int .i64 (c.n : Int)), .c (.int .u64 c.seed)]
def curO (c : Cur) : Eng.Obj := ⟨66, 3, false, [curE c]⟩
structure Cur.P (c : Cur) (m : Nat) : Prop where
  by8 : ∀ x ∈ c.l, 0 ≤ x ∧ x ≤ 255
  len : c.l.length ≤ maxLen
  le : c.n ≤ m
theorem and255 (x : Int) : ∃ r : Int, IntKind.u64.wrap (((BitVec.ofInt IntKind.u64.bits x &&& BitVec.ofInt IntKind.u64.bits 255).toNat : Nat) : Int) = r ∧ 0 ≤ r ∧ r ≤ 255 := by
  refine ⟨_, rfl, ?_⟩
  have h : (BitVec.ofInt IntKind.u64.bits x &&& BitVec.ofInt IntKind.u64.bits 255).toNat ≤ 255 := by
    rw [BitVec.toNat_and]
    have : (BitVec.ofInt IntKind.u64.bits 255).toNat = 255 := rfl
    rw [this]
    exact Nat.and_le_right
  have h2 : IntKind.u64.wrap (((BitVec.ofInt IntKind.u64.bits x &&& BitVec.ofInt IntKind.u64.bits 255).toNat : Nat) : Int) = (((BitVec.ofInt IntKind.u64.bits x &&& BitVec.ofInt IntKind.u64.bits 255).toNat : Nat) : Int) := by
    show (((BitVec.ofInt IntKind.u64.bits x &&& BitVec.ofInt IntKind.u64.bits 255).toNat : Nat) : Int) % 18446744073709551616 = _
    omega
  rw [h2]
  omega
theorem c_next (k : Nat) (c : Cur) (m : Nat) (h : c.P m) (hm : m ≤ 1000000000000) (hk : 1 ≤ k) : ∃ (r : Int) (c' : Cur), callK C k 81 [.p 0 0 3 0 0] [curO c] = some (.c (.int .i64 r), hpOf [some (curO c')] []) ∧ 0 ≤ r ∧ r ≤ 255 ∧ c'.P (m + 1) := by
  obtain ⟨k, rfl⟩ : ∃ m, k = m + 1 := ⟨k - 1, by omega⟩
  rw [callK_fn rfl F81 code81]
  obtain ⟨hb, hl, hle⟩ := h
  unfold maxLen at hl
  have hw : IntKind.i64.wrap ((c.n : Int) + 1) = (c.n : Int) + 1 := wrap_small (by omega) (by omega)
  by_cases hlt : c.n < c.l.length
  · have hg := u8s_get c.l c.n hlt
    have hr := hb c.l[c.n] (by simp)
    have hle : c.n + 1 ≤ c.l.length := by omega
    have hle' : (c.n : Int) + 1 ≤ (c.l.length : Int) := by omega
    have hw2 : IntKind.i64.wrap c.l[c.n] = c.l[c.n] := wrap_small (by omega) (by omega)
    refine ⟨c.l[c.n], ⟨c.l, c.n + 1, IntKind.u64.wrap (IntKind.u64.wrap (IntKind.u64.wrap (c.seed * 6364136223846793005) + IntKind.u64.wrap c.l[c.n]) + 889889)⟩, ?_, hr.1, hr.2, ⟨hb, by unfold maxLen; exact hl, by simp; omega⟩⟩
    simp [R81_0, R81_1, R81_2, R81_3, R81_4, R81_5, R81_6, R81_7, R81_8, Tryd.f81, curO, curE, u8s_length, u8s_getElem, hlt, hg, hw, hw2, hle']
  · have hnle : ¬ (c.n : Int) + 1 ≤ (c.l.length : Int) := by omega
    have hnlt : ¬ (c.n : Int) < (c.l.length : Int) := by omega
    obtain ⟨r, hr, hr1, hr2⟩ := and255 ((IntKind.u64.wrap (IntKind.u64.wrap (IntKind.u64.wrap (c.seed * 6364136223846793005) + IntKind.u64.wrap 0) + 889889)).fdiv (2 ^ min 40 IntKind.u64.bits))
    simp at hr
    have hwr : IntKind.i64.wrap r = r := wrap_small (by omega) (by omega)
    refine ⟨r, ⟨c.l, c.n + 1, IntKind.u64.wrap (IntKind.u64.wrap (IntKind.u64.wrap (c.seed * 6364136223846793005) + IntKind.u64.wrap 0) + 889889)⟩, ?_, hr1, hr2, ⟨hb, by unfold maxLen; exact hl, by simp; omega⟩⟩
    simp [R81_0, R81_1, R81_2, R81_3, R81_4, R81_5, R81_6, R81_7, R81_8, Tryd.f81, curO, curE, u8s_length, hlt, hnlt, hw, hnle, hr, hwr]
theorem c_pick (k : Nat) (c : Cur) (m : Nat) (n : Int) (h : c.P m) (hm : m ≤ 1000000000) (hn : n ≤ 1000000000) (hk : 2 ≤ k) : ∃ (r : Int) (c' : Cur), callK C k 45 [.p 0 0 3 0 0, .c (.int .i64 n)] [curO c] = some (.c (.int .i64 r), hpOf [some (curO c')] []) ∧ 0 ≤ r ∧ (r < n ∨ (r = 0 ∧ n ≤ 1)) ∧ c'.P (m + 2) := by
  obtain ⟨k, rfl⟩ : ∃ m, k = m + 1 := ⟨k - 1, by omega⟩
  rw [callK_fn rfl F45 code45]
  by_cases h1 : n ≤ 1
  · refine ⟨0, c, ?_, by omega, .inr ⟨rfl, h1⟩, ⟨h.by8, h.len, by have := h.le; omega⟩⟩
    simp [R45_0, R45_1, R45_2, R45_3, R45_4, R45_5, R45_6, Tryd.f45, curO, curE, h1]
  · obtain ⟨r1, c1, e1, r1a, r1b, p1⟩ := c_next k c m h (by omega) (by omega)
    obtain ⟨r2, c2, e2, r2a, r2b, p2⟩ := c_next k c1 (m + 1) p1 (by omega) (by omega)
    simp [curO, curE] at e1 e2
    by_cases h2 : n > 200
    · have hw1 : IntKind.i64.wrap (r1 * 256) = r1 * 256 := wrap_small (by omega) (by omega)
      have hw2 : IntKind.i64.wrap (r1 * 256 + r2) = r1 * 256 + r2 := wrap_small (by omega) (by omega)
      have hm1 := Int.tmod_nonneg n (by omega : 0 ≤ r1 * 256 + r2)
      have hm2 := Int.tmod_lt_of_pos (r1 * 256 + r2) (by omega : 0 < n)
      have hn0 : ¬ n = 0 := by omega
      refine ⟨(r1 * 256 + r2).tmod n, c2, ?_, hm1, .inl hm2, p2⟩
      simp [R45_0, R45_1, R45_2, R45_3, R45_4, R45_5, R45_6, Tryd.f45, curO, curE, h1, h2, e1, e2, hw1, hw2, hn0]
    · have hm1 := Int.tmod_nonneg n r1a
      have hm2 := Int.tmod_lt_of_pos r1 (by omega : 0 < n)
      have hn0 : ¬ n = 0 := by omega
      refine ⟨r1.tmod n, c1, ?_, hm1, .inl hm2, ⟨p1.by8, p1.len, by have := p1.le; omega⟩⟩
      simp [R45_0, R45_1, R45_2, R45_3, R45_4, R45_5, R45_6, Tryd.f45, curO, curE, h1, h2, e1, hn0]
theorem c_one (k : Nat) (c : Cur) (m : Nat) (n : Int) (h : c.P m) (hm : m ≤ 1000000000) (hn : n ≤ 1000000000) (hk : 3 ≤ k) : ∃ (r : Bool) (c' : Cur), callK C k 49 [.p 0 0 3 0 0, .c (.int .i64 n)] [curO c] = some (.c (.bool r), hpOf [some (curO c')] []) ∧ c'.P (m + 2) := by
  obtain ⟨k, rfl⟩ : ∃ m, k = m + 1 := ⟨k - 1, by omega⟩
  rw [callK_fn rfl F49 code49]
  obtain ⟨r1, c1, e1, r1a, r1b, p1⟩ := c_pick k c m n h (by omega) (by omega) (by omega)
  simp [curO, curE] at e1
  refine ⟨r1 == 0, c1, ?_, p1⟩
  simp [R49_0, R49_1, Tryd.f49, curO, curE, e1]
theorem c_among (k : Nat) (c : Cur) (m : Nat) (b : Bool) (l : List Int) (h : c.P m) (hm : m ≤ 1000000000) (h0 : 0 < l.length) (hl : l.length ≤ 1000000000) (hk : 3 ≤ k) : ∃ (i : Nat) (hi : i < l.length) (c' : Cur), callK C k 44 [.p 0 0 3 0 0, .sq b true 1 (ints l)] [curO c] = some (.c (.int .i64 l[i]), hpOf [some (curO c')] []) ∧ c'.P (m + 2) := by
  obtain ⟨k, rfl⟩ : ∃ m, k = m + 1 := ⟨k - 1, by omega⟩
  rw [callK_fn rfl F44 code44]
  obtain ⟨r1, c1, e1, r1a, r1b, p1⟩ := c_pick k c m l.length h (by omega) (by omega) (by omega)
  have hlt : r1 < l.length := by omega
  obtain ⟨i, rfl⟩ : ∃ i : Nat, r1 = i := ⟨r1.toNat, by omega⟩
  have hi : i < l.length := by omega
  simp [curO, curE] at e1
  refine ⟨i, hi, c1, ?_, p1⟩
  simp [R44_0, R44_1, Tryd.f44, curO, curE, e1, hi]

end Go.Proofs.YtalpgpjhloohfaaDoor.Eng
