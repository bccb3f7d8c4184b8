/- A deterministic reading of Go code over plain data: what functions of the program compute. No conditions. -/
import Derived.Test.YtfdlllhcjfhknaaLmbase
import Derived.Test.YtfdlllhcjfhknaaLmimpl
import Derived.Test.YtfdlllhcjfhknaaLmimplc
import Derived.Test.YtfdlllhcjfhknaaLmgood
import Derived.Test.YtfdlllhcjfhknaaLmspec
import Derived.Test.YtfdlllhcjfhknaaLmminmax
import Derived.Test.YtfdlllhcjfhknaaLmchanged
import Derived.Test.YtfdlllhcjfhknaaLmspeclp
import Derived.Test.YtfdlllhcjfhknaaLmdraws
import Derived.Test.YtfdlllhcjfhknaaLmdrawf
import Derived.Test.YtfdlllhcjfhknaaLmdrawa
import Derived.Test.YtfdlllhcjfhknaaEngT
namespace Go.Proofs.Ytfdlllhcjfhknaa.Eng
open Go Go.Proofs
set_option maxRecDepth 100000
set_option maxHeartbeats 2000000
set_option linter.unusedSimpArgs false
set_option linter.unusedVariables false
attribute [local simp] finK fin1 hpOf xi renQ isRoot runCode runOps Eng.step wantedV astep val ofO made loadV storeV find V.cells bin binT un1 setAt fieldAddrV fieldV indexAddrV indexV bounds sliceV convV lenV foldV max2V min2V callO bor rdsO wrsO seen_none okD_none loops keepIds resV resultsV St.ev TK.agg refs refsL refsO V.one V.isC Value.oneCell' ren renL renO noTag noTagL noTagR noTagO nodup mapO passV frs psi refsR newD loopNext opsAt idx flatAt rootOf backR newsV appendV copyV clearV strV bytesOf nilCmp buildV fillF chunk
attribute [local simp] cT cF cX cWR cOW cK X ints_length ints_get ints_getElem ints_drop ints_take ints_append ints_nil ints_set
attribute [local simp] ints_replicate
attribute [local simp] putV_some putV_none putH_app applyD_nil applyD_cons seen_app gc_ρ gc_H gc_tick st0_ρ st0_H st0_tick retV callRo callV_if borL_nil borL_cons ints_snoc take_self callWr cutH_app findQ afterV exportV_0 exportV_n okD_nil okD_cons sub_seq0 sub_seq1 sub_cond0 sub_cond1 sub_block sub_loop sub_nil young_far young_none hidW_nil mayW_nil pairs okI ok_0 ok_1 ok_2
attribute [local simp] T3 T4 T5 T9 T22 T24 T26 T29 T36 T73 T75 T86 T89 T103 T104 T106 T108 T109 T111 T114 T118 T134 T136 T157 T161 T168
attribute [local simp] young_near clo cloF Region.binds Nat.testBit hidW declW mayW List.findIdx?_cons
theorem c_likeOf (k : Nat) (c : Cur) (m : Nat) (w h' : Int) (l : List Int) (off n : Nat) (h : c.P m) (hm : m ≤ 10000000) (hl : off + n ≤ l.length) (h64 : l.length ≤ 64) (hk : 400 ≤ k) : ∃ (w' h'' : Int) (l' : List Int) (c' : Cur), callK C k 130 [.p 0 0 3 0 0, .ag [.c (.int .i64 w), .c (.int .i64 h'), .sq true true 1 (ints ((l.drop off).take n))]] [curO c] = some (.ag [.c (.int .i64 w'), .c (.int .i64 h''), .s 1 2 1 0 l'.length], hpOf [some (curO c')] [intsO l']) ∧ l'.length ≤ 64 ∧ c'.P (m + 600) :=
  c_like k c m true w h' ((l.drop off).take n) h hm (by simp; omega) hk
theorem c_DrawMaskField (k : Nat) (code : List Int) (hb : ∀ x ∈ code, 0 ≤ x ∧ x ≤ 255) (hl : code.length ≤ maxLen) (hk : 1000 ≤ k) : ∃ (w h : Int) (l : List Int) (off n : Nat) (w2 h2 : Int) (l2 : List Int), callK C k 52 [.sq false true 1 (u8s code)] [] = some (.tp [.ag [.c (.int .i64 w), .c (.int .i64 h), .s 0 2 1 off n], .ag [.c (.int .i64 w2), .c (.int .i64 h2), .s 1 2 1 0 l2.length]], hpOf [] [intsO l, intsO l2]) ∧ off + n ≤ l.length ∧ l.length ≤ 64 ∧ l2.length ≤ 64 := by
  obtain ⟨k, rfl⟩ : ∃ m, k = m + 9 := ⟨k - 9, by omega⟩
  rw [callK_fn rfl F52 code52]
  obtain ⟨w, h, l, off, n, c1, e1, hon, h64, p1⟩ := c_anyField (k + 8) ⟨code, 0, 0⟩ 0 ⟨hb, hl, Nat.le_refl _⟩ (by omega) (by omega)
  obtain ⟨w2, h2, l2, c2, e2, h64b, p2⟩ := c_likeOf (k + 8) c1 _ w h l off n p1 (by omega) hon h64 (by omega)
  have g3 := c_l2Good (k + 8) true w2 h2 l2 (by omega)
  obtain ⟨b4, c4, e4, p4⟩ := c_one (k + 8) c2 _ 2 p2 (by omega) (by omega) (by omega)
  have e5 := c_l4Exceeds (k + 8) true w2 h2 l2 15 h64b (by omega)
  have hz := chgM_length (exG 15) l2
  simp [curO, curE, intsO] at e1 e2 e4
  simp [fldV] at g3
  simp [fldV, ownV, intsO] at e5
  cases hg : goodB w2 h2 l2
  · rw [hg] at g3
    refine ⟨w, h, l, off, n, w2, h2, l2, ?_, hon, h64, h64b⟩
    simp [R52_0, R52_1, R52_2, R52_3, R52_4, R52_5, R52_6, Try.f52, e1, e2, g3, hon, intsO]
  · rw [hg] at g3
    cases b4
    · refine ⟨w, h, l, off, n, w2, h2, l2, ?_, hon, h64, h64b⟩
      simp [R52_0, R52_1, R52_2, R52_3, R52_4, R52_5, R52_6, Try.f52, e1, e2, g3, e4, hon, intsO]
    · refine ⟨w, h, l, off, n, w2, h2, chgM (exG 15) l2, ?_, hon, h64, by rw [hz]; exact h64b⟩
      simp [R52_0, R52_1, R52_2, R52_3, R52_4, R52_5, R52_6, Try.f52, e1, e2, g3, e4, e5, hon, hz, intsO]
theorem c_DrawChoosePart (k : Nat) (code : List Int) (hb : ∀ x ∈ code, 0 ≤ x ∧ x ≤ 255) (hl : code.length ≤ maxLen) (hk : 1000 ≤ k) : ∃ (w h : Int) (l : List Int) (off n : Nat) (w2 h2 : Int) (l2 : List Int) (w3 h3 : Int) (l3 : List Int), callK C k 57 [.sq false true 1 (u8s code)] [] = some (.tp [.ag [.c (.int .i64 w2), .c (.int .i64 h2), .s 0 2 1 0 l2.length], .ag [.c (.int .i64 w), .c (.int .i64 h), .s 1 2 1 off n], .ag [.c (.int .i64 w3), .c (.int .i64 h3), .s 2 2 1 0 l3.length]], hpOf [] [intsO l2, intsO l, intsO l3]) ∧ off + n ≤ l.length ∧ l.length ≤ 64 ∧ l2.length ≤ 64 ∧ l3.length ≤ 64 := by
  obtain ⟨k, rfl⟩ : ∃ m, k = m + 9 := ⟨k - 9, by omega⟩
  rw [callK_fn rfl F57 code57]
  obtain ⟨w, h, l, off, n, c1, e1, hon, h64, p1⟩ := c_anyField (k + 8) ⟨code, 0, 0⟩ 0 ⟨hb, hl, Nat.le_refl _⟩ (by omega) (by omega)
  obtain ⟨w2, h2, l2, c2, e2, h64b, p2⟩ := c_likeOf (k + 8) c1 _ w h l off n p1 (by omega) hon h64 (by omega)
  have g3 := c_l2Good (k + 8) true w2 h2 l2 (by omega)
  obtain ⟨w4, h4, l4, c4, e4, h64c, p4⟩ := c_likeOf (k + 8) c2 _ w h l off n p2 (by omega) hon h64 (by omega)
  have e5 := c_l4Exceeds (k + 8) true w2 h2 l2 15 h64b (by omega)
  have hz := chgM_length (exG 15) l2
  simp [curO, curE, intsO] at e1 e2 e4
  simp [fldV] at g3
  simp [fldV, ownV, intsO] at e5
  cases hg : goodB w2 h2 l2
  · rw [hg] at g3
    refine ⟨w, h, l, off, n, w2, h2, l2, w4, h4, l4, ?_, hon, h64, h64b, h64c⟩
    simp [R57_0, R57_1, R57_2, R57_3, R57_4, R57_5, R57_6, Try.f57, e1, e2, g3, e4, hon, intsO]
  · rw [hg] at g3
    refine ⟨w, h, l, off, n, w2, h2, chgM (exG 15) l2, w4, h4, l4, ?_, hon, h64, by rw [hz]; exact h64b, h64c⟩
    simp [R57_0, R57_1, R57_2, R57_3, R57_4, R57_5, R57_6, Try.f57, e1, e2, g3, e4, e5, hon, hz, intsO]
theorem c_DrawClipField (k : Nat) (code : List Int) (hb : ∀ x ∈ code, 0 ≤ x ∧ x ≤ 255) (hl : code.length ≤ maxLen) (hk : 1000 ≤ k) : ∃ (w h : Int) (l : List Int) (off n : Nat) (x y : Int), callK C k 60 [.sq false true 1 (u8s code)] [] = some (.tp [.ag [.c (.int .i64 w), .c (.int .i64 h), .s 0 2 1 off n], .c (.int .i64 x), .c (.int .i64 y)], hpOf [] [intsO l]) ∧ off + n ≤ l.length ∧ l.length ≤ 64 := by
  obtain ⟨k, rfl⟩ : ∃ m, k = m + 9 := ⟨k - 9, by omega⟩
  rw [callK_fn rfl F60 code60]
  obtain ⟨i3, hi3, c3, e3, p3⟩ := c_among (k + 8) ⟨code, 0, 0⟩ 0 true [0, 10, 20, -40, -9000, -9001] ⟨hb, hl, Nat.le_refl _⟩ (by omega) (by simp) (by simp) (by omega)
  obtain ⟨v3, hv3⟩ : ∃ b, [(0 : Int), 10, 20, -40, -9000, -9001][i3] = b := ⟨_, rfl⟩
  rw [hv3] at e3
  obtain ⟨w, h, l, off, n, c1, e1, hon, h64, p1⟩ := c_anyField (k + 8) c3 _ p3 (by omega) (by omega)
  obtain ⟨i4, hi4, c4, e4, p4⟩ := c_among (k + 8) c1 _ true [0, 5, 15, 100, -1, 18000] p1 (by omega) (by simp) (by simp) (by omega)
  obtain ⟨v4, hv4⟩ : ∃ b, [(0 : Int), 5, 15, 100, -1, 18000][i4] = b := ⟨_, rfl⟩
  rw [hv4] at e4
  simp [curO, curE, intsO] at e1
  simp [curO, curE, ints_cons, ints_0] at e3 e4
  refine ⟨w, h, l, off, n, v3, IntKind.i64.wrap (v3 + v4), ?_, hon, h64⟩
  simp [R60_0, R60_1, R60_2, R60_3, Try.f60, ints_cons, ints_0, ok_cons, e1, e3, e4, intsO]
theorem c_DrawIsValidField (k : Nat) (code : List Int) (hb : ∀ x ∈ code, 0 ≤ x ∧ x ≤ 255) (hl : code.length ≤ maxLen) (hk : 900 ≤ k) : ∃ (w h : Int) (l : List Int) (off n : Nat), callK C k 149 [.sq false true 1 (u8s code)] [] = some (.ag [.c (.int .i64 w), .c (.int .i64 h), .s 0 2 1 off n], hpOf [] [intsO l]) ∧ off + n ≤ l.length ∧ l.length ≤ 64 := by
  obtain ⟨k, rfl⟩ : ∃ m, k = m + 9 := ⟨k - 9, by omega⟩
  rw [callK_fn rfl F149 code149]
  obtain ⟨w, h, l, off, n, c1, e1, hon, h64, p1⟩ := c_anyField (k + 8) ⟨code, 0, 0⟩ 0 ⟨hb, hl, Nat.le_refl _⟩ (by omega) (by omega)
  simp [curO, curE, intsO] at e1
  refine ⟨w, h, l, off, n, ?_, hon, h64⟩
  simp [R149_0, R149_1, R149_2, Try.f149, e1, intsO]
theorem c_DrawAbsoluteField (k : Nat) (code : List Int) (hb : ∀ x ∈ code, 0 ≤ x ∧ x ≤ 255) (hl : code.length ≤ maxLen) (hk : 1000 ≤ k) : ∃ (w h : Int) (l : List Int) (off n : Nat), callK C k 63 [.sq false true 1 (u8s code)] [] = some (.ag [.c (.int .i64 w), .c (.int .i64 h), .s 0 2 1 off n], hpOf [] [intsO l]) ∧ off + n ≤ l.length ∧ l.length ≤ 64 := by
  obtain ⟨k, rfl⟩ : ∃ m, k = m + 9 := ⟨k - 9, by omega⟩
  rw [callK_fn rfl F63 code63]
  obtain ⟨w, h, l, off, n, e1, hon, h64⟩ := c_DrawIsValidField (k + 8) code hb hl (by omega)
  simp [intsO] at e1
  refine ⟨w, h, l, off, n, ?_, hon, h64⟩
  simp [R63_0, R63_1, Try.f63, e1, intsO]
theorem c_DrawCombine (k : Nat) (code : List Int) (hb : ∀ x ∈ code, 0 ≤ x ∧ x ≤ 255) (hl : code.length ≤ maxLen) (hk : 1000 ≤ k) : ∃ (op : Int) (w h : Int) (l : List Int) (off n : Nat) (w2 h2 : Int) (l2 : List Int), callK C k 46 [.sq false true 1 (u8s code)] [] = some (.tp [.c (.int .i64 op), .ag [.c (.int .i64 w), .c (.int .i64 h), .s 0 2 1 off n], .ag [.c (.int .i64 w2), .c (.int .i64 h2), .s 1 2 1 0 l2.length]], hpOf [] [intsO l, intsO l2]) ∧ off + n ≤ l.length ∧ l.length ≤ 64 ∧ l2.length ≤ 64 := by
  obtain ⟨k, rfl⟩ : ∃ m, k = m + 9 := ⟨k - 9, by omega⟩
  rw [callK_fn rfl F46 code46]
  obtain ⟨r1, c1, e1, _, _, p1⟩ := c_pick (k + 8) ⟨code, 0, 0⟩ 0 4 ⟨hb, hl, Nat.le_refl _⟩ (by omega) (by omega) (by omega)
  obtain ⟨b2, c2, e2, p2⟩ := c_one (k + 8) c1 _ 16 p1 (by omega) (by omega) (by omega)
  obtain ⟨i3, hi3, c3, e3, p3⟩ := c_among (k + 8) c2 _ true [0, 5] p2 (by omega) (by simp) (by simp) (by omega)
  obtain ⟨v3, hv3⟩ : ∃ b, [(0 : Int), 5][i3] = b := ⟨_, rfl⟩
  rw [hv3] at e3
  simp [curO, curE] at e1 e2
  simp [curO, curE, ints_cons, ints_0] at e3
  cases b2
  · obtain ⟨w, h, l, off, n, c4, e4, hon, h64, p4⟩ := c_anyField (k + 8) c2 _ p2 (by omega) (by omega)
    obtain ⟨w2, h2, l2, c5, e5, h64b, p5⟩ := c_likeOf (k + 8) c4 _ w h l off n p4 (by omega) hon h64 (by omega)
    simp [curO, curE, intsO] at e4 e5
    refine ⟨IntKind.i64.wrap (1 + r1), w, h, l, off, n, w2, h2, l2, ?_, hon, h64, h64b⟩
    simp [R46_0, R46_1, R46_2, R46_3, R46_4, R46_5, R46_6, Try.f46, ints_cons, ints_0, e1, e2, e4, e5, hon, intsO]
  · obtain ⟨w, h, l, off, n, c4, e4, hon, h64, p4⟩ := c_anyField (k + 8) c3 _ p3 (by omega) (by omega)
    obtain ⟨w2, h2, l2, c5, e5, h64b, p5⟩ := c_likeOf (k + 8) c4 _ w h l off n p4 (by omega) hon h64 (by omega)
    simp [curO, curE, intsO] at e4 e5
    refine ⟨v3, w, h, l, off, n, w2, h2, l2, ?_, hon, h64, h64b⟩
    simp [R46_0, R46_1, R46_2, R46_3, R46_4, R46_5, R46_6, Try.f46, ints_cons, ints_0, e1, e2, e3, e4, e5, hon, intsO]
theorem c_DrawScaleField (k : Nat) (code : List Int) (hb : ∀ x ∈ code, 0 ≤ x ∧ x ≤ 255) (hl : code.length ≤ maxLen) (hk : 1000 ≤ k) : ∃ (w h : Int) (l : List Int) (off n : Nat) (x y : Int), callK C k 49 [.sq false true 1 (u8s code)] [] = some (.tp [.ag [.c (.int .i64 w), .c (.int .i64 h), .s 0 2 1 off n], .c (.int .i64 x), .c (.int .i64 y)], hpOf [] [intsO l]) ∧ off + n ≤ l.length ∧ l.length ≤ 64 := by
  obtain ⟨k, rfl⟩ : ∃ m, k = m + 9 := ⟨k - 9, by omega⟩
  rw [callK_fn rfl F49 code49]
  obtain ⟨w, h, l, off, n, c1, e1, hon, h64, p1⟩ := c_anyField (k + 8) ⟨code, 0, 0⟩ 0 ⟨hb, hl, Nat.le_refl _⟩ (by omega) (by omega)
  obtain ⟨i3, hi3, c3, e3, p3⟩ := c_among (k + 8) c1 _ true [1, 2, -3, 7, 0, 100, -100, 101] p1 (by omega) (by simp) (by simp) (by omega)
  obtain ⟨v3, hv3⟩ : ∃ b, [(1 : Int), 2, -3, 7, 0, 100, -100, 101][i3] = b := ⟨_, rfl⟩
  rw [hv3] at e3
  obtain ⟨i4, hi4, c4, e4, p4⟩ := c_among (k + 8) c3 _ true [1, 2, 3, 10, 100, 0, 101] p3 (by omega) (by simp) (by simp) (by omega)
  obtain ⟨v4, hv4⟩ : ∃ b, [(1 : Int), 2, 3, 10, 100, 0, 101][i4] = b := ⟨_, rfl⟩
  rw [hv4] at e4
  simp [curO, curE, intsO] at e1
  simp [curO, curE, ints_cons, ints_0] at e3 e4
  refine ⟨w, h, l, off, n, v3, v4, ?_, hon, h64⟩
  simp [R49_0, R49_1, R49_2, Try.f49, ints_cons, ints_0, ok_cons, e1, e3, e4, intsO]

end Go.Proofs.Ytfdlllhcjfhknaa.Eng
