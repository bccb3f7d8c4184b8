/- A deterministic reading of Go code over plain data: what functions of the program compute. No conditions. -/
import Derived.Test.YtfdlllhcjfhknaaLmbase
import Derived.Test.YtfdlllhcjfhknaaLmimpl
import Derived.Test.YtfdlllhcjfhknaaLmgood
import Derived.Test.YtfdlllhcjfhknaaLmspec
import Derived.Test.YtfdlllhcjfhknaaLmdraws
import Derived.Test.YtfdlllhcjfhknaaLmdrawf
import Derived.Test.YtfdlllhcjfhknaaLmdrawa
import Derived.Test.YtfdlllhcjfhknaaEngT
namespace Go.Proofs.Ytfdlllhcjfhknaa.Eng
open Go Go.Proofs
set_option maxRecDepth 100000
set_option maxHeartbeats 2000000
set_option linter.unusedSimpArgs false
set_option linter.unusedVariables false
attribute [local simp] finK fin1 hpOf xi renQ isRoot runCode runOps Eng.step wantedV astep val ofO made loadV storeV find V.cells bin binT un1 setAt fieldAddrV fieldV indexAddrV indexV bounds sliceV convV lenV foldV max2V min2V callO bor rdsO wrsO seen_none okD_none loops keepIds resV resultsV St.ev TK.agg refs refsL refsO V.one V.isC Value.oneCell' ren renL renO noTag noTagL noTagR noTagO nodup mapO passV frs psi refsR newD loopNext opsAt idx flatAt rootOf backR newsV appendV copyV clearV strV bytesOf buildV fillF chunk
attribute [local simp] cT cF cX cWR cOW cK X ints_length ints_get ints_getElem ints_drop ints_take ints_append ints_nil ints_set
attribute [local simp] ints_replicate
attribute [local simp] putV_some putV_none putH_app applyD_nil applyD_cons seen_app gc_ρ gc_H gc_tick st0_ρ st0_H st0_tick retV callRo callV_if borL_nil borL_cons ints_snoc take_self callWr cutH_app findQ afterV exportV_0 exportV_n okD_nil okD_cons sub_seq0 sub_seq1 sub_cond0 sub_cond1 sub_block sub_loop sub_nil young_far young_none hidW_nil mayW_nil pairs okI ok_0 ok_1 ok_2
attribute [local simp] T3 T4 T5 T9 T22 T24 T26 T29 T36 T73 T75 T86 T89 T103 T104 T106 T108 T109 T111 T114 T118 T134 T136 T157 T161 T168
attribute [local simp] young_near clo cloF Region.binds Nat.testBit hidW declW mayW
theorem c_DrawFieldRange (k : Nat) (code : List Int) (hb : ∀ x ∈ code, 0 ≤ x ∧ x ≤ 255) (hl : code.length ≤ maxLen) (hk : 1000 ≤ k) : ∃ (w h : Int) (l : List Int) (off n : Nat), callK C k 35 [.sq false true 1 (u8s code)] [] = some (.ag [.c (.int .i64 w), .c (.int .i64 h), .s 0 2 1 off n], hpOf [] [intsO l]) ∧ off + n ≤ l.length ∧ l.length ≤ 64 := by
  obtain ⟨k, rfl⟩ : ∃ m, k = m + 9 := ⟨k - 9, by omega⟩
  rw [callK_fn rfl F35 code35]
  obtain ⟨w, h, l, off, n, c1, e1, hon, h64, p1⟩ := c_anyField (k + 8) ⟨code, 0, 0⟩ 0 ⟨hb, hl, Nat.le_refl _⟩ (by omega) (by omega)
  obtain ⟨b2, c2, e2, p2⟩ := c_one (k + 8) c1 (0 + 300) 12 p1 (by omega) (by omega) (by omega)
  have e3 := c_l2Fill (k + 8) 2 2 (-9999) 4 (by rfl) (by omega) (by omega) (by omega)
  simp [curO, curE, intsO] at e1 e2 e3
  cases b2
  · refine ⟨w, h, l, off, n, ?_, hon, h64⟩
    simp [R35_0, R35_1, R35_2, R35_3, R35_4, R35_5, Try.f35, e1, e2, intsO]
  · refine ⟨2, 2, List.replicate 4 (-9999), 0, 4, ?_, by simp, by simp⟩
    simp [R35_0, R35_1, R35_2, R35_3, R35_4, R35_5, Try.f35, e1, e2, e3, intsO]
theorem c_DrawSubField (k : Nat) (code : List Int) (hb : ∀ x ∈ code, 0 ≤ x ∧ x ≤ 255) (hl : code.length ≤ maxLen) (hk : 1000 ≤ k) : ∃ (w h : Int) (l : List Int) (off n : Nat) (x y u v : Int), callK C k 41 [.sq false true 1 (u8s code)] [] = some (.tp [.ag [.c (.int .i64 w), .c (.int .i64 h), .s 0 2 1 off n], .c (.int .i64 x), .c (.int .i64 y), .c (.int .i64 u), .c (.int .i64 v)], hpOf [] [intsO l]) ∧ off + n ≤ l.length ∧ l.length ≤ 64 := by
  obtain ⟨k, rfl⟩ : ∃ m, k = m + 9 := ⟨k - 9, by omega⟩
  rw [callK_fn rfl F41 code41]
  obtain ⟨w, h, l, off, n, c1, e1, hon, h64, p1⟩ := c_anyField (k + 8) ⟨code, 0, 0⟩ 0 ⟨hb, hl, Nat.le_refl _⟩ (by omega) (by omega)
  obtain ⟨r2, c2, e2, _, _, p2⟩ := c_pick (k + 8) c1 (0 + 300) 4 p1 (by omega) (by omega) (by omega)
  obtain ⟨r3, c3, e3, _, _, p3⟩ := c_pick (k + 8) c2 _ 9 p2 (by omega) (by omega) (by omega)
  obtain ⟨r4, c4, e4, _, _, p4⟩ := c_pick (k + 8) c3 _ 4 p3 (by omega) (by omega) (by omega)
  obtain ⟨r5, c5, e5, _, _, p5⟩ := c_pick (k + 8) c4 _ 4 p4 (by omega) (by omega) (by omega)
  obtain ⟨r6, c6, e6, _, _, p6⟩ := c_pick (k + 8) c5 _ 3 p5 (by omega) (by omega) (by omega)
  simp [curO, curE, intsO] at e1 e2 e3 e4 e5 e6
  refine ⟨w, h, l, off, n, IntKind.i64.wrap (r2 - IntKind.i64.wrap (r3.tdiv 8)), r4, r5, IntKind.i64.wrap (1 + r6), ?_, hon, h64⟩
  simp [R41_0, R41_1, R41_2, Try.f41, e1, e2, e3, e4, e5, e6, intsO]

end Go.Proofs.Ytfdlllhcjfhknaa.Eng
