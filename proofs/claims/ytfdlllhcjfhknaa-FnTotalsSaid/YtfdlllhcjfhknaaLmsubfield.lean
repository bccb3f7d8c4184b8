/- A deterministic reading of Go code over plain data: what functions of the program compute. No conditions. -/
import Derived.Test.YtfdlllhcjfhknaaLmbase
import Derived.Test.YtfdlllhcjfhknaaLmimpl
import Derived.Test.YtfdlllhcjfhknaaLmgood
import Derived.Test.YtfdlllhcjfhknaaLmrepeat
import Derived.Test.YtfdlllhcjfhknaaLmfieldby
import Derived.Test.YtfdlllhcjfhknaaEngT
namespace Go.Proofs.Ytfdlllhcjfhknaa.Eng
open Go Go.Proofs
set_option maxRecDepth 100000
set_option maxHeartbeats 2000000
set_option linter.unusedSimpArgs false
set_option linter.unusedVariables false
attribute [local simp] finK fin1 hpOf xi renQ isRoot runCode runOps Eng.step wantedV astep val ofO made loadV storeV find V.cells bin binT un1 setAt fieldAddrV fieldV indexAddrV indexV bounds sliceV convV lenV foldV max2V min2V callO bor rdsO wrsO seen_none okD_none loops keepIds resV resultsV St.ev TK.agg refs refsL refsO V.one V.isC Value.oneCell' ren renL renO noTag noTagL noTagR noTagO nodup mapO passV frs psi refsR newD loopNext opsAt idx flatAt rootOf backR newsV appendV copyV clearV strV bytesOf buildV fillF chunk
attribute [local simp] cT cF cX cWR cOW cK X ints_length ints_get ints_getElem ints_drop ints_take ints_append ints_nil ints_set
attribute [local simp] ints_replicate
attribute [local simp] putV_some putV_none putH_app applyD_nil applyD_cons seen_app gc_ρ gc_H gc_tick st0_ρ st0_H st0_tick retV callRo callV_if borL_nil borL_cons ints_snoc take_self callWr cutH_app findQ afterV exportV_0 exportV_n okD_nil okD_cons sub_seq0 sub_seq1 sub_cond0 sub_cond1 sub_block sub_loop sub_nil young_far young_none hidW_nil mayW_nil pairs okI ok_0 ok_1 ok_2
attribute [local simp] T3 T4 T5 T9 T22 T24 T26 T29 T36 T73 T75 T86 T89 T103 T104 T106 T108 T109 T111 T114 T118 T134 T136 T157 T161 T168
attribute [local simp] young_near clo cloF Region.binds Nat.testBit
def tkH (H : Hp) (id : Nat) : Nat := match H id with | some (t, _) => t | none => 0
theorem tkH_eq {H : Hp} {id t : Nat} {o : Eng.Obj} (h : H id = some (t, o)) : tkH H id = t := by simp [tkH, h]
theorem c_SubField1 (k : Nat) (w h : Int) (l : List Int) (x y u v : Int) (hl : (l.length : Int) = w * h) (h64 : l.length ≤ 64) (hx : 0 ≤ x + u) (hx' : x + u < w) (hy : 0 ≤ y + v) (hy' : y + v < h) (hw : w ≤ 8) (hh : h ≤ 8) (hu : 0 ≤ u) (hv : 0 ≤ v) (hx0 : 0 ≤ x) (hk : 1 ≤ k) :
    callK C k 126 [.c (.int .i64 u), .c (.int .i64 v), .bx true [.c (.int .i64 w), .c (.int .i64 h), .sq true true 1 (ints l)], .bx true [.c (.int .i64 y)], .bx true [.c (.int .i64 x)]] [] = some (.c (.int .i64 (cellOf l w (x + u) (y + v))), hpOf [] []) := by
  obtain ⟨k, rfl⟩ : ∃ m, k = m + 1 := ⟨k - 1, by omega⟩
  rw [callK_fn rfl F126 code126]
  obtain ⟨h1, h2, h3, h4⟩ := cell_ix hl hx hx' hy hy'
  have w1 : IntKind.i64.wrap (y + v) = y + v := wrap_small (by omega) (by omega)
  have w2 : IntKind.i64.wrap ((y + v) * w) = (y + v) * w := wrap_small (by omega) (by omega)
  have w3 : IntKind.i64.wrap ((y + v) * w + x) = (y + v) * w + x := wrap_small (by omega) (by omega)
  have w4 : IntKind.i64.wrap ((y + v) * w + x + u) = (y + v) * w + (x + u) := by rw [wrap_small (by omega) (by omega)]; omega
  simp [R126_0, R126_1, Try.f126, w1, w2, w3, w4, h1, h4]
def subG (l : List Int) (w x y : Int) (u v : Int) : Int := cellOf l w (x + u) (y + v)
def fitB (w h x y wide high : Int) : Bool := decide (x + wide ≤ w) && decide (y + high ≤ h)
def subB (w h : Int) (l : List Int) (x y wide high : Int) : Bool := goodB w h l && (hasB w h x y && (shapeB wide high && fitB w h x y wide high))
theorem has_bound {w h x y : Int} (h0 : hasB w h x y = true) : 0 ≤ x ∧ x < w ∧ 0 ≤ y ∧ y < h := by
  simp only [hasB, Bool.and_eq_true, decide_eq_true_eq] at h0
  omega
theorem has_fit {w h x y wide high : Int} (h0 : hasB w h x y = true) (hs : shapeB wide high = true) : hasB w h (x + wide - 1) (y + high - 1) = fitB w h x y wide high := by
  have h1 := has_bound h0
  obtain ⟨_, _, h2⟩ := shape_area hs
  rw [Bool.eq_iff_iff]
  simp only [hasB, fitB, Bool.and_eq_true, decide_eq_true_eq]
  omega
theorem c_specSub (k : Nat) (b : Bool) (w h : Int) (l : List Int) (x y : Int) (W Hn : Nat) (hb : subB w h l x y W Hn = true) (hk : 600 ≤ k) :
    callK C k 43 [fldV b w h l, .c (.int .i64 x), .c (.int .i64 y), .c (.int .i64 (W : Int)), .c (.int .i64 (Hn : Int))] [] = some (.tp [ownV W Hn 0 2 (W * Hn), .c (.bool true)], hpOf [] [intsO (tabL (W * Hn) W (subG l w x y))]) := by
  obtain ⟨k, rfl⟩ : ∃ m, k = m + 9 := ⟨k - 9, by omega⟩
  rw [callK_fn rfl F43 code43]
  simp only [subB, Bool.and_eq_true] at hb
  obtain ⟨g1, hh, hs, hf⟩ := hb
  obtain ⟨s1, n1, _, k1⟩ := good_length g1
  obtain ⟨_, _, p1, p2, p3, p4⟩ := shape_area s1
  obtain ⟨_, a2, a3, a4, a5, a6⟩ := shape_area hs
  obtain ⟨x0, x1, y0, y1⟩ := has_bound hh
  have hhf := has_fit hh hs
  rw [hf] at hhf
  simp only [fitB, Bool.and_eq_true, decide_eq_true_eq] at hf
  have W8 : W ≤ 8 := by omega
  have H8 : Hn ≤ 8 := by omega
  have hWH : W * Hn ≤ 64 := by have := Nat.mul_le_mul W8 H8; omega
  obtain ⟨r, hr⟩ : ∃ r, tabL (W * Hn) W (subG l w x y) = r := ⟨_, rfl⟩
  have hrl : r.length = W * Hn := by rw [← hr, tabL_length]
  have c1 := c_l2Good (k + 8) b w h l (by omega)
  have c2 := c_l2Has (k + 8) b w h l x y ⟨p1, p2⟩ ⟨p3, p4⟩ (by omega)
  have c3 := c_l2Shape (k + 8) W Hn (by omega)
  have c4 := c_l2Has (k + 8) b w h l (x + W - 1) (y + Hn - 1) ⟨p1, p2⟩ ⟨p3, p4⟩ (by omega)
  rw [g1] at c1
  rw [hh] at c2
  rw [hs] at c3
  rw [hhf] at c4
  have w1 : IntKind.i64.wrap (x + W) = x + W := wrap_small (by omega) (by omega)
  have w2 : IntKind.i64.wrap (x + W - 1) = x + W - 1 := wrap_small (by omega) (by omega)
  have w3 : IntKind.i64.wrap (y + Hn) = y + Hn := wrap_small (by omega) (by omega)
  have w4 : IntKind.i64.wrap (y + Hn - 1) = y + Hn - 1 := wrap_small (by omega) (by omega)
  simp [fldV] at c1 c2 c3 c4
  have hin := fun (v : Nat) (hv : v < Hn) => loopOut (body := fun st => runCode C (callK C (k + 8)) (k + 8) (K 43) L43_1 2 st) (keep := [1, 2, 3, 4, 5, 10, 12, 13, 14]) (.ex 2) (fun st => st.ρ 1 = .c (.int .i64 x) ∧ st.ρ 2 = .c (.int .i64 y) ∧ st.ρ 3 = .c (.int .i64 (W : Int)) ∧ st.ρ 4 = .c (.int .i64 (Hn : Int)) ∧ st.ρ 5 = .p 16 1 3 0 0 ∧ st.ρ 10 = .p 32 1 3 0 0 ∧ st.ρ 12 = .p 3136 3 3 0 0 ∧ st.ρ 13 = .c (.int .i64 (v : Int)) ∧
      st.H 16 = some (1, ⟨29, 3, false, [[.c (.int .i64 w), .c (.int .i64 h), .sq b true 1 (ints l)]]⟩) ∧
      st.H 32 = some (1, ⟨29, 3, false, [[.c (.int .i64 0), .c (.int .i64 0), .c (.slice none 0 0)]]⟩) ∧
      st.H 3136 = some (3, ⟨29, 3, false, [[.c (.int .i64 W), .c (.int .i64 Hn), .s 10440 (tkH st.H 10440) 1 0 (v * W + W)]]⟩) ∧
      st.H 10440 = some (tkH st.H 10440, intsO (r.take (v * W + W))))
    (fun i st => st.ρ 1 = .c (.int .i64 x) ∧ st.ρ 2 = .c (.int .i64 y) ∧ st.ρ 3 = .c (.int .i64 (W : Int)) ∧ st.ρ 4 = .c (.int .i64 (Hn : Int)) ∧ st.ρ 5 = .p 16 1 3 0 0 ∧ st.ρ 10 = .p 32 1 3 0 0 ∧ st.ρ 12 = .p 3136 3 3 0 0 ∧ st.ρ 13 = .c (.int .i64 (v : Int)) ∧ st.ρ 14 = .c (.int .i64 (i : Int)) ∧
      st.H 16 = some (1, ⟨29, 3, false, [[.c (.int .i64 w), .c (.int .i64 h), .sq b true 1 (ints l)]]⟩) ∧
      st.H 32 = some (1, ⟨29, 3, false, [[.c (.int .i64 0), .c (.int .i64 0), .c (.slice none 0 0)]]⟩) ∧
      ((v * W + i = 0 ∧ st.H 3136 = some (3, ⟨29, 3, false, [[.c (.int .i64 W), .c (.int .i64 Hn), .c (.slice none 0 0)]]⟩)) ∨
       (0 < v * W + i ∧ ∃ tk, st.H 3136 = some (3, ⟨29, 3, false, [[.c (.int .i64 W), .c (.int .i64 Hn), .s 10440 tk 1 0 (v * W + i)]]⟩) ∧ st.H 10440 = some (tk, intsO (r.take (v * W + i))))))
    W (k + 8) (by omega)
    (by
      rintro i st next hi ⟨q1, q2, q3, q4, q5, q10, q12, q13, q14, H16, H32, hc⟩ hx
      have hvW : v * W + W ≤ W * Hn := by
        have := Nat.mul_le_mul_right W (by omega : v + 1 ≤ Hn)
        rw [Nat.succ_mul, Nat.mul_comm Hn W] at this
        exact this
      have hlt : v * W + i < r.length := by omega
      have hget : r[v * W + i] = subG l w x y i v := by
        subst hr
        exact tabL_at (subG l w x y) hi (by omega)
      have hat := c_l2At (k + 8) true w h l (x + i) (y + v) n1 (by omega) (by omega) (by omega) (by omega) (by omega) (by omega)
      have hat' := c_l2At (k + 8) b w h l (x + i) (y + v) n1 (by omega) (by omega) (by omega) (by omega) (by omega) (by omega)
      simp [fldV] at hat hat'
      have v1 : IntKind.i64.wrap (x + i) = x + i := wrap_small (by omega) (by omega)
      have v2 : IntKind.i64.wrap (y + v) = y + v := wrap_small (by omega) (by omega)
      have hnx : r.take (v * W + i + 1) = r.take (v * W + i) ++ [cellOf l w (x + i) (y + v)] := by rw [List.take_succ_eq_append_getElem hlt, hget]; rfl
      have hiI : (i : Int) < W := by omega
      rcases hc with ⟨hn0, H3136⟩ | ⟨hn0, tk, H3136, H10440⟩
      · rw [hn0] at hnx
        simp at hnx
        simp [L43_1, R43_0, R43_1, R43_2, R43_3, R43_4, R43_5, R43_6, R43_7, R43_8, R43_9, R43_10, R43_11, Try.f43, lpL43_0, lpL43_1, lpM43_0, lpM43_1, M43_0, M43_1, q1, q2, q3, q4, q5, q10, q12, q13, q14, H16, H32, H3136, hiI, hi, v1, v2, hat, hat', maxLen, wrap_next hi (by omega : W ≤ 9000000000000000000)]
        refine hx _ ⟨?_, ?_, ?_, ?_, ?_, ?_, ?_, ?_, ?_, ?_, ?_, .inr ⟨by omega, st.tick + 1, ?_, ?_⟩⟩ <;> simp [q1, q2, q3, q4, q5, q10, q12, q13, H16, H32, intsO, hn0, ints, ← Nat.add_assoc, hnx]
      · have hnb : (v * W + i + 1) * 8 ≤ 140737488355328 := by omega
        have hnb' : v * W + i + 1 ≤ maxLen := by unfold maxLen; omega
        have hl1 : v * W + i ≤ r.length := by omega
        have hl2 : min (v * W + i) r.length = v * W + i := by omega
        simp [L43_1, R43_0, R43_1, R43_2, R43_3, R43_4, R43_5, R43_6, R43_7, R43_8, R43_9, R43_10, R43_11, Try.f43, lpL43_0, lpL43_1, lpM43_0, lpM43_1, M43_0, M43_1, q1, q2, q3, q4, q5, q10, q12, q13, q14, H16, H32, H3136, H10440, hiI, hi, v1, v2, hat, hat', intsO, hl1, hl2, hnb, hnb', wrap_next hi (by omega : W ≤ 9000000000000000000)]
        refine hx _ ⟨?_, ?_, ?_, ?_, ?_, ?_, ?_, ?_, ?_, ?_, ?_, .inr ⟨by omega, st.tick + 1, ?_, ?_⟩⟩ <;> simp [q1, q2, q3, q4, q5, q10, q12, q13, H16, H32, intsO, ← Nat.add_assoc, hnx, ints])
    (by
      rintro st next ⟨q1, q2, q3, q4, q5, q10, q12, q13, q14, H16, H32, hc⟩
      rcases hc with ⟨hn0, H3136⟩ | ⟨hn0, tk, H3136, H10440⟩
      · omega
      · simp [L43_1, R43_0, R43_1, R43_2, R43_3, R43_4, R43_5, R43_6, R43_7, R43_8, R43_9, R43_10, R43_11, Try.f43, lpL43_0, lpL43_1, lpM43_0, lpM43_1, M43_0, M43_1, q1, q2, q3, q4, q5, q10, q12, q13, q14, H16, H32, H3136, H10440, intsO, tkH])
  obtain ⟨out, ho⟩ := loopOut (body := fun st => runCode C (callK C (k + 8)) (k + 8) (K 43) L43_0 1 st) (keep := [1, 2, 3, 4, 5, 10, 12, 13]) (.ex 0) (fun st => st.ρ 10 = .p 32 1 3 0 0 ∧ st.ρ 12 = .p 3136 3 3 0 0 ∧
      st.H 32 = some (1, ⟨29, 3, false, [[.c (.int .i64 0), .c (.int .i64 0), .c (.slice none 0 0)]]⟩) ∧
      st.H 3136 = some (3, ⟨29, 3, false, [[.c (.int .i64 W), .c (.int .i64 Hn), .s 10440 (tkH st.H 10440) 1 0 (W * Hn)]]⟩) ∧
      st.H 10440 = some (tkH st.H 10440, intsO r))
    (fun i st => st.ρ 1 = .c (.int .i64 x) ∧ st.ρ 2 = .c (.int .i64 y) ∧ st.ρ 3 = .c (.int .i64 (W : Int)) ∧ st.ρ 4 = .c (.int .i64 (Hn : Int)) ∧ st.ρ 5 = .p 16 1 3 0 0 ∧ st.ρ 10 = .p 32 1 3 0 0 ∧ st.ρ 12 = .p 3136 3 3 0 0 ∧ st.ρ 13 = .c (.int .i64 (i : Int)) ∧
      st.H 16 = some (1, ⟨29, 3, false, [[.c (.int .i64 w), .c (.int .i64 h), .sq b true 1 (ints l)]]⟩) ∧
      st.H 32 = some (1, ⟨29, 3, false, [[.c (.int .i64 0), .c (.int .i64 0), .c (.slice none 0 0)]]⟩) ∧
      ((i = 0 ∧ st.H 3136 = some (3, ⟨29, 3, false, [[.c (.int .i64 W), .c (.int .i64 Hn), .c (.slice none 0 0)]]⟩)) ∨
       (0 < i ∧ st.H 3136 = some (3, ⟨29, 3, false, [[.c (.int .i64 W), .c (.int .i64 Hn), .s 10440 (tkH st.H 10440) 1 0 (i * W)]]⟩) ∧ st.H 10440 = some (tkH st.H 10440, intsO (r.take (i * W))))))
    Hn (k + 8) (by omega)
    (by
      rintro i st next hi ⟨q1, q2, q3, q4, q5, q10, q12, q13, H16, H32, hc⟩ hx
      obtain ⟨out, ho⟩ := hin i hi
      have hiI : (i : Int) < Hn := by omega
      have hs1 : (i + 1) * W = i * W + W := Nat.succ_mul i W
      have hi1 : 0 < i + 1 := by omega
      rcases hc with ⟨hn0, H3136⟩ | ⟨hn0, H3136, H10440⟩
      · subst hn0
        have hoA := fun st a1 a2 a3 a4 a5 a6 a7 a8 a9 a10 a11 a12 => ho st ⟨a1, a2, a3, a4, a5, a6, a7, a8, a9, a10, a11, .inl ⟨by omega, a12⟩⟩
        simp at hoA
        simp [L43_0, R43_0, R43_1, R43_2, R43_3, R43_4, R43_5, R43_6, R43_7, R43_8, R43_9, R43_10, R43_11, Try.f43, lpL43_0, lpL43_1, lpM43_0, lpM43_1, M43_0, M43_1, q1, q2, q3, q4, q5, q10, q12, q13, H16, H32, H3136, hi, hoA, wrap_next hi (by omega : Hn ≤ 9000000000000000000), wrap_1]
        refine hx _ ⟨?_, ?_, ?_, ?_, ?_, ?_, ?_, ?_, ?_, ?_, .inr ⟨by omega, ?_, ?_⟩⟩ <;> simp [hoA, q1, q2, q3, q4, q5, q10, q12, q13, H16, H32, H3136, intsO]
      · obtain ⟨tk, htk⟩ : ∃ tk, tkH st.H 10440 = tk := ⟨_, rfl⟩
        rw [htk] at H3136 H10440
        have hiW : 0 < i * W := Nat.mul_pos hn0 (by omega)
        have hoB := fun st a1 a2 a3 a4 a5 a6 a7 a8 a9 a10 a11 a12 a13 => ho st ⟨a1, a2, a3, a4, a5, a6, a7, a8, a9, a10, a11, .inr ⟨by omega, tk, a12, a13⟩⟩
        simp at hoB
        simp [L43_0, R43_0, R43_1, R43_2, R43_3, R43_4, R43_5, R43_6, R43_7, R43_8, R43_9, R43_10, R43_11, Try.f43, lpL43_0, lpL43_1, lpM43_0, lpM43_1, M43_0, M43_1, q1, q2, q3, q4, q5, q10, q12, q13, H16, H32, H3136, H10440, hi, hoB, wrap_next hi (by omega : Hn ≤ 9000000000000000000)]
        refine hx _ ⟨?_, ?_, ?_, ?_, ?_, ?_, ?_, ?_, ?_, ?_, .inr ⟨by omega, ?_, ?_⟩⟩ <;> simp [hoB, q1, q2, q3, q4, q5, q10, q12, q13, H16, H32, H3136, H10440, hs1])
    (by
      rintro st next ⟨q1, q2, q3, q4, q5, q10, q12, q13, H16, H32, hc⟩
      rcases hc with ⟨hn0, H3136⟩ | ⟨hn0, H3136, H10440⟩
      · omega
      · have e1 : Hn * W = W * Hn := Nat.mul_comm _ _
        have e2 : r.take (W * Hn) = r := List.take_of_length_le (by omega)
        rw [e1] at H3136 H10440
        rw [e2] at H10440
        obtain ⟨tk, htk⟩ : ∃ tk, tkH st.H 10440 = tk := ⟨_, rfl⟩
        rw [htk] at H3136 H10440
        simp [L43_0, R43_0, R43_1, R43_2, R43_3, R43_4, R43_5, R43_6, R43_7, R43_8, R43_9, R43_10, R43_11, Try.f43, lpL43_0, lpL43_1, lpM43_0, lpM43_1, M43_0, M43_1, q1, q2, q3, q4, q5, q10, q12, q13, H16, H32, H3136, H10440, intsO, tkH])
  have hoA := fun st a1 a2 a3 a4 a5 a6 a7 a8 a9 a10 a12 => ho st ⟨a1, a2, a3, a4, a5, a6, a7, a8, a9, a10, .inl ⟨rfl, a12⟩⟩
  simp [intsO] at hoA
  simp [R43_0, R43_1, R43_2, R43_3, R43_4, R43_5, R43_6, R43_7, R43_8, R43_9, R43_10, R43_11, Try.f43, lpL43_0, lpL43_1, lpM43_0, lpM43_1, M43_0, M43_1, fldV, c1, c2, c3, c4, w1, w2, w3, w4, hoA, ownV, intsO, hr, hrl]
theorem c_specSubNo (k : Nat) (b : Bool) (w h : Int) (l : List Int) (x y wide high : Int) (hb : subB w h l x y wide high = false) (hk : 600 ≤ k) :
    callK C k 43 [fldV b w h l, .c (.int .i64 x), .c (.int .i64 y), .c (.int .i64 wide), .c (.int .i64 high)] [] = some (.tp [nilV, .c (.bool false)], hpOf [] []) := by
  obtain ⟨k, rfl⟩ : ∃ m, k = m + 9 := ⟨k - 9, by omega⟩
  rw [callK_fn rfl F43 code43]
  have c1 := c_l2Good (k + 8) b w h l (by omega)
  cases g1 : goodB w h l
  · rw [g1] at c1
    simp [fldV] at c1
    simp [R43_0, R43_1, R43_2, R43_3, R43_4, R43_5, R43_6, R43_7, R43_8, R43_9, R43_10, R43_11, Try.f43, lpL43_0, lpL43_1, lpM43_0, lpM43_1, M43_0, M43_1, fldV, c1, nilV]
  obtain ⟨s1, n1, _, k1⟩ := good_length g1
  obtain ⟨_, _, p1, p2, p3, p4⟩ := shape_area s1
  have c2 := c_l2Has (k + 8) b w h l x y ⟨p1, p2⟩ ⟨p3, p4⟩ (by omega)
  rw [g1] at c1
  cases hh : hasB w h x y
  · rw [hh] at c2
    simp [fldV] at c1 c2
    simp [R43_0, R43_1, R43_2, R43_3, R43_4, R43_5, R43_6, R43_7, R43_8, R43_9, R43_10, R43_11, Try.f43, lpL43_0, lpL43_1, lpM43_0, lpM43_1, M43_0, M43_1, fldV, c1, c2, nilV]
  rw [hh] at c2
  have c3 := c_l2Shape (k + 8) wide high (by omega)
  cases hs : shapeB wide high
  · rw [hs] at c3
    simp [fldV] at c1 c2 c3
    simp [R43_0, R43_1, R43_2, R43_3, R43_4, R43_5, R43_6, R43_7, R43_8, R43_9, R43_10, R43_11, Try.f43, lpL43_0, lpL43_1, lpM43_0, lpM43_1, M43_0, M43_1, fldV, c1, c2, c3, nilV]
  rw [hs] at c3
  obtain ⟨_, a2, a3, a4, a5, a6⟩ := shape_area hs
  obtain ⟨x0, x1, y0, y1⟩ := has_bound hh
  have c4 := c_l2Has (k + 8) b w h l (x + wide - 1) (y + high - 1) ⟨p1, p2⟩ ⟨p3, p4⟩ (by omega)
  have hf : fitB w h x y wide high = false := by simpa [subB, g1, hh, hs] using hb
  rw [has_fit hh hs, hf] at c4
  have w1 : IntKind.i64.wrap (x + wide) = x + wide := wrap_small (by omega) (by omega)
  have w2 : IntKind.i64.wrap (x + wide - 1) = x + wide - 1 := wrap_small (by omega) (by omega)
  have w3 : IntKind.i64.wrap (y + high) = y + high := wrap_small (by omega) (by omega)
  have w4 : IntKind.i64.wrap (y + high - 1) = y + high - 1 := wrap_small (by omega) (by omega)
  simp [fldV] at c1 c2 c3 c4
  simp [R43_0, R43_1, R43_2, R43_3, R43_4, R43_5, R43_6, R43_7, R43_8, R43_9, R43_10, R43_11, Try.f43, lpL43_0, lpL43_1, lpM43_0, lpM43_1, M43_0, M43_1, fldV, c1, c2, c3, c4, w1, w2, w3, w4, nilV]
theorem c_implSub (k : Nat) (w h : Int) (l : List Int) (x y wide high : Int) (hk : 600 ≤ k) :
    callK C k 42 [fldV true w h l, .c (.int .i64 x), .c (.int .i64 y), .c (.int .i64 wide), .c (.int .i64 high)] [] = some (if subB w h l x y wide high then (.tp [ownV wide high 0 2 (wide * high).toNat, .c (.bool true)], hpOf [] [intsO (tabL (wide * high).toNat wide (subG l w x y))]) else (.tp [nilV, .c (.bool false)], hpOf [] [])) := by
  obtain ⟨k, rfl⟩ : ∃ m, k = m + 20 := ⟨k - 20, by omega⟩
  rw [callK_fn rfl F42 code42]
  have c1 := c_IsValidField (k + 19) true w h l (by omega)
  cases g1 : goodB w h l
  · rw [g1] at c1
    simp [fldV] at c1
    simp [R42_0, R42_1, R42_2, R42_3, Try.f42, fldV, c1, nilV, subB, g1]
  obtain ⟨s1, n1, _, k1⟩ := good_length g1
  obtain ⟨_, _, p1, p2, p3, p4⟩ := shape_area s1
  rw [g1] at c1
  have c3 := c_isShape (k + 19) wide high (by omega)
  cases hs : shapeB wide high
  · rw [hs] at c3
    simp [fldV] at c1 c3
    simp [R42_0, R42_1, R42_2, R42_3, Try.f42, fldV, c1, c3, nilV, subB, hs]
  rw [hs] at c3
  have c2 := c_hasCell (k + 19) true w h l x y ⟨p1, p2⟩ ⟨p3, p4⟩ (by omega)
  cases hh : hasB w h x y
  · rw [hh] at c2
    simp [fldV] at c1 c2 c3
    simp [R42_0, R42_1, R42_2, R42_3, Try.f42, fldV, c1, c2, c3, nilV, subB, hh]
  rw [hh] at c2
  obtain ⟨_, a2, a3, a4, a5, a6⟩ := shape_area hs
  obtain ⟨x0, x1, y0, y1⟩ := has_bound hh
  have w1 : IntKind.i64.wrap (x + wide) = x + wide := wrap_small (by omega) (by omega)
  have w3 : IntKind.i64.wrap (y + high) = y + high := wrap_small (by omega) (by omega)
  simp [fldV] at c1 c2 c3
  by_cases f1 : x + wide ≤ w
  · have f1' : ¬ w < x + wide := by omega
    by_cases f2 : y + high ≤ h
    · have f2' : ¬ h < y + high := by omega
      have hb := c_fieldBy (k + 10) 126 [.bx true [.c (.int .i64 w), .c (.int .i64 h), .sq true true 1 (ints l)], .bx true [.c (.int .i64 y)], .bx true [.c (.int .i64 x)]] wide high (subG l w x y) hs (by decide) (by intro H; simp)
        (fun u v u0 u1 v0 v1 => by
          have := c_SubField1 (k + 10 + 8) w h l x y u v n1 k1 (by omega) (by omega) (by omega) (by omega) p2 p4 u0 v0 x0 (by omega)
          exact this) (by omega)
      simp [ownV, intsO] at hb
      simp [R42_0, R42_1, R42_2, R42_3, Try.f42, fldV, c1, c2, c3, w1, w3, f1, f1', f2, f2', hb, ownV, intsO, subB, g1, hs, hh, fitB]
    · have f2' : h < y + high := by omega
      simp [R42_0, R42_1, R42_2, R42_3, Try.f42, fldV, c1, c2, c3, w1, w3, f1, f1', f2, f2', nilV, subB, g1, hs, hh, fitB]
  · have f1' : w < x + wide := by omega
    simp [R42_0, R42_1, R42_2, R42_3, Try.f42, fldV, c1, c2, c3, w1, w3, f1, f1', nilV, subB, g1, hs, hh, fitB]
theorem res_SubField (k : Nat) (w1 h1 : Int) (l1 : List Int) (x y wide high : Int) (hk : 3000 ≤ k) :
    (callK C k 43 [fldV true w1 h1 l1, .c (.int .i64 x), .c (.int .i64 y), .c (.int .i64 wide), .c (.int .i64 high)] [] = some (.tp [nilV, .c (.bool false)], hpOf [] []) ∧ callK C k 42 [fldV true w1 h1 l1, .c (.int .i64 x), .c (.int .i64 y), .c (.int .i64 wide), .c (.int .i64 high)] [] = some (.tp [nilV, .c (.bool false)], hpOf [] [])) ∨
    ∃ (rW rH : Int) (r : List Int), r.length ≤ 64 ∧ callK C k 43 [fldV true w1 h1 l1, .c (.int .i64 x), .c (.int .i64 y), .c (.int .i64 wide), .c (.int .i64 high)] [] = some (.tp [ownV rW rH 0 2 r.length, .c (.bool true)], hpOf [] [intsO r]) ∧ callK C k 42 [fldV true w1 h1 l1, .c (.int .i64 x), .c (.int .i64 y), .c (.int .i64 wide), .c (.int .i64 high)] [] = some (.tp [ownV rW rH 0 2 r.length, .c (.bool true)], hpOf [] [intsO r]) := by
  have i1 := c_implSub k w1 h1 l1 x y wide high (by omega)
  cases hb : subB w1 h1 l1 x y wide high
  · rw [hb] at i1
    exact .inl ⟨c_specSubNo k true w1 h1 l1 x y wide high hb (by omega), i1⟩
  · rw [hb] at i1
    have hb' := hb
    simp only [subB, Bool.and_eq_true] at hb'
    obtain ⟨_, a2, a3, a4, a5, a6⟩ := shape_area hb'.2.2.1
    obtain ⟨W, rfl⟩ : ∃ W : Nat, wide = W := ⟨wide.toNat, by omega⟩
    obtain ⟨Hn, rfl⟩ : ∃ Hn : Nat, high = Hn := ⟨high.toNat, by omega⟩
    have e : ((W : Int) * (Hn : Int)).toNat = W * Hn := by rw [← Int.natCast_mul]; rfl
    rw [e] at i1
    have hl := tabL_length (W * Hn) W (subG l1 w1 x y)
    refine .inr ⟨W, Hn, tabL (W * Hn) W (subG l1 w1 x y), ?_, ?_, ?_⟩
    · rw [hl]
      have := Nat.mul_le_mul (by omega : W ≤ 8) (by omega : Hn ≤ 8)
      omega
    · rw [hl]
      exact c_specSub k true w1 h1 l1 x y W Hn hb (by omega)
    · rw [hl]
      exact i1

end Go.Proofs.Ytfdlllhcjfhknaa.Eng
