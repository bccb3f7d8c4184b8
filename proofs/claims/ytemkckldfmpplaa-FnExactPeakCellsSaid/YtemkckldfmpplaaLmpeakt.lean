/- A deterministic reading of Go code over plain data: what functions of the program compute. No conditions. -/
import Derived.Test.YtemkckldfmpplaaLmbase
import Derived.Test.YtemkckldfmpplaaLmimpl
import Derived.Test.YtemkckldfmpplaaLmgood
import Derived.Test.YtemkckldfmpplaaLmnbh
import Derived.Test.YtemkckldfmpplaaLmrepeat
import Derived.Test.YtemkckldfmpplaaLmfieldby
import Derived.Test.YtemkckldfmpplaaLmminmax
import Derived.Test.YtemkckldfmpplaaLml6values
import Derived.Test.YtemkckldfmpplaaLml6main
import Derived.Test.YtemkckldfmpplaaLmpeakp
import Derived.Test.YtemkckldfmpplaaLmneigh
import Derived.Test.YtemkckldfmpplaaLmfield
import Derived.Test.YtemkckldfmpplaaLmnested
import Derived.Test.YtemkckldfmpplaaLmpeaki
import Derived.Test.YtemkckldfmpplaaLmpeakm
import Derived.Test.YtemkckldfmpplaaLmpeako
import Derived.Test.YtemkckldfmpplaaLmpeakq
import Derived.Test.YtemkckldfmpplaaLmpeakr
import Derived.Test.YtemkckldfmpplaaLmpeaks
import Derived.Test.YtemkckldfmpplaaEngT
namespace Go.Proofs.Ytemkckldfmpplaa.Eng
open Go Go.Proofs
set_option maxRecDepth 100000
set_option maxHeartbeats 2000000
set_option linter.unusedSimpArgs false
set_option linter.unusedVariables false
attribute [local simp] finK fin1 hpOf xi renQ isRoot runCode runOps stepX inlOf Eng.step wantedV astep val ofO made loadV storeV find V.cells bin binT binA numT numFs eqCells un1 setAt fieldAddrV fieldV indexAddrV indexV bounds sliceV convV lenV foldV max2V min2V callO bor rdsO wrsO seen_none okD_none loops keepIds resV resultsV St.ev TK.agg refs refsL refsO V.one V.isC Value.oneCell' ren renL renO noTag noTagL noTagR noTagO nodup mapO passV frs psi refsR newD loopNext opsAt idx flatAt rootOf backR newsV appendV copyV clearV strV bytesV bldV bufV selfV bytesOf nilCmp buildV fillF chunk
attribute [local simp] cT cF cX cWR cOW cK cBL X ints_length ints_get ints_getElem ints_drop ints_take ints_append ints_nil ints_set
attribute [local simp] ints_replicate
attribute [local simp] putV_some putV_none putH_app applyD_nil applyD_cons seen_app gc_ρ gc_H gc_tick st0_ρ st0_H st0_tick retV callRo callV_if borL_nil borL_cons ints_snoc take_self callWr cutH_app findQ afterV exportV_0 exportV_n okD_nil okD_cons sub_seq0 sub_seq1 sub_cond0 sub_cond1 sub_block sub_loop sub_nil young_far young_none hidW_nil mayW_nil pairs okI ok_0 ok_1 ok_2
attribute [local simp] T3 T4 T22 T24 T26 T29 T44
attribute [local simp] young_near clo cloF Region.binds Nat.testBit hidW declW mayW List.findIdx?_cons
/-- What a list of lists is, read: a list, or nil. -/
def isSS (x : V) (L : List (List Int)) : Prop := x = .sq true false 1 (nst L) ∨ (L = [] ∧ x = .c (.slice none 0 0))
theorem eqSS1 (k : Nat) (hk : 3000 ≤ k) : callK C k 8 [.sq true false 1 (nst []), .c (.slice none 0 0)] [] = some (.c (.bool true), hpOf [] []) := by
  obtain ⟨k, rfl⟩ : ∃ m, k = m + 10 := ⟨k - 10, by omega⟩
  rw [callK_fn rfl F8 code8]
  simp [R8_0, R8_1, R8_2, R8_3, R8_4, R8_5, R8_6, R8_7, R8_8, Try.f8, lpL8_0, lpM8_0, M8_0, L8_0, loopRun_succ, nst]
theorem eqSS2 (k : Nat) (hk : 3000 ≤ k) : callK C k 8 [.c (.slice none 0 0), .sq true false 1 (nst [])] [] = some (.c (.bool true), hpOf [] []) := by
  obtain ⟨k, rfl⟩ : ∃ m, k = m + 10 := ⟨k - 10, by omega⟩
  rw [callK_fn rfl F8 code8]
  simp [R8_0, R8_1, R8_2, R8_3, R8_4, R8_5, R8_6, R8_7, R8_8, Try.f8, lpL8_0, lpM8_0, M8_0, L8_0, loopRun_succ, nst]
theorem eqSS3 (k : Nat) (hk : 3000 ≤ k) : callK C k 8 [.c (.slice none 0 0), .c (.slice none 0 0)] [] = some (.c (.bool true), hpOf [] []) := by
  obtain ⟨k, rfl⟩ : ∃ m, k = m + 10 := ⟨k - 10, by omega⟩
  rw [callK_fn rfl F8 code8]
  simp [R8_0, R8_1, R8_2, R8_3, R8_4, R8_5, R8_6, R8_7, R8_8, Try.f8, lpL8_0, lpM8_0, M8_0, L8_0, loopRun_succ]
theorem heldSS1 (k : Nat) (hk : 3000 ≤ k) : callK C k 12 [.c (.slice none 0 0), .c (.int .i64 1)] [] = some (.c (.int .i64 1), hpOf [] []) := by
  obtain ⟨k, rfl⟩ : ∃ m, k = m + 10 := ⟨k - 10, by omega⟩
  rw [callK_fn rfl F12 code12]
  simp [R12_0, R12_1, R12_2, R12_3, R12_4, R12_5, R12_6, R12_7, Try.f12, lpL12_0, lpM12_0, M12_0, L12_0, loopRun_succ]
theorem eqSS (k : Nat) (x y : V) (L : List (List Int)) (hx : isSS x L) (hy : isSS y L) (hl : L.length ≤ 1000) (hs : ∀ l ∈ L, l.length ≤ 1000) (hk : 3000 ≤ k) : callK C k 8 [x, y] [] = some (.c (.bool true), hpOf [] []) := by
  rcases hx with rfl | ⟨e, rfl⟩ <;> rcases hy with rfl | ⟨e', rfl⟩
  · exact c_eqIntSS k true true L hl hs hk
  · subst e'
    exact eqSS1 k hk
  · subst e
    exact eqSS2 k hk
  · exact eqSS3 k hk
theorem heldSS (k : Nat) (x : V) (L : List (List Int)) (hx : isSS x (mkSS 1 L)) (hl : L.length ≤ 1000) (hs : ∀ l ∈ L, l.length ≤ 1000) (hk : 3000 ≤ k) : callK C k 12 [x, .c (.int .i64 1)] [] = some (.c (.int .i64 (1 + (sumS L : Int))), hpOf [] []) := by
  rcases hx with rfl | ⟨e, rfl⟩
  · exact c_heldIntSS k true L hl hs hk
  · have e2 : L = [] := by
      cases L with
      | nil => rfl
      | cons a b => simp [mkSS] at e
    subst e2
    exact heldSS1 k hk
/-- A list of lists of one's own, all of it made between two ticks. -/
structure Ow (H : Hp) (v : V) (P : List (Nat × Nat × List Int)) (lo hi : Nat) : Prop where
  N : NS H v P hi
  nw : ∀ p ∈ P, lo ≤ p.1
  no : ∀ id vr n, v = .s id vr 1 0 n → lo ≤ id
theorem Ow.keep {H H' : Hp} {v : V} {P : List (Nat × Nat × List Int)} {lo hi : Nat} (h : Ow H v P lo hi) (hk : ∀ id, lo ≤ id → id < hi → H' id = H id) : Ow H' v P lo hi := by
  obtain ⟨⟨h1, h2, h3⟩, nw, no⟩ := h
  refine ⟨⟨fun p hp => ?_, h2, ?_⟩, nw, no⟩
  · obtain ⟨a, b⟩ := h1 p hp
    exact ⟨by rw [hk _ (nw p hp) b]; exact a, b⟩
  · rcases h3 with ⟨e, h3⟩ | ⟨e, id, vr, a, b, c, d⟩
    · refine .inl ⟨e, ?_⟩
      rcases h3 with h3 | ⟨id, vr, a, c, d⟩
      · exact .inl h3
      · exact .inr ⟨id, vr, a, c, by rw [hk _ (no _ _ _ c) a]; exact d⟩
    · exact .inr ⟨e, id, vr, a, b, c, by rw [hk _ (no _ _ _ c) a]; exact d⟩
theorem Ow.bor {H : Hp} {v : V} {P : List (Nat × Nat × List Int)} {lo hi : Nat} (h : Ow H v P lo hi) : ∃ x, Eng.bor H 4 v = some x ∧ isSS x (P.map (·.2.2)) := by
  obtain ⟨x, e, hx⟩ := h.N.bor 2
  refine ⟨x, e, ?_⟩
  rcases hx with hx | ⟨rfl, hx⟩
  · exact .inl hx
  · exact .inr ⟨rfl, hx⟩
/-- The answer. -/
def okPk (w h : Int) (l : List Int) (r : Int) : Bool := goodB w h l && (decide (0 ≤ r) && decide (r ≤ 3))
def ptsZ (w h : Int) (l : List Int) (r : Int) : List (List Int) := if okPk w h l r then pts l w.toNat h.toNat r l.length else []
theorem ptsZ_len (w h : Int) (l : List Int) (r : Int) : (ptsZ w h l r).length ≤ 64 ∧ ∀ x ∈ ptsZ w h l r, x.length ≤ 10 := by
  unfold ptsZ
  split
  · rename_i hg
    unfold okPk at hg
    simp only [Bool.and_eq_true] at hg
    obtain ⟨s1, n1, cl1, k1⟩ := good_length hg.1
    unfold pts
    refine ⟨?_, ?_⟩
    · rw [List.length_map]
      exact Nat.le_trans (List.length_filter_le _ _) (by rw [List.length_range]; omega)
    · intro x hx
      obtain ⟨i, _, rfl⟩ := List.mem_map.1 hx
      simp
  · simp
def PkA (w h : Int) (l : List Int) (r : Int) (H : Hp) (tick : Nat) (v : V) (H' : Hp) (tk' : Nat) : Prop := ∃ P, Ow H' v P (Bt tick) (Bt tk') ∧ P.map (·.2.2) = ptsZ w h l r ∧ (∀ id, id < Bt tick → H' id = H id) ∧ tick ≤ tk'
def PkH (idc vrc : Nat) (l : List Int) (H : Hp) (tick : Nat) : Prop := 1 ≤ tick ∧ idc < Bt tick ∧ H idc = some (vrc, intsO l)
theorem implAny (k : Nat) (w h : Int) (l : List Int) (r : Int) (idc vrc : Nat) (hk : 4001 ≤ k) : ∀ H tick, PkH idc vrc l H tick → ∃ v H' tk', (callK C k).inl 7 [.ag [.c (.int .i64 w), .c (.int .i64 h), .s idc vrc 1 0 l.length], .c (.int .i64 r)] H tick = some (.tp [v, .c (.bool (okPk w h l r))], H', tk') ∧ PkA w h l r H tick v H' tk' := by
  intro H tick ⟨ht, lc, Hc⟩
  obtain ⟨k, rfl⟩ : ∃ m, k = m + 1 := ⟨k - 1, by omega⟩
  cases hg : okPk w h l r
  · obtain ⟨H', tk', e, hk', ht'⟩ := i_implPeakN k w h l r idc vrc hg (by omega) H tick ht lc Hc
    exact ⟨_, H', tk', e, [], ⟨⟨by simp, by simp, .inl ⟨rfl, .inl rfl⟩⟩, by simp, by simp⟩, by simp [ptsZ, hg], hk', ht'⟩
  · have hg' := hg
    unfold okPk at hg
    simp only [Bool.and_eq_true, decide_eq_true_eq] at hg
    obtain ⟨s1, n1, cl1, k1⟩ := good_length hg.1
    obtain ⟨_, _, p1, p2, p3, p4⟩ := shape_area s1
    obtain ⟨W, rfl⟩ : ∃ W : Nat, w = W := ⟨w.toNat, by omega⟩
    obtain ⟨Hn, rfl⟩ : ∃ Hn : Nat, h = Hn := ⟨h.toNat, by omega⟩
    obtain ⟨v, P, H', tk', e, N, pt, old, nw, no, le⟩ := i_implPeak k W Hn l r idc vrc hg.1 hg.2.1 hg.2.2 (by omega) H tick ht lc Hc
    exact ⟨v, H', tk', e, P, ⟨N, nw, no⟩, by rw [pt]; simp [ptsZ, hg'], old, le⟩
theorem specAny (k : Nat) (w h : Int) (l : List Int) (r : Int) (idc vrc : Nat) (hk : 4001 ≤ k) : ∀ H tick, PkH idc vrc l H tick → ∃ v H' tk', (callK C k).inl 5 [.ag [.c (.int .i64 w), .c (.int .i64 h), .s idc vrc 1 0 l.length], .c (.int .i64 r)] H tick = some (.tp [v, .c (.bool (okPk w h l r))], H', tk') ∧ PkA w h l r H tick v H' tk' := by
  intro H tick ⟨ht, lc, Hc⟩
  obtain ⟨k, rfl⟩ : ∃ m, k = m + 1 := ⟨k - 1, by omega⟩
  cases hg : okPk w h l r
  · obtain ⟨v, H', tk', e, N, no, hk', ht'⟩ := i_specPeakN k w h l r idc vrc hg (by omega) H tick ht lc Hc
    exact ⟨v, H', tk', e, [], ⟨N, by simp, no⟩, by simp [ptsZ, hg], hk', ht'⟩
  · have hg' := hg
    unfold okPk at hg
    simp only [Bool.and_eq_true, decide_eq_true_eq] at hg
    obtain ⟨s1, n1, cl1, k1⟩ := good_length hg.1
    obtain ⟨_, _, p1, p2, p3, p4⟩ := shape_area s1
    obtain ⟨W, rfl⟩ : ∃ W : Nat, w = W := ⟨w.toNat, by omega⟩
    obtain ⟨Hn, rfl⟩ : ∃ Hn : Nat, h = Hn := ⟨h.toNat, by omega⟩
    obtain ⟨v, P, H', tk', e, N, pt, old, nw, no, le⟩ := i_specPeak k W Hn l r idc vrc hg.1 hg.2.1 hg.2.2 (by omega) H tick ht lc Hc
    exact ⟨v, H', tk', e, P, ⟨N, nw, no⟩, by rw [pt]; simp [ptsZ, hg'], old, le⟩
theorem inl_at {F : Hp → Nat → Option (V × Hp × Nat)} {D : Hp → Nat → Prop} {b : V} {Q : Hp → Nat → V → Hp → Nat → Prop} (h : ∀ H tick, D H tick → ∃ v H' tk', F H tick = some (.tp [v, b], H', tk') ∧ Q H tick v H' tk') {H : Hp} {tick : Nat} {res : Option (V × Hp × Nat)} (hr : F H tick = res) (hD : D H tick) : ∃ v H' tk', res = some (.tp [v, b], H', tk') ∧ Q H tick v H' tk' := by
  obtain ⟨v, H', tk', e, q⟩ := h H tick hD
  exact ⟨v, H', tk', by rw [← hr, e], q⟩

end Go.Proofs.Ytemkckldfmpplaa.Eng
