/- A deterministic reading of Go code over plain data: what functions of the program compute. No conditions. -/
import Derived.Test.YtalpgpjhloohfaaDoorLmbase
import Derived.Test.YtalpgpjhloohfaaDoorLmimpl
import Derived.Test.YtalpgpjhloohfaaDoorLmgood
import Derived.Test.YtalpgpjhloohfaaDoorLmitoa
import Derived.Test.YtalpgpjhloohfaaDoorLmappendck
import Derived.Test.YtalpgpjhloohfaaDoorLmsplit
import Derived.Test.YtalpgpjhloohfaaDoorLmjoins
import Derived.Test.YtalpgpjhloohfaaDoorEngT
import Derived.Lib.IndexLaws
import Derived.Lib.IndexBytes
import Derived.Lib.Join
import Derived.Lib.Split
import Derived.Lib.SplitLaws
namespace Go.Proofs.YtalpgpjhloohfaaDoor.Eng
open Go Go.Proofs
set_option maxRecDepth 100000
set_option maxHeartbeats 2000000
set_option linter.unusedSimpArgs false
set_option linter.unusedVariables false
attribute [local simp] finK fin1 hpOf xi renQ isRoot runCode runOps Eng.step wantedV astep val ofO made loadV storeV find V.cells bin binT binA numT numFs eqCells un1 setAt fieldAddrV fieldV indexAddrV indexV bounds sliceV convV lenV foldV max2V min2V callO bor rdsO wrsO seen_none okD_none loops keepIds resV resultsV St.ev TK.agg refs refsL refsO V.one V.isC Value.oneCell' ren renL renO noTag noTagL noTagR noTagO nodup mapO passV frs psi refsR newD loopNext opsAt idx flatAt rootOf backR newsV appendV copyV clearV strV bytesV bldV bufV selfV bytesOf nilCmp buildV fillF chunk
attribute [local simp] cT cF cX cWR cOW cK cBL X ints_length ints_get ints_getElem ints_drop ints_take ints_append ints_nil ints_set
attribute [local simp] ints_replicate
attribute [local simp] putV_some putV_none putH_app applyD_nil applyD_cons seen_app gc_ρ gc_H gc_tick st0_ρ st0_H st0_tick retV callRo callV_if borL_nil borL_cons ints_snoc take_self callWr cutH_app findQ afterV exportV_0 exportV_n okD_nil okD_cons sub_seq0 sub_seq1 sub_cond0 sub_cond1 sub_block sub_loop sub_nil young_far young_none hidW_nil mayW_nil pairs okI ok_0 ok_1 ok_2
attribute [local simp] T3 T4 T9 T22 T24 T28 T55 T70
/-- The pieces between the bytes b. -/
def CutOf (b : UInt8) : List (List UInt8) → List UInt8 → Prop
  | [], _ => False
  | [x], l => l = x ∧ b ∉ x
  | x :: y :: r, l => b ∉ x ∧ ∃ l', l = x ++ b :: l' ∧ CutOf b (y :: r) l'
theorem cut_cons {b : UInt8} {x : List UInt8} {q : List (List UInt8)} {l' : List UInt8} (hx : b ∉ x) (h : CutOf b q l') : CutOf b (x :: q) (x ++ b :: l') := by
  cases q with
  | nil => exact absurd h (by simp [CutOf])
  | cons y r => exact ⟨hx, l', rfl, h⟩
theorem app_inj {b : UInt8} : ∀ {x y u v : List UInt8}, b ∉ x → b ∉ y → x ++ b :: u = y ++ b :: v → x = y ∧ u = v
  | [], [], u, v, _, _, h => ⟨rfl, by simpa using h⟩
  | [], c :: y, u, v, _, hy, h => by
    simp only [List.nil_append, List.cons_append, List.cons.injEq] at h
    exact absurd (by rw [h.1]; simp) hy
  | a :: x, [], u, v, hx, _, h => by
    simp only [List.nil_append, List.cons_append, List.cons.injEq] at h
    exact absurd (by rw [h.1]; simp) hx
  | a :: x, c :: y, u, v, hx, hy, h => by
    simp only [List.cons_append, List.cons.injEq] at h
    obtain ⟨h1, h2⟩ := app_inj (fun e => hx (List.mem_cons_of_mem _ e)) (fun e => hy (List.mem_cons_of_mem _ e)) h.2
    exact ⟨by rw [h.1, h1], h2⟩
theorem cut_unique (b : UInt8) : ∀ (p q : List (List UInt8)) (l : List UInt8), CutOf b p l → CutOf b q l → p = q
  | [], _, _, h, _ => absurd h (by simp [CutOf])
  | _ :: _, [], _, _, h => absurd h (by simp [CutOf])
  | [x], [y], l, h, k => by rw [← h.1, ← k.1]
  | [x], y :: z :: r, l, h, k => by
    obtain ⟨_, l', e, _⟩ := k
    exact absurd (by rw [← h.1, e]; simp) h.2
  | x :: z :: r, [y], l, h, k => by
    obtain ⟨_, l', e, _⟩ := h
    exact absurd (by rw [← k.1, e]; simp) k.2
  | x :: y :: r, x2 :: y2 :: r2, l, h, k => by
    obtain ⟨h1, l', e, h2⟩ := h
    obtain ⟨k1, l2, e2, k2⟩ := k
    obtain ⟨rfl, rfl⟩ := app_inj h1 k1 (e.symm.trans e2)
    rw [cut_unique b (y :: r) (y2 :: r2) _ h2 k2]
theorem cut_join (b : UInt8) : ∀ (p : List (List UInt8)) (l : List UInt8), CutOf b p l → joinB p b = l ∧ ∀ x ∈ p, b ∉ x
  | [], _, h => absurd h (by simp [CutOf])
  | [x], l, h => ⟨by rw [h.1]; simp [joinB, Lib.join_one], fun y hy => by rw [List.mem_singleton.1 hy]; exact h.2⟩
  | x :: y :: r, l, h => by
    obtain ⟨h1, l', e, h2⟩ := h
    obtain ⟨k1, k2⟩ := cut_join b (y :: r) l' h2
    refine ⟨?_, fun z hz => ?_⟩
    · rw [e, ← k1]
      unfold joinB
      rw [Lib.join_cons, Lib.join_cons]
      simp [Lib.joinTail]
    · rcases List.mem_cons.1 hz with rfl | hz
      · exact h1
      · exact k2 z hz
theorem spS_cut (l : List UInt8) (b : UInt8) : ∀ i, i ≤ l.length → b ∉ (l.drop (spS l b i).2).take (i - (spS l b i).2) ∧ ∀ q, CutOf b q (l.drop (spS l b i).2) → CutOf b ((spS l b i).1 ++ q) l
  | 0, _ => ⟨by simp, fun q h => by simpa [spS] using h⟩
  | i + 1, hi => by
    obtain ⟨h1, h2⟩ := spS_cut l b i (by omega)
    obtain ⟨le1, _⟩ := spS_le l b i
    have hlt : i < l.length := by omega
    by_cases he : l[i]? = some b
    · rw [spS_yes he]
      obtain ⟨p, hp⟩ : ∃ p, (spS l b i).1 = p := ⟨_, rfl⟩
      obtain ⟨f, hf⟩ : ∃ f, (spS l b i).2 = f := ⟨_, rfl⟩
      rw [hf] at h1 h2 le1 ⊢
      rw [hp] at h2 ⊢
      refine ⟨by simp, fun q hq => ?_⟩
      have hs : l.drop f = (l.drop f).take (i - f) ++ b :: l.drop (i + 1) := by
        conv => lhs; rw [← List.take_append_drop (i - f) (l.drop f)]
        congr 1
        rw [List.drop_drop, show f + (i - f) = i by omega, List.drop_eq_getElem_cons hlt]
        have : l[i] = b := by
          rw [List.getElem?_eq_getElem hlt] at he
          exact Option.some.inj he
        rw [this]
      have := h2 ((l.drop f).take (i - f) :: q) (by
        rw [hs]
        have hc := cut_cons h1 hq
        rwa [← hs] at hc ⊢)
      rw [List.append_assoc]
      exact this
    · rw [spS_no he]
      obtain ⟨f, hf⟩ : ∃ f, (spS l b i).2 = f := ⟨_, rfl⟩
      rw [hf] at h1 h2 le1 ⊢
      refine ⟨?_, h2⟩
      have hlt2 : i - f < (l.drop f).length := by rw [List.length_drop]; omega
      rw [show i + 1 - f = i - f + 1 by omega, List.take_succ_eq_append_getElem hlt2, List.mem_append, List.mem_singleton]
      rintro (h | h)
      · exact h1 h
      · rw [List.getElem_drop] at h
        refine he ?_
        rw [List.getElem?_eq_getElem hlt, h]
        simp [show f + (i - f) = i by omega]
theorem splitL_cut (l : List UInt8) (b : UInt8) : CutOf b (splitL l b) l := by
  obtain ⟨h1, h2⟩ := spS_cut l b l.length (Nat.le_refl _)
  obtain ⟨le1, _⟩ := spS_le l b l.length
  unfold splitL
  refine h2 _ ⟨rfl, ?_⟩
  rwa [List.take_of_length_le (by simp)] at h1
theorem splitK_cut (b : UInt8) : ∀ (k : Nat) (l : List UInt8), l.count b = k → CutOf b (Lib.splitK [b] 0 k l) l
  | 0, l, h => ⟨rfl, List.count_eq_zero.1 h⟩
  | k + 1, l, h => by
    unfold Lib.splitK
    rw [Lib.index_one]
    have hm : b ∈ l := List.count_pos_iff.1 (by omega)
    have hn : Lib.indexByte l b ≠ -1 := by
      intro hn
      have hno := Lib.indexByte_none hn
      obtain ⟨i, hi, e⟩ := List.getElem_of_mem hm
      exact hno i (by rw [List.getElem?_eq_getElem hi, e])
    have hge := Lib.indexByte_ge l b
    obtain ⟨o, ho⟩ : ∃ o : Nat, Lib.indexByte l b = o := ⟨(Lib.indexByte l b).toNat, by omega⟩
    obtain ⟨h1, h2⟩ := Lib.indexByte_some ho
    obtain ⟨hol, h1⟩ := List.getElem?_eq_some_iff.1 h1
    rw [if_neg (by simpa using hn), ho]
    have hx : b ∉ l.take o := by
      intro hx
      obtain ⟨i, hi, e⟩ := List.getElem_of_mem hx
      rw [List.length_take] at hi
      rw [List.getElem_take] at e
      exact h2 i (by omega) (by rw [List.getElem?_eq_getElem (by omega), e])
    have hs : l = l.take o ++ b :: l.drop (o + 1) := by
      conv => lhs; rw [← List.take_append_drop o l]
      rw [List.drop_eq_getElem_cons hol, h1]
    have hc : (l.drop (o + 1)).count b = k := by
      have := congrArg (List.count b) hs
      rw [List.count_append, List.count_cons_self, List.count_eq_zero.2 hx] at this
      omega
    have hr := cut_cons hx (splitK_cut b k (l.drop (o + 1)) hc)
    rw [← hs] at hr
    simpa using hr

end Go.Proofs.YtalpgpjhloohfaaDoor.Eng
