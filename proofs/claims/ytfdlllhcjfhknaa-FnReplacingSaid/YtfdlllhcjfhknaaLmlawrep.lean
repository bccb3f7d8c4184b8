/- A deterministic reading of Go code over plain data: what functions of the program compute. No conditions. -/
import Derived.Test.YtfdlllhcjfhknaaLmbase
import Derived.Test.YtfdlllhcjfhknaaLmimpl
import Derived.Test.YtfdlllhcjfhknaaLmgood
import Derived.Test.YtfdlllhcjfhknaaLmfield
import Derived.Test.YtfdlllhcjfhknaaLmnils
import Derived.Test.YtfdlllhcjfhknaaLmnodes
import Derived.Test.YtfdlllhcjfhknaaLmnodep
import Derived.Test.YtfdlllhcjfhknaaLmnodefn
import Derived.Test.YtfdlllhcjfhknaaLmisexpr
import Derived.Test.YtfdlllhcjfhknaaLmnodelaw
import Derived.Test.YtfdlllhcjfhknaaLmput
import Derived.Test.YtfdlllhcjfhknaaLmfused
import Derived.Test.YtfdlllhcjfhknaaLmfuplain
import Derived.Test.YtfdlllhcjfhknaaLmisort
import Derived.Test.YtfdlllhcjfhknaaLmpsort
import Derived.Test.YtfdlllhcjfhknaaLmcompact
import Derived.Test.YtfdlllhcjfhknaaLmfusedi
import Derived.Test.YtfdlllhcjfhknaaLmfuplain2
import Derived.Test.YtfdlllhcjfhknaaLmfuplain3
import Derived.Test.YtfdlllhcjfhknaaLmfubound
import Derived.Test.YtfdlllhcjfhknaaLmfrplain
import Derived.Test.YtfdlllhcjfhknaaLmrepf
import Derived.Test.YtfdlllhcjfhknaaLmdraws
import Derived.Test.YtfdlllhcjfhknaaLmfieldaux
import Derived.Test.YtfdlllhcjfhknaaLmdrawe
import Derived.Test.YtfdlllhcjfhknaaLmdepth
import Derived.Test.YtfdlllhcjfhknaaLmimpdepth
import Derived.Test.YtfdlllhcjfhknaaEngT
namespace Go.Proofs.Ytfdlllhcjfhknaa.Eng
open Go Go.Proofs
set_option maxRecDepth 100000
set_option maxHeartbeats 2000000
set_option linter.unusedSimpArgs false
set_option linter.unusedVariables false
attribute [local simp] finK fin1 hpOf xi renQ isRoot runCode runOps Eng.step wantedV astep val ofO made loadV storeV find V.cells bin binT binA numT numFs eqCells un1 setAt fieldAddrV fieldV indexAddrV indexV bounds sliceV convV lenV foldV max2V min2V callO bor rdsO wrsO seen_none okD_none loops keepIds resV resultsV St.ev TK.agg refs refsL refsO V.one V.isC Value.oneCell' ren renL renO noTag noTagL noTagR noTagO nodup mapO passV frs psi refsR newD loopNext opsAt idx flatAt rootOf backR newsV appendV copyV clearV strV bytesOf nilCmp buildV fillF chunk
attribute [local simp] cT cF cX cWR cOW cK X ints_length ints_get ints_getElem ints_drop ints_take ints_append ints_nil ints_set
attribute [local simp] ints_replicate
attribute [local simp] putV_some putV_none putH_app applyD_nil applyD_cons seen_app gc_ρ gc_H gc_tick st0_ρ st0_H st0_tick retV callRo callV_if borL_nil borL_cons ints_snoc take_self callWr cutH_app findQ afterV exportV_0 exportV_n okD_nil okD_cons sub_seq0 sub_seq1 sub_cond0 sub_cond1 sub_block sub_loop sub_nil young_far young_none hidW_nil mayW_nil pairs okI ok_0 ok_1 ok_2
attribute [local simp] T3 T4 T5 T9 T22 T24 T29 T36 T73 T75 T86 T89 T103 T104 T106 T108 T109 T114 T134 T136 T157 T161 T168
attribute [local simp] young_near clo cloF Region.binds Nat.testBit hidW declW mayW List.findIdx?_cons
theorem c_vNodes (k : Nat) (b c : Bool) (l m : List (Int × Int)) (hl : l.length ≤ 1048576) (hk : l.length + 10 ≤ k) : callK C k 88 [.sq b true 2 (ndL l), .sq c true 2 (ndL m)] [] = some (.c (.bool (decide (l = m))), hpOf [] []) := by
  obtain ⟨k, rfl⟩ : ∃ m, k = m + 3 := ⟨k - 3, by omega⟩
  rw [callK_fn rfl F88 code88]
  by_cases hlm : l = m
  · subst hlm
    have hL := loopHas (body := fun st => runCode C (callK C (k + 2)) (k + 2) (K 88) L88_0 1 st) (keep := [0, 1, 5]) (.ex 0) (fun st => True)
      (fun i st => st.ρ 0 = .sq b true 2 (ndL l) ∧ st.ρ 1 = .sq c true 2 (ndL l) ∧ st.ρ 5 = .c (.int .i64 (i : Int)))
      l.length (k + 2) (by omega)
      (by
        rintro i st next hi ⟨h0, h1, h5⟩ hn
        have nget := ndL_get l i hi
        simp [L88_0, R88_0, R88_1, R88_2, R88_3, R88_4, R88_5, R88_6, R88_7, R88_8, Try.f88, lpL88_0, lpM88_0, M88_0, h0, h1, h5, hi, ndL_length, nget, ndL_at, ndE, wrap_next hi (by omega : l.length ≤ 9000000000000000000)]
        simp only [and_true] at hn
        refine hn _ ⟨?_, ?_, ?_⟩ <;> simp [h0, h1])
      (by
        rintro st next ⟨h0, h1, h5⟩
        simp [L88_0, R88_0, R88_1, R88_2, R88_3, R88_4, R88_5, R88_6, R88_7, R88_8, Try.f88, lpL88_0, lpM88_0, M88_0, h0, h1, h5, ndL_length])
    simp [R88_0, R88_1, R88_2, R88_3, R88_4, R88_5, R88_6, R88_7, R88_8, Try.f88, lpL88_0, lpM88_0, ndL_length]
    generalize hr : loopRun _ _ _ _ = res
    obtain ⟨s1, rfl, _⟩ := loop_at hL hr (by simp)
    simp [R88_0, R88_1, R88_2, R88_3, R88_4, R88_5, R88_6, R88_7, R88_8, Try.f88, lpL88_0, lpM88_0, M88_0]
  · by_cases hll : l.length = m.length
    · have hL := loopHas (body := fun st => runCode C (callK C (k + 2)) (k + 2) (K 88) L88_0 1 st) (keep := [0, 1, 5]) .ret (fun st => st.ρ 4 = .c (.bool false))
        (fun i st => st.ρ 0 = .sq b true 2 (ndL l) ∧ st.ρ 1 = .sq c true 2 (ndL m) ∧ st.ρ 5 = .c (.int .i64 (i : Int)) ∧ l.take i = m.take i)
        l.length (k + 2) (by omega)
        (by
          rintro i st next hi ⟨h0, h1, h5, ht⟩ hn
          have hi' : i < m.length := by omega
          have nget := ndL_get l i hi
          have nget' := ndL_get m i hi'
          by_cases hx : l[i] = m[i]
          · have ht' : l.take (i + 1) = m.take (i + 1) := by rw [List.take_succ_eq_append_getElem hi, List.take_succ_eq_append_getElem hi', ht, hx]
            simp [L88_0, R88_0, R88_1, R88_2, R88_3, R88_4, R88_5, R88_6, R88_7, R88_8, Try.f88, lpL88_0, lpM88_0, M88_0, h0, h1, h5, hi, hi', ndL_length, nget, nget', ndL_at, ndE, hx, wrap_next hi (by omega : l.length ≤ 9000000000000000000)]
            exact hn _ ⟨by simp [h0], by simp [h1], by simp, ht'⟩
          · have hx' : (l[i].1 = m[i].1 → ¬ l[i].2 = m[i].2) := fun e1 e2 => hx (Prod.ext e1 e2)
            have hx3 : ¬ l[i].1 = m[i].1 ∨ ¬ l[i].2 = m[i].2 := by
              by_cases e1 : l[i].1 = m[i].1
              · exact .inr (hx' e1)
              · exact .inl e1
            simp [L88_0, R88_0, R88_1, R88_2, R88_3, R88_4, R88_5, R88_6, R88_7, R88_8, Try.f88, lpL88_0, lpM88_0, M88_0, h0, h1, h5, hi, hi', ndL_length, nget, nget', ndL_at, ndE, hx3, hx'])
        (by
          rintro st next ⟨h0, h1, h5, ht⟩
          rw [List.take_of_length_le (by omega), List.take_of_length_le (by omega)] at ht
          exact absurd ht hlm)
      have hll' : (l.length : Int) = m.length := by omega
      simp [R88_0, R88_1, R88_2, R88_3, R88_4, R88_5, R88_6, R88_7, R88_8, Try.f88, lpL88_0, lpM88_0, ndL_length, hll]
      generalize hr : loopRun _ _ _ _ = res
      obtain ⟨s1, rfl, f4⟩ := loop_at hL hr ⟨by simp, by simp, by simp, by simp⟩
      simp [R88_0, R88_1, R88_2, R88_3, R88_4, R88_5, R88_6, R88_7, R88_8, Try.f88, lpL88_0, lpM88_0, M88_0, f4, hlm]
    · have hll' : ¬ (l.length : Int) = m.length := by omega
      simp [R88_0, R88_1, R88_2, R88_3, R88_4, R88_5, R88_6, R88_7, R88_8, Try.f88, lpL88_0, lpM88_0, M88_0, ndL_length, hlm, hll']
theorem c_vNodesNil (k : Nat) (c : Bool) (hk : 10 ≤ k) : callK C k 88 [.c (.slice none 0 0), .sq c true 2 []] [] = some (.c (.bool true), hpOf [] []) := by
  obtain ⟨k, rfl⟩ : ∃ m, k = m + 3 := ⟨k - 3, by omega⟩
  rw [callK_fn rfl F88 code88]
  simp [R88_0, R88_1, R88_2, R88_3, R88_4, R88_5, R88_6, R88_7, R88_8, Try.f88, lpL88_0, lpM88_0, M88_0, L88_0, loopRun_succ]
theorem c_vHas (k : Nat) (b : Bool) (l : List Int) (x : Int) (hl : l.length ≤ 1048576) (hk : l.length + 10 ≤ k) : callK C k 91 [.sq b true 1 (ints l), .c (.int .i64 x)] [] = some (.c (.bool (decide (x ∈ l))), hpOf [] []) := by
  obtain ⟨k, rfl⟩ : ∃ m, k = m + 3 := ⟨k - 3, by omega⟩
  rw [callK_fn rfl F91 code91]
  by_cases hx : x ∈ l
  · have hL := loopHas (body := fun st => runCode C (callK C (k + 2)) (k + 2) (K 91) L91_0 1 st) (keep := [0, 1, 5]) .ret (fun st => st.ρ 4 = .c (.bool true))
      (fun i st => st.ρ 0 = .sq b true 1 (ints l) ∧ st.ρ 1 = .c (.int .i64 x) ∧ st.ρ 5 = .c (.int .i64 (i : Int)) ∧ x ∉ l.take i)
      l.length (k + 2) (by omega)
      (by
        rintro i st next hi ⟨h0, h1, h5, ht⟩ hn
        by_cases he : l[i] = x
        · simp [L91_0, R91_0, R91_1, R91_2, R91_3, R91_4, R91_5, R91_6, Try.f91, lpL91_0, lpM91_0, M91_0, h0, h1, h5, hi, he]
        · have heb : (l[i] == x) = false := by simpa using he
          simp [L91_0, R91_0, R91_1, R91_2, R91_3, R91_4, R91_5, R91_6, Try.f91, lpL91_0, lpM91_0, M91_0, h0, h1, h5, hi, he, heb, wrap_next hi (by omega : l.length ≤ 9000000000000000000)]
          refine hn _ ⟨by simp [h0], by simp [h1], by simp, ?_⟩
          rw [List.take_succ_eq_append_getElem hi, List.mem_append, List.mem_singleton]
          rintro (h | h)
          · exact ht h
          · exact he h.symm)
      (by
        rintro st next ⟨h0, h1, h5, ht⟩
        rw [List.take_length] at ht
        exact absurd hx ht)
    simp [R91_0, R91_1, R91_2, R91_3, R91_4, R91_5, R91_6, Try.f91, lpL91_0, lpM91_0]
    generalize hr : loopRun _ _ _ _ = res
    obtain ⟨s1, rfl, f4⟩ := loop_at hL hr ⟨by simp, by simp, by simp, by simp⟩
    simp [R91_0, R91_1, R91_2, R91_3, R91_4, R91_5, R91_6, Try.f91, lpL91_0, lpM91_0, M91_0, f4, hx]
  · have hL := loopHas (body := fun st => runCode C (callK C (k + 2)) (k + 2) (K 91) L91_0 1 st) (keep := [0, 1, 5]) (.ex 0) (fun st => True)
      (fun i st => st.ρ 0 = .sq b true 1 (ints l) ∧ st.ρ 1 = .c (.int .i64 x) ∧ st.ρ 5 = .c (.int .i64 (i : Int)))
      l.length (k + 2) (by omega)
      (by
        rintro i st next hi ⟨h0, h1, h5⟩ hn
        have he : ¬ l[i] = x := fun e => hx (e ▸ List.getElem_mem hi)
        have heb : (l[i] == x) = false := by simpa using he
        simp [L91_0, R91_0, R91_1, R91_2, R91_3, R91_4, R91_5, R91_6, Try.f91, lpL91_0, lpM91_0, M91_0, h0, h1, h5, hi, he, heb, wrap_next hi (by omega : l.length ≤ 9000000000000000000)]
        simp only [and_true] at hn
        exact hn _ ⟨by simp [h0], by simp [h1], by simp⟩)
      (by
        rintro st next ⟨h0, h1, h5⟩
        simp [L91_0, R91_0, R91_1, R91_2, R91_3, R91_4, R91_5, R91_6, Try.f91, lpL91_0, lpM91_0, M91_0, h0, h1, h5])
    simp [R91_0, R91_1, R91_2, R91_3, R91_4, R91_5, R91_6, Try.f91, lpL91_0, lpM91_0]
    generalize hr : loopRun _ _ _ _ = res
    obtain ⟨s1, rfl, _⟩ := loop_at hL hr (by simp)
    simp [R91_0, R91_1, R91_2, R91_3, R91_4, R91_5, R91_6, Try.f91, lpL91_0, lpM91_0, M91_0, hx]
theorem c_vHasNil (k : Nat) (x : Int) (hk : 10 ≤ k) : callK C k 91 [.c (.slice none 0 0), .c (.int .i64 x)] [] = some (.c (.bool false), hpOf [] []) := by
  obtain ⟨k, rfl⟩ : ∃ m, k = m + 3 := ⟨k - 3, by omega⟩
  rw [callK_fn rfl F91 code91]
  simp [R91_0, R91_1, R91_2, R91_3, R91_4, R91_5, R91_6, Try.f91, lpL91_0, lpM91_0, M91_0, L91_0, loopRun_succ]
theorem fuU (k : Nat) (b : Bool) (l : List (Int × Int)) (hk : 1000 ≤ k) (hg : goodE l = true) : (callK C k 74 [.sq b true 2 (ndL l)] [] = some (.tp [.c (.slice none 0 0), .c (.bool true)], hpOf [] []) ∧ fuL l = []) ∨ ∃ A : List Int, callK C k 74 [.sq b true 2 (ndL l)] [] = some (.tp [.s 0 2 1 0 (fuL l).length, .c (.bool true)], hpOf [] [intsO A]) ∧ A.take (fuL l).length = fuL l ∧ (fuL l).length ≤ A.length := by
  rcases c_implFU k b l hk hg (us_12 hg) with ⟨I, hu⟩ | ⟨A, hu, I, hT, hA⟩
  · left
    refine ⟨I, ?_⟩
    rw [← fu_same l, hu]; rfl
  · right
    rw [fu_same l] at I hT
    refine ⟨A, I, hT, ?_⟩
    have := congrArg List.length hT
    rw [List.length_take] at this
    omega
theorem fu_short {l : List (Int × Int)} (hg : goodE l = true) : (fuL l).length ≤ 15 := by
  have h := fuL_len l l.length (Nat.le_refl _)
  rw [List.take_length] at h
  have := (good_run hg).1
  omega
def UV (id : Nat) (v : V) (H : Hp) (D : List Int) : Prop := (v = .c (.slice none 0 0) ∧ D = []) ∨ ∃ tk A, v = .s id tk 1 0 D.length ∧ H id = some (tk, intsO A) ∧ A.take D.length = D ∧ D.length ≤ A.length
theorem rp_loop (D1 D2 D3 : List Int) (f : Int) (hD : ∀ x, x ∈ D2 ↔ (x ∈ D1 ∧ x ≠ f) ∨ (f ∈ D1 ∧ x ∈ D3)) (l1 : D1.length ≤ 15) (l2 : D2.length ≤ 15) (l3 : D3.length ≤ 15) (st : St) (h : st.ρ 4 = .c (.int .i64 f) ∧ st.ρ 22 = .c (.int .i64 ((0 : Nat) : Int)) ∧ UV 14368 (st.ρ 14) st.H D1 ∧ UV 15392 (st.ρ 16) st.H D2 ∧ UV 16416 (st.ρ 18) st.H D3) : ∃ s, loopRun (fun st => runCode C (callK C 4999) 4999 (K 11) L11_0 1 st) [4, 14, 16, 18, 22] 4999 st = some (.ex 0, s) ∧ s.ρ 4 = .c (.int .i64 f) := by
  have v1 := fun x => c_vHas 4999 true D1 x (by omega) (by omega)
  have v2 := fun x => c_vHas 4999 true D2 x (by omega) (by omega)
  have v3 := fun x => c_vHas 4999 true D3 x (by omega) (by omega)
  have v0 := fun x => c_vHasNil 4999 x (by omega)
  have hL := loopHas (body := fun st => runCode C (callK C 4999) 4999 (K 11) L11_0 1 st) (keep := [4, 14, 16, 18, 22]) (.ex 0) (fun st => st.ρ 4 = .c (.int .i64 f))
    (fun i st => st.ρ 4 = .c (.int .i64 f) ∧ st.ρ 22 = .c (.int .i64 (i : Int)) ∧ UV 14368 (st.ρ 14) st.H D1 ∧ UV 15392 (st.ρ 16) st.H D2 ∧ UV 16416 (st.ρ 18) st.H D3)
    4 4999 (by omega)
    (by
      rintro i st next hi ⟨q4, q22, u1, u2, u3⟩ hx
      have hwn : IntKind.i64.wrap ((i : Int) + 1) = (i : Int) + 1 := wrap_small (by omega) (by omega)
      have hi4 : (i : Int) < 4 := by omega
      by_cases a : (i : Int) ∈ D1
      · by_cases b : (i : Int) = f
        · have c : f ∈ D1 := b ▸ a
          subst b
          by_cases d : (i : Int) ∈ D3
          · have E : (i : Int) ∈ D2 := (hD _).2 (.inr ⟨c, d⟩)
            rcases u1 with ⟨e1, d1⟩ | ⟨tk1, A1, e1, H1, T1, m1⟩
            · rw [d1] at a; exact absurd a (by simp)
            · simp [intsO] at H1
              rcases u2 with ⟨e2, d2⟩ | ⟨tk2, A2, e2, H2, T2, m2⟩
              · rw [d2] at E; exact absurd E (by simp)
              · simp [intsO] at H2
                rcases u3 with ⟨e3, d3⟩ | ⟨tk3, A3, e3, H3, T3, m3⟩
                · rw [d3] at d; exact absurd d (by simp)
                · simp [intsO] at H3
                  simp [L11_0, R11_0, R11_1, R11_2, R11_3, R11_4, R11_5, R11_6, R11_7, R11_8, R11_9, R11_10, R11_11, R11_12, R11_13, R11_14, R11_15, R11_16, R11_17, R11_18, R11_19, R11_20, R11_21, R11_22, R11_23, R11_24, R11_25, R11_26, Try.f11, lpL11_0, lpM11_0, M11_0, undef, q4, q22, hwn, hi4, a, c, d, E, e1, H1, T1, m1, v1, e2, H2, T2, m2, v2, e3, H3, T3, m3, v3]
                  exact hx _ ⟨by simp [q4], by simp, .inr ⟨tk1, A1, by simp [e1], by simp [intsO, q4, e1, H1, T1, m1, v1, e2, H2, T2, m2, v2, e3, H3, T3, m3, v3], T1, m1⟩, .inr ⟨tk2, A2, by simp [e2], by simp [intsO, q4, e1, H1, T1, m1, v1, e2, H2, T2, m2, v2, e3, H3, T3, m3, v3], T2, m2⟩, .inr ⟨tk3, A3, by simp [e3], by simp [intsO, q4, e1, H1, T1, m1, v1, e2, H2, T2, m2, v2, e3, H3, T3, m3, v3], T3, m3⟩⟩
          · have E : ¬ (i : Int) ∈ D2 := fun h => by
              rcases (hD _).1 h with ⟨x, y⟩ | ⟨x, y⟩
              · exact y rfl
              · exact d y
            rcases u1 with ⟨e1, d1⟩ | ⟨tk1, A1, e1, H1, T1, m1⟩
            · rw [d1] at a; exact absurd a (by simp)
            · simp [intsO] at H1
              rcases u2 with ⟨e2, d2⟩ | ⟨tk2, A2, e2, H2, T2, m2⟩
              · have z2 := v0
                rcases u3 with ⟨e3, d3⟩ | ⟨tk3, A3, e3, H3, T3, m3⟩
                · have z3 := v0
                  simp [L11_0, R11_0, R11_1, R11_2, R11_3, R11_4, R11_5, R11_6, R11_7, R11_8, R11_9, R11_10, R11_11, R11_12, R11_13, R11_14, R11_15, R11_16, R11_17, R11_18, R11_19, R11_20, R11_21, R11_22, R11_23, R11_24, R11_25, R11_26, Try.f11, lpL11_0, lpM11_0, M11_0, undef, q4, q22, hwn, hi4, a, c, d, E, e1, H1, T1, m1, v1, e2, v0, e3, v0]
                  exact hx _ ⟨by simp [q4], by simp, .inr ⟨tk1, A1, by simp [e1], by simp [intsO, q4, e1, H1, T1, m1, v1, e2, v0, e3, v0], T1, m1⟩, .inl ⟨by simp [e2], d2⟩, .inl ⟨by simp [e3], d3⟩⟩
                · simp [intsO] at H3
                  simp [L11_0, R11_0, R11_1, R11_2, R11_3, R11_4, R11_5, R11_6, R11_7, R11_8, R11_9, R11_10, R11_11, R11_12, R11_13, R11_14, R11_15, R11_16, R11_17, R11_18, R11_19, R11_20, R11_21, R11_22, R11_23, R11_24, R11_25, R11_26, Try.f11, lpL11_0, lpM11_0, M11_0, undef, q4, q22, hwn, hi4, a, c, d, E, e1, H1, T1, m1, v1, e2, v0, e3, H3, T3, m3, v3]
                  exact hx _ ⟨by simp [q4], by simp, .inr ⟨tk1, A1, by simp [e1], by simp [intsO, q4, e1, H1, T1, m1, v1, e2, v0, e3, H3, T3, m3, v3], T1, m1⟩, .inl ⟨by simp [e2], d2⟩, .inr ⟨tk3, A3, by simp [e3], by simp [intsO, q4, e1, H1, T1, m1, v1, e2, v0, e3, H3, T3, m3, v3], T3, m3⟩⟩
              · simp [intsO] at H2
                rcases u3 with ⟨e3, d3⟩ | ⟨tk3, A3, e3, H3, T3, m3⟩
                · have z3 := v0
                  simp [L11_0, R11_0, R11_1, R11_2, R11_3, R11_4, R11_5, R11_6, R11_7, R11_8, R11_9, R11_10, R11_11, R11_12, R11_13, R11_14, R11_15, R11_16, R11_17, R11_18, R11_19, R11_20, R11_21, R11_22, R11_23, R11_24, R11_25, R11_26, Try.f11, lpL11_0, lpM11_0, M11_0, undef, q4, q22, hwn, hi4, a, c, d, E, e1, H1, T1, m1, v1, e2, H2, T2, m2, v2, e3, v0]
                  exact hx _ ⟨by simp [q4], by simp, .inr ⟨tk1, A1, by simp [e1], by simp [intsO, q4, e1, H1, T1, m1, v1, e2, H2, T2, m2, v2, e3, v0], T1, m1⟩, .inr ⟨tk2, A2, by simp [e2], by simp [intsO, q4, e1, H1, T1, m1, v1, e2, H2, T2, m2, v2, e3, v0], T2, m2⟩, .inl ⟨by simp [e3], d3⟩⟩
                · simp [intsO] at H3
                  simp [L11_0, R11_0, R11_1, R11_2, R11_3, R11_4, R11_5, R11_6, R11_7, R11_8, R11_9, R11_10, R11_11, R11_12, R11_13, R11_14, R11_15, R11_16, R11_17, R11_18, R11_19, R11_20, R11_21, R11_22, R11_23, R11_24, R11_25, R11_26, Try.f11, lpL11_0, lpM11_0, M11_0, undef, q4, q22, hwn, hi4, a, c, d, E, e1, H1, T1, m1, v1, e2, H2, T2, m2, v2, e3, H3, T3, m3, v3]
                  exact hx _ ⟨by simp [q4], by simp, .inr ⟨tk1, A1, by simp [e1], by simp [intsO, q4, e1, H1, T1, m1, v1, e2, H2, T2, m2, v2, e3, H3, T3, m3, v3], T1, m1⟩, .inr ⟨tk2, A2, by simp [e2], by simp [intsO, q4, e1, H1, T1, m1, v1, e2, H2, T2, m2, v2, e3, H3, T3, m3, v3], T2, m2⟩, .inr ⟨tk3, A3, by simp [e3], by simp [intsO, q4, e1, H1, T1, m1, v1, e2, H2, T2, m2, v2, e3, H3, T3, m3, v3], T3, m3⟩⟩
        · have E : (i : Int) ∈ D2 := (hD _).2 (.inl ⟨a, b⟩)
          have bb : ((i : Int) == f) = false := by simpa using b
          have bn : ((i : Int) != f) = true := by simpa using b
          rcases u1 with ⟨e1, d1⟩ | ⟨tk1, A1, e1, H1, T1, m1⟩
          · rw [d1] at a; exact absurd a (by simp)
          · simp [intsO] at H1
            rcases u2 with ⟨e2, d2⟩ | ⟨tk2, A2, e2, H2, T2, m2⟩
            · rw [d2] at E; exact absurd E (by simp)
            · simp [intsO] at H2
              rcases u3 with ⟨e3, d3⟩ | ⟨tk3, A3, e3, H3, T3, m3⟩
              · have z3 := v0
                simp [L11_0, R11_0, R11_1, R11_2, R11_3, R11_4, R11_5, R11_6, R11_7, R11_8, R11_9, R11_10, R11_11, R11_12, R11_13, R11_14, R11_15, R11_16, R11_17, R11_18, R11_19, R11_20, R11_21, R11_22, R11_23, R11_24, R11_25, R11_26, Try.f11, lpL11_0, lpM11_0, M11_0, undef, q4, q22, hwn, hi4, a, b, bb, bn, bne, E, e1, H1, T1, m1, v1, e2, H2, T2, m2, v2, e3, v0]
                exact hx _ ⟨by simp [q4], by simp, .inr ⟨tk1, A1, by simp [e1], by simp [intsO, q4, e1, H1, T1, m1, v1, e2, H2, T2, m2, v2, e3, v0], T1, m1⟩, .inr ⟨tk2, A2, by simp [e2], by simp [intsO, q4, e1, H1, T1, m1, v1, e2, H2, T2, m2, v2, e3, v0], T2, m2⟩, .inl ⟨by simp [e3], d3⟩⟩
              · simp [intsO] at H3
                simp [L11_0, R11_0, R11_1, R11_2, R11_3, R11_4, R11_5, R11_6, R11_7, R11_8, R11_9, R11_10, R11_11, R11_12, R11_13, R11_14, R11_15, R11_16, R11_17, R11_18, R11_19, R11_20, R11_21, R11_22, R11_23, R11_24, R11_25, R11_26, Try.f11, lpL11_0, lpM11_0, M11_0, undef, q4, q22, hwn, hi4, a, b, bb, bn, bne, E, e1, H1, T1, m1, v1, e2, H2, T2, m2, v2, e3, H3, T3, m3, v3]
                exact hx _ ⟨by simp [q4], by simp, .inr ⟨tk1, A1, by simp [e1], by simp [intsO, q4, e1, H1, T1, m1, v1, e2, H2, T2, m2, v2, e3, H3, T3, m3, v3], T1, m1⟩, .inr ⟨tk2, A2, by simp [e2], by simp [intsO, q4, e1, H1, T1, m1, v1, e2, H2, T2, m2, v2, e3, H3, T3, m3, v3], T2, m2⟩, .inr ⟨tk3, A3, by simp [e3], by simp [intsO, q4, e1, H1, T1, m1, v1, e2, H2, T2, m2, v2, e3, H3, T3, m3, v3], T3, m3⟩⟩
      · by_cases c : f ∈ D1
        · by_cases d : (i : Int) ∈ D3
          · have E : (i : Int) ∈ D2 := (hD _).2 (.inr ⟨c, d⟩)
            rcases u1 with ⟨e1, d1⟩ | ⟨tk1, A1, e1, H1, T1, m1⟩
            · rw [d1] at c; exact absurd c (by simp)
            · simp [intsO] at H1
              rcases u2 with ⟨e2, d2⟩ | ⟨tk2, A2, e2, H2, T2, m2⟩
              · rw [d2] at E; exact absurd E (by simp)
              · simp [intsO] at H2
                rcases u3 with ⟨e3, d3⟩ | ⟨tk3, A3, e3, H3, T3, m3⟩
                · rw [d3] at d; exact absurd d (by simp)
                · simp [intsO] at H3
                  simp [L11_0, R11_0, R11_1, R11_2, R11_3, R11_4, R11_5, R11_6, R11_7, R11_8, R11_9, R11_10, R11_11, R11_12, R11_13, R11_14, R11_15, R11_16, R11_17, R11_18, R11_19, R11_20, R11_21, R11_22, R11_23, R11_24, R11_25, R11_26, Try.f11, lpL11_0, lpM11_0, M11_0, undef, q4, q22, hwn, hi4, a, c, d, E, e1, H1, T1, m1, v1, e2, H2, T2, m2, v2, e3, H3, T3, m3, v3]
                  exact hx _ ⟨by simp [q4], by simp, .inr ⟨tk1, A1, by simp [e1], by simp [intsO, q4, e1, H1, T1, m1, v1, e2, H2, T2, m2, v2, e3, H3, T3, m3, v3], T1, m1⟩, .inr ⟨tk2, A2, by simp [e2], by simp [intsO, q4, e1, H1, T1, m1, v1, e2, H2, T2, m2, v2, e3, H3, T3, m3, v3], T2, m2⟩, .inr ⟨tk3, A3, by simp [e3], by simp [intsO, q4, e1, H1, T1, m1, v1, e2, H2, T2, m2, v2, e3, H3, T3, m3, v3], T3, m3⟩⟩
          · have E : ¬ (i : Int) ∈ D2 := fun h => by
              rcases (hD _).1 h with ⟨x, y⟩ | ⟨x, y⟩
              · exact a x
              · exact d y
            rcases u1 with ⟨e1, d1⟩ | ⟨tk1, A1, e1, H1, T1, m1⟩
            · rw [d1] at c; exact absurd c (by simp)
            · simp [intsO] at H1
              rcases u2 with ⟨e2, d2⟩ | ⟨tk2, A2, e2, H2, T2, m2⟩
              · have z2 := v0
                rcases u3 with ⟨e3, d3⟩ | ⟨tk3, A3, e3, H3, T3, m3⟩
                · have z3 := v0
                  simp [L11_0, R11_0, R11_1, R11_2, R11_3, R11_4, R11_5, R11_6, R11_7, R11_8, R11_9, R11_10, R11_11, R11_12, R11_13, R11_14, R11_15, R11_16, R11_17, R11_18, R11_19, R11_20, R11_21, R11_22, R11_23, R11_24, R11_25, R11_26, Try.f11, lpL11_0, lpM11_0, M11_0, undef, q4, q22, hwn, hi4, a, c, d, E, e1, H1, T1, m1, v1, e2, v0, e3, v0]
                  exact hx _ ⟨by simp [q4], by simp, .inr ⟨tk1, A1, by simp [e1], by simp [intsO, q4, e1, H1, T1, m1, v1, e2, v0, e3, v0], T1, m1⟩, .inl ⟨by simp [e2], d2⟩, .inl ⟨by simp [e3], d3⟩⟩
                · simp [intsO] at H3
                  simp [L11_0, R11_0, R11_1, R11_2, R11_3, R11_4, R11_5, R11_6, R11_7, R11_8, R11_9, R11_10, R11_11, R11_12, R11_13, R11_14, R11_15, R11_16, R11_17, R11_18, R11_19, R11_20, R11_21, R11_22, R11_23, R11_24, R11_25, R11_26, Try.f11, lpL11_0, lpM11_0, M11_0, undef, q4, q22, hwn, hi4, a, c, d, E, e1, H1, T1, m1, v1, e2, v0, e3, H3, T3, m3, v3]
                  exact hx _ ⟨by simp [q4], by simp, .inr ⟨tk1, A1, by simp [e1], by simp [intsO, q4, e1, H1, T1, m1, v1, e2, v0, e3, H3, T3, m3, v3], T1, m1⟩, .inl ⟨by simp [e2], d2⟩, .inr ⟨tk3, A3, by simp [e3], by simp [intsO, q4, e1, H1, T1, m1, v1, e2, v0, e3, H3, T3, m3, v3], T3, m3⟩⟩
              · simp [intsO] at H2
                rcases u3 with ⟨e3, d3⟩ | ⟨tk3, A3, e3, H3, T3, m3⟩
                · have z3 := v0
                  simp [L11_0, R11_0, R11_1, R11_2, R11_3, R11_4, R11_5, R11_6, R11_7, R11_8, R11_9, R11_10, R11_11, R11_12, R11_13, R11_14, R11_15, R11_16, R11_17, R11_18, R11_19, R11_20, R11_21, R11_22, R11_23, R11_24, R11_25, R11_26, Try.f11, lpL11_0, lpM11_0, M11_0, undef, q4, q22, hwn, hi4, a, c, d, E, e1, H1, T1, m1, v1, e2, H2, T2, m2, v2, e3, v0]
                  exact hx _ ⟨by simp [q4], by simp, .inr ⟨tk1, A1, by simp [e1], by simp [intsO, q4, e1, H1, T1, m1, v1, e2, H2, T2, m2, v2, e3, v0], T1, m1⟩, .inr ⟨tk2, A2, by simp [e2], by simp [intsO, q4, e1, H1, T1, m1, v1, e2, H2, T2, m2, v2, e3, v0], T2, m2⟩, .inl ⟨by simp [e3], d3⟩⟩
                · simp [intsO] at H3
                  simp [L11_0, R11_0, R11_1, R11_2, R11_3, R11_4, R11_5, R11_6, R11_7, R11_8, R11_9, R11_10, R11_11, R11_12, R11_13, R11_14, R11_15, R11_16, R11_17, R11_18, R11_19, R11_20, R11_21, R11_22, R11_23, R11_24, R11_25, R11_26, Try.f11, lpL11_0, lpM11_0, M11_0, undef, q4, q22, hwn, hi4, a, c, d, E, e1, H1, T1, m1, v1, e2, H2, T2, m2, v2, e3, H3, T3, m3, v3]
                  exact hx _ ⟨by simp [q4], by simp, .inr ⟨tk1, A1, by simp [e1], by simp [intsO, q4, e1, H1, T1, m1, v1, e2, H2, T2, m2, v2, e3, H3, T3, m3, v3], T1, m1⟩, .inr ⟨tk2, A2, by simp [e2], by simp [intsO, q4, e1, H1, T1, m1, v1, e2, H2, T2, m2, v2, e3, H3, T3, m3, v3], T2, m2⟩, .inr ⟨tk3, A3, by simp [e3], by simp [intsO, q4, e1, H1, T1, m1, v1, e2, H2, T2, m2, v2, e3, H3, T3, m3, v3], T3, m3⟩⟩
        · have E : ¬ (i : Int) ∈ D2 := fun h => by
            rcases (hD _).1 h with ⟨x, y⟩ | ⟨x, y⟩
            · exact a x
            · exact c x
          rcases u1 with ⟨e1, d1⟩ | ⟨tk1, A1, e1, H1, T1, m1⟩
          · have z1 := v0
            rcases u2 with ⟨e2, d2⟩ | ⟨tk2, A2, e2, H2, T2, m2⟩
            · have z2 := v0
              rcases u3 with ⟨e3, d3⟩ | ⟨tk3, A3, e3, H3, T3, m3⟩
              · have z3 := v0
                simp [L11_0, R11_0, R11_1, R11_2, R11_3, R11_4, R11_5, R11_6, R11_7, R11_8, R11_9, R11_10, R11_11, R11_12, R11_13, R11_14, R11_15, R11_16, R11_17, R11_18, R11_19, R11_20, R11_21, R11_22, R11_23, R11_24, R11_25, R11_26, Try.f11, lpL11_0, lpM11_0, M11_0, undef, q4, q22, hwn, hi4, a, c, E, e1, v0, e2, v0, e3, v0]
                exact hx _ ⟨by simp [q4], by simp, .inl ⟨by simp [e1], d1⟩, .inl ⟨by simp [e2], d2⟩, .inl ⟨by simp [e3], d3⟩⟩
              · simp [intsO] at H3
                simp [L11_0, R11_0, R11_1, R11_2, R11_3, R11_4, R11_5, R11_6, R11_7, R11_8, R11_9, R11_10, R11_11, R11_12, R11_13, R11_14, R11_15, R11_16, R11_17, R11_18, R11_19, R11_20, R11_21, R11_22, R11_23, R11_24, R11_25, R11_26, Try.f11, lpL11_0, lpM11_0, M11_0, undef, q4, q22, hwn, hi4, a, c, E, e1, v0, e2, v0, e3, H3, T3, m3, v3]
                exact hx _ ⟨by simp [q4], by simp, .inl ⟨by simp [e1], d1⟩, .inl ⟨by simp [e2], d2⟩, .inr ⟨tk3, A3, by simp [e3], by simp [intsO, q4, e1, v0, e2, v0, e3, H3, T3, m3, v3], T3, m3⟩⟩
            · simp [intsO] at H2
              rcases u3 with ⟨e3, d3⟩ | ⟨tk3, A3, e3, H3, T3, m3⟩
              · have z3 := v0
                simp [L11_0, R11_0, R11_1, R11_2, R11_3, R11_4, R11_5, R11_6, R11_7, R11_8, R11_9, R11_10, R11_11, R11_12, R11_13, R11_14, R11_15, R11_16, R11_17, R11_18, R11_19, R11_20, R11_21, R11_22, R11_23, R11_24, R11_25, R11_26, Try.f11, lpL11_0, lpM11_0, M11_0, undef, q4, q22, hwn, hi4, a, c, E, e1, v0, e2, H2, T2, m2, v2, e3, v0]
                exact hx _ ⟨by simp [q4], by simp, .inl ⟨by simp [e1], d1⟩, .inr ⟨tk2, A2, by simp [e2], by simp [intsO, q4, e1, v0, e2, H2, T2, m2, v2, e3, v0], T2, m2⟩, .inl ⟨by simp [e3], d3⟩⟩
              · simp [intsO] at H3
                simp [L11_0, R11_0, R11_1, R11_2, R11_3, R11_4, R11_5, R11_6, R11_7, R11_8, R11_9, R11_10, R11_11, R11_12, R11_13, R11_14, R11_15, R11_16, R11_17, R11_18, R11_19, R11_20, R11_21, R11_22, R11_23, R11_24, R11_25, R11_26, Try.f11, lpL11_0, lpM11_0, M11_0, undef, q4, q22, hwn, hi4, a, c, E, e1, v0, e2, H2, T2, m2, v2, e3, H3, T3, m3, v3]
                exact hx _ ⟨by simp [q4], by simp, .inl ⟨by simp [e1], d1⟩, .inr ⟨tk2, A2, by simp [e2], by simp [intsO, q4, e1, v0, e2, H2, T2, m2, v2, e3, H3, T3, m3, v3], T2, m2⟩, .inr ⟨tk3, A3, by simp [e3], by simp [intsO, q4, e1, v0, e2, H2, T2, m2, v2, e3, H3, T3, m3, v3], T3, m3⟩⟩
          · simp [intsO] at H1
            rcases u2 with ⟨e2, d2⟩ | ⟨tk2, A2, e2, H2, T2, m2⟩
            · have z2 := v0
              rcases u3 with ⟨e3, d3⟩ | ⟨tk3, A3, e3, H3, T3, m3⟩
              · have z3 := v0
                simp [L11_0, R11_0, R11_1, R11_2, R11_3, R11_4, R11_5, R11_6, R11_7, R11_8, R11_9, R11_10, R11_11, R11_12, R11_13, R11_14, R11_15, R11_16, R11_17, R11_18, R11_19, R11_20, R11_21, R11_22, R11_23, R11_24, R11_25, R11_26, Try.f11, lpL11_0, lpM11_0, M11_0, undef, q4, q22, hwn, hi4, a, c, E, e1, H1, T1, m1, v1, e2, v0, e3, v0]
                exact hx _ ⟨by simp [q4], by simp, .inr ⟨tk1, A1, by simp [e1], by simp [intsO, q4, e1, H1, T1, m1, v1, e2, v0, e3, v0], T1, m1⟩, .inl ⟨by simp [e2], d2⟩, .inl ⟨by simp [e3], d3⟩⟩
              · simp [intsO] at H3
                simp [L11_0, R11_0, R11_1, R11_2, R11_3, R11_4, R11_5, R11_6, R11_7, R11_8, R11_9, R11_10, R11_11, R11_12, R11_13, R11_14, R11_15, R11_16, R11_17, R11_18, R11_19, R11_20, R11_21, R11_22, R11_23, R11_24, R11_25, R11_26, Try.f11, lpL11_0, lpM11_0, M11_0, undef, q4, q22, hwn, hi4, a, c, E, e1, H1, T1, m1, v1, e2, v0, e3, H3, T3, m3, v3]
                exact hx _ ⟨by simp [q4], by simp, .inr ⟨tk1, A1, by simp [e1], by simp [intsO, q4, e1, H1, T1, m1, v1, e2, v0, e3, H3, T3, m3, v3], T1, m1⟩, .inl ⟨by simp [e2], d2⟩, .inr ⟨tk3, A3, by simp [e3], by simp [intsO, q4, e1, H1, T1, m1, v1, e2, v0, e3, H3, T3, m3, v3], T3, m3⟩⟩
            · simp [intsO] at H2
              rcases u3 with ⟨e3, d3⟩ | ⟨tk3, A3, e3, H3, T3, m3⟩
              · have z3 := v0
                simp [L11_0, R11_0, R11_1, R11_2, R11_3, R11_4, R11_5, R11_6, R11_7, R11_8, R11_9, R11_10, R11_11, R11_12, R11_13, R11_14, R11_15, R11_16, R11_17, R11_18, R11_19, R11_20, R11_21, R11_22, R11_23, R11_24, R11_25, R11_26, Try.f11, lpL11_0, lpM11_0, M11_0, undef, q4, q22, hwn, hi4, a, c, E, e1, H1, T1, m1, v1, e2, H2, T2, m2, v2, e3, v0]
                exact hx _ ⟨by simp [q4], by simp, .inr ⟨tk1, A1, by simp [e1], by simp [intsO, q4, e1, H1, T1, m1, v1, e2, H2, T2, m2, v2, e3, v0], T1, m1⟩, .inr ⟨tk2, A2, by simp [e2], by simp [intsO, q4, e1, H1, T1, m1, v1, e2, H2, T2, m2, v2, e3, v0], T2, m2⟩, .inl ⟨by simp [e3], d3⟩⟩
              · simp [intsO] at H3
                simp [L11_0, R11_0, R11_1, R11_2, R11_3, R11_4, R11_5, R11_6, R11_7, R11_8, R11_9, R11_10, R11_11, R11_12, R11_13, R11_14, R11_15, R11_16, R11_17, R11_18, R11_19, R11_20, R11_21, R11_22, R11_23, R11_24, R11_25, R11_26, Try.f11, lpL11_0, lpM11_0, M11_0, undef, q4, q22, hwn, hi4, a, c, E, e1, H1, T1, m1, v1, e2, H2, T2, m2, v2, e3, H3, T3, m3, v3]
                exact hx _ ⟨by simp [q4], by simp, .inr ⟨tk1, A1, by simp [e1], by simp [intsO, q4, e1, H1, T1, m1, v1, e2, H2, T2, m2, v2, e3, H3, T3, m3, v3], T1, m1⟩, .inr ⟨tk2, A2, by simp [e2], by simp [intsO, q4, e1, H1, T1, m1, v1, e2, H2, T2, m2, v2, e3, H3, T3, m3, v3], T2, m2⟩, .inr ⟨tk3, A3, by simp [e3], by simp [intsO, q4, e1, H1, T1, m1, v1, e2, H2, T2, m2, v2, e3, H3, T3, m3, v3], T3, m3⟩⟩)
    (by
      rintro st next ⟨q4, q22, u1, u2, u3⟩
      simp [L11_0, R11_0, R11_1, R11_2, R11_3, R11_4, R11_5, R11_6, R11_7, R11_8, R11_9, R11_10, R11_11, R11_12, R11_13, R11_14, R11_15, R11_16, R11_17, R11_18, R11_19, R11_20, R11_21, R11_22, R11_23, R11_24, R11_25, R11_26, Try.f11, lpL11_0, lpM11_0, M11_0, undef, q4, q22])
  exact hL st h
theorem c_implRepN (k : Nat) (b b2 : Bool) (l m : List (Int × Int)) (f : Int) (h : ¬ (goodE l = true ∧ goodE m = true ∧ 0 ≤ f ∧ f ≤ 3)) (hk : 300 ≤ k) : callK C k 86 [.sq b true 2 (ndL l), .c (.int .i64 f), .sq b2 true 2 (ndL m)] [] = some (.tp [.c (.slice none 0 0), .c (.bool false)], hpOf [] []) := by
  obtain ⟨k, rfl⟩ : ∃ m, k = m + 9 := ⟨k - 9, by omega⟩
  rw [callK_fn rfl F86 code86]
  have g1 := c_IsExpression (k + 8) b l (by omega)
  have g2 := c_IsExpression (k + 8) b2 m (by omega)
  have w := c_within (k + 8) f 0 3 (by omega)
  by_cases h1 : goodE l = true
  · rw [h1] at g1
    by_cases h3 : 0 ≤ f
    · by_cases h4 : f ≤ 3
      · have h2 : goodE m = false := by
          cases hm : goodE m
          · rfl
          · exact absurd ⟨h1, hm, h3, h4⟩ h
        rw [h2] at g2
        simp [R86_0, R86_1, R86_2, R86_3, R86_4, R86_5, R86_6, R86_7, R86_8, R86_9, R86_10, R86_11, R86_12, R86_13, Try.f86, lpL86_0, lpM86_0, M86_0, g1, g2, w, h3, h4]
      · simp [R86_0, R86_1, R86_2, R86_3, R86_4, R86_5, R86_6, R86_7, R86_8, R86_9, R86_10, R86_11, R86_12, R86_13, Try.f86, lpL86_0, lpM86_0, M86_0, undef, g1, g2, w, h3, h4]
    · simp [R86_0, R86_1, R86_2, R86_3, R86_4, R86_5, R86_6, R86_7, R86_8, R86_9, R86_10, R86_11, R86_12, R86_13, Try.f86, lpL86_0, lpM86_0, M86_0, undef, g1, g2, w, h3]
  · have h1 : goodE l = false := by simpa using h1
    rw [h1] at g1
    simp [R86_0, R86_1, R86_2, R86_3, R86_4, R86_5, R86_6, R86_7, R86_8, R86_9, R86_10, R86_11, R86_12, R86_13, Try.f86, lpL86_0, lpM86_0, M86_0, undef, g1]
theorem c_specRepN (k : Nat) (b b2 : Bool) (l m : List (Int × Int)) (f : Int) (h : ¬ (goodE l = true ∧ goodE m = true ∧ 0 ≤ f ∧ f ≤ 3)) (hk : 300 ≤ k) : callK C k 87 [.sq b true 2 (ndL l), .c (.int .i64 f), .sq b2 true 2 (ndL m)] [] = some (.tp [.s 0 2 2 0 0, .c (.bool false)], hpOf [] [ndO []]) := by
  obtain ⟨k, rfl⟩ : ∃ m, k = m + 9 := ⟨k - 9, by omega⟩
  rw [callK_fn rfl F87 code87]
  have g1 := c_l5Good (k + 8) b l (by omega)
  have g2 := c_l5Good (k + 8) b2 m (by omega)
  have w := c_l1In (k + 8) f 0 3 (by omega)
  have hz : ndL [] = [] := rfl
  by_cases h1 : goodE l = true
  · rw [h1] at g1
    by_cases h2 : goodE m = true
    · rw [h2] at g2
      by_cases h3 : 0 ≤ f
      · have h4 : ¬ f ≤ 3 := fun h4 => h ⟨h1, h2, h3, h4⟩
        simp [R87_0, R87_1, R87_2, R87_3, R87_4, R87_5, R87_6, R87_7, R87_8, R87_9, R87_10, R87_11, R87_12, Try.f87, lpL87_0, lpM87_0, M87_0, undef, g1, g2, w, h3, h4, ndO, hz]
      · simp [R87_0, R87_1, R87_2, R87_3, R87_4, R87_5, R87_6, R87_7, R87_8, R87_9, R87_10, R87_11, R87_12, Try.f87, lpL87_0, lpM87_0, M87_0, undef, g1, g2, w, h3, ndO, hz]
    · have h2 : goodE m = false := by simpa using h2
      rw [h2] at g2
      simp [R87_0, R87_1, R87_2, R87_3, R87_4, R87_5, R87_6, R87_7, R87_8, R87_9, R87_10, R87_11, R87_12, Try.f87, lpL87_0, lpM87_0, M87_0, undef, g1, g2, ndO, hz]
  · have h1 : goodE l = false := by simpa using h1
    rw [h1] at g1
    simp [R87_0, R87_1, R87_2, R87_3, R87_4, R87_5, R87_6, R87_7, R87_8, R87_9, R87_10, R87_11, R87_12, Try.f87, lpL87_0, lpM87_0, M87_0, undef, g1, ndO, hz]
noncomputable def tcR : Code := (.seq (.region 14 R11_14 false) (.seq (.region 15 R11_15 false) (.seq (.region 16 R11_16 false) (.seq (.region 17 R11_17 false) (.seq (.seq (.region 18 R11_18 false) (.cond (.tmp 116) (.seq (.region 19 R11_19 false) .ret) .skip)) (.seq (.seq (.region 20 R11_20 false) (.block 0 (.loop L11_0))) M11_0))))))
theorem tcR_is : (.seq (.region 14 R11_14 false) (.seq (.region 15 R11_15 false) (.seq (.region 16 R11_16 false) (.seq (.region 17 R11_17 false) (.seq (.seq (.region 18 R11_18 false) (.cond (.tmp 116) (.seq (.region 19 R11_19 false) .ret) .skip)) (.seq (.seq (.region 20 R11_20 false) (.block 0 (.loop L11_0))) M11_0)))))) = tcR := rfl
theorem tcR_ok (l m : List (Int × Int)) (f : Int) (hl : goodE l = true) (hm : goodE m = true) (hf : 0 ≤ f ∧ f ≤ 3) (h15 : (rpL f m l).length ≤ 15) (k3 k6 : Nat) : ∀ st : St, (st.ρ 3 = .s 3104 k3 2 0 l.length ∧ st.ρ 4 = .c (.int .i64 f) ∧ st.ρ 5 = .s 3105 k3 2 0 m.length ∧ st.ρ 6 = .s 4160 k6 2 0 (rpL f m l).length ∧ st.ρ 10 = .c (.int .i64 (depthI l)) ∧ st.H 3104 = some (k3, ndO l) ∧ st.H 3105 = some (k3, ndO m) ∧ st.H 4160 = some (k6, ndO (rpL f m l))) → ∃ s, runCode C (callK C 4999) 4999 (K 11) tcR 0 st = some (.ret, s) ∧ s.ρ 2 = .c (.bool true) := by
  rintro st ⟨q3, q4, q5, q6, q10, H3, H5, H6⟩
  obtain ⟨gA, dA⟩ := rp_good f hf hl hm
  have dA := dA h15
  have gA : goodE (rpL f m l) = true := by rw [gA]; simp [h15]
  have hD := rp_used f l m
  have L1 := fu_short hl
  have L2 := fu_short gA
  have L3 := fu_short hm
  obtain ⟨A, hA⟩ : ∃ A, rpL f m l = A := ⟨_, rfl⟩
  rw [hA] at q6 H6 dA gA hD L2 h15
  have U1 := fuU 4999 true l (by omega) hl
  have U2 := fuU 4999 true A (by omega) gA
  have U3 := fuU 4999 true m (by omega) hm
  have Dp := c_impDepth 4999 true A (by omega)
  rw [gA] at Dp
  have nd : ¬ depthI A < depthI l := by omega
  have rl := rp_loop (fuL l) (fuL A) (fuL m) f hD L1 L2 L3
  obtain ⟨D1, hD1⟩ : ∃ D, fuL l = D := ⟨_, rfl⟩
  obtain ⟨D2, hD2⟩ : ∃ D, fuL A = D := ⟨_, rfl⟩
  obtain ⟨D3, hD3⟩ : ∃ D, fuL m = D := ⟨_, rfl⟩
  rw [hD1] at U1 rl
  rw [hD2] at U2 rl
  rw [hD3] at U3 rl
  simp [ndO] at H3 H5 H6
  unfold tcR
  rcases U1 with ⟨c1, d1⟩ | ⟨A1, c1, t1, m1⟩
  · have e1 := d1
    rcases U2 with ⟨c2, d2⟩ | ⟨A2, c2, t2, m2⟩
    · have e2 := d2
      rcases U3 with ⟨c3, d3⟩ | ⟨A3, c3, t3, m3⟩
      · have e3 := d3
        simp [R11_0, R11_1, R11_2, R11_3, R11_4, R11_5, R11_6, R11_7, R11_8, R11_9, R11_10, R11_11, R11_12, R11_13, R11_14, R11_15, R11_16, R11_17, R11_18, R11_19, R11_20, R11_21, R11_22, R11_23, R11_24, R11_25, R11_26, Try.f11, lpL11_0, lpM11_0, M11_0, undef, q3, q4, q5, q6, q10, H3, H5, H6, ndL_length, ndL_take, c1, c2, c3, Dp, nd]
        generalize hr : loopRun _ _ _ _ = res
        obtain ⟨s1, rfl, f4⟩ := loop_at rl hr ⟨by simp [q4], by simp, .inl ⟨by simp, d1⟩, .inl ⟨by simp, d2⟩, .inl ⟨by simp, d3⟩⟩
        simp [f4]
      · have e3 := t3
        simp [intsO] at c3
        simp [R11_0, R11_1, R11_2, R11_3, R11_4, R11_5, R11_6, R11_7, R11_8, R11_9, R11_10, R11_11, R11_12, R11_13, R11_14, R11_15, R11_16, R11_17, R11_18, R11_19, R11_20, R11_21, R11_22, R11_23, R11_24, R11_25, R11_26, Try.f11, lpL11_0, lpM11_0, M11_0, undef, q3, q4, q5, q6, q10, H3, H5, H6, ndL_length, ndL_take, c1, c2, c3, Dp, nd]
        generalize hr : loopRun _ _ _ _ = res
        obtain ⟨s1, rfl, f4⟩ := loop_at rl hr ⟨by simp [q4], by simp, .inl ⟨by simp, d1⟩, .inl ⟨by simp, d2⟩, .inr ⟨_, A3, by simp; rfl, by simp [intsO], t3, m3⟩⟩
        simp [f4]
    · have e2 := t2
      rcases U3 with ⟨c3, d3⟩ | ⟨A3, c3, t3, m3⟩
      · have e3 := d3
        simp [intsO] at c2
        simp [R11_0, R11_1, R11_2, R11_3, R11_4, R11_5, R11_6, R11_7, R11_8, R11_9, R11_10, R11_11, R11_12, R11_13, R11_14, R11_15, R11_16, R11_17, R11_18, R11_19, R11_20, R11_21, R11_22, R11_23, R11_24, R11_25, R11_26, Try.f11, lpL11_0, lpM11_0, M11_0, undef, q3, q4, q5, q6, q10, H3, H5, H6, ndL_length, ndL_take, c1, c2, c3, Dp, nd]
        generalize hr : loopRun _ _ _ _ = res
        obtain ⟨s1, rfl, f4⟩ := loop_at rl hr ⟨by simp [q4], by simp, .inl ⟨by simp, d1⟩, .inr ⟨_, A2, by simp; rfl, by simp [intsO], t2, m2⟩, .inl ⟨by simp, d3⟩⟩
        simp [f4]
      · have e3 := t3
        simp [intsO] at c2 c3
        simp [R11_0, R11_1, R11_2, R11_3, R11_4, R11_5, R11_6, R11_7, R11_8, R11_9, R11_10, R11_11, R11_12, R11_13, R11_14, R11_15, R11_16, R11_17, R11_18, R11_19, R11_20, R11_21, R11_22, R11_23, R11_24, R11_25, R11_26, Try.f11, lpL11_0, lpM11_0, M11_0, undef, q3, q4, q5, q6, q10, H3, H5, H6, ndL_length, ndL_take, c1, c2, c3, Dp, nd]
        generalize hr : loopRun _ _ _ _ = res
        obtain ⟨s1, rfl, f4⟩ := loop_at rl hr ⟨by simp [q4], by simp, .inl ⟨by simp, d1⟩, .inr ⟨_, A2, by simp; rfl, by simp [intsO], t2, m2⟩, .inr ⟨_, A3, by simp; rfl, by simp [intsO], t3, m3⟩⟩
        simp [f4]
  · have e1 := t1
    rcases U2 with ⟨c2, d2⟩ | ⟨A2, c2, t2, m2⟩
    · have e2 := d2
      rcases U3 with ⟨c3, d3⟩ | ⟨A3, c3, t3, m3⟩
      · have e3 := d3
        simp [intsO] at c1
        simp [R11_0, R11_1, R11_2, R11_3, R11_4, R11_5, R11_6, R11_7, R11_8, R11_9, R11_10, R11_11, R11_12, R11_13, R11_14, R11_15, R11_16, R11_17, R11_18, R11_19, R11_20, R11_21, R11_22, R11_23, R11_24, R11_25, R11_26, Try.f11, lpL11_0, lpM11_0, M11_0, undef, q3, q4, q5, q6, q10, H3, H5, H6, ndL_length, ndL_take, c1, c2, c3, Dp, nd]
        generalize hr : loopRun _ _ _ _ = res
        obtain ⟨s1, rfl, f4⟩ := loop_at rl hr ⟨by simp [q4], by simp, .inr ⟨_, A1, by simp; rfl, by simp [intsO], t1, m1⟩, .inl ⟨by simp, d2⟩, .inl ⟨by simp, d3⟩⟩
        simp [f4]
      · have e3 := t3
        simp [intsO] at c1 c3
        simp [R11_0, R11_1, R11_2, R11_3, R11_4, R11_5, R11_6, R11_7, R11_8, R11_9, R11_10, R11_11, R11_12, R11_13, R11_14, R11_15, R11_16, R11_17, R11_18, R11_19, R11_20, R11_21, R11_22, R11_23, R11_24, R11_25, R11_26, Try.f11, lpL11_0, lpM11_0, M11_0, undef, q3, q4, q5, q6, q10, H3, H5, H6, ndL_length, ndL_take, c1, c2, c3, Dp, nd]
        generalize hr : loopRun _ _ _ _ = res
        obtain ⟨s1, rfl, f4⟩ := loop_at rl hr ⟨by simp [q4], by simp, .inr ⟨_, A1, by simp; rfl, by simp [intsO], t1, m1⟩, .inl ⟨by simp, d2⟩, .inr ⟨_, A3, by simp; rfl, by simp [intsO], t3, m3⟩⟩
        simp [f4]
    · have e2 := t2
      rcases U3 with ⟨c3, d3⟩ | ⟨A3, c3, t3, m3⟩
      · have e3 := d3
        simp [intsO] at c1 c2
        simp [R11_0, R11_1, R11_2, R11_3, R11_4, R11_5, R11_6, R11_7, R11_8, R11_9, R11_10, R11_11, R11_12, R11_13, R11_14, R11_15, R11_16, R11_17, R11_18, R11_19, R11_20, R11_21, R11_22, R11_23, R11_24, R11_25, R11_26, Try.f11, lpL11_0, lpM11_0, M11_0, undef, q3, q4, q5, q6, q10, H3, H5, H6, ndL_length, ndL_take, c1, c2, c3, Dp, nd]
        generalize hr : loopRun _ _ _ _ = res
        obtain ⟨s1, rfl, f4⟩ := loop_at rl hr ⟨by simp [q4], by simp, .inr ⟨_, A1, by simp; rfl, by simp [intsO], t1, m1⟩, .inr ⟨_, A2, by simp; rfl, by simp [intsO], t2, m2⟩, .inl ⟨by simp, d3⟩⟩
        simp [f4]
      · have e3 := t3
        simp [intsO] at c1 c2 c3
        simp [R11_0, R11_1, R11_2, R11_3, R11_4, R11_5, R11_6, R11_7, R11_8, R11_9, R11_10, R11_11, R11_12, R11_13, R11_14, R11_15, R11_16, R11_17, R11_18, R11_19, R11_20, R11_21, R11_22, R11_23, R11_24, R11_25, R11_26, Try.f11, lpL11_0, lpM11_0, M11_0, undef, q3, q4, q5, q6, q10, H3, H5, H6, ndL_length, ndL_take, c1, c2, c3, Dp, nd]
        generalize hr : loopRun _ _ _ _ = res
        obtain ⟨s1, rfl, f4⟩ := loop_at rl hr ⟨by simp [q4], by simp, .inr ⟨_, A1, by simp; rfl, by simp [intsO], t1, m1⟩, .inr ⟨_, A2, by simp; rfl, by simp [intsO], t2, m2⟩, .inr ⟨_, A3, by simp; rfl, by simp [intsO], t3, m3⟩⟩
        simp [f4]
theorem law_FnReplacing (code : List Int) (hl : code.length ≤ maxLen) (hb : ∀ x ∈ code, (Lit.int .u8 x).wf = true) : ∃ k, callK C k 11 [.sq false true 1 (u8s code)] [] = some (.c (.bool true), hpOf [] []) := by
  have hb' : ∀ x ∈ code, 0 ≤ x ∧ x ≤ 255 := fun x hx => by
    have := hb x hx
    simpa [Lit.wf, IntKind.min, IntKind.max, IntKind.signed, IntKind.bits] using this
  refine ⟨5000, ?_⟩
  rw [callK_fn (k := 4999) rfl F11 code11]
  rw [tcR_is]
  have v0 := c_vBig 4999 code (by omega)
  by_cases h16 : 65536 < code.length
  · simp [h16] at v0
    simp [R11_0, R11_1, R11_2, R11_3, R11_4, R11_5, R11_6, R11_7, R11_8, R11_9, R11_10, R11_11, R11_12, R11_13, R11_14, R11_15, R11_16, R11_17, R11_18, R11_19, R11_20, R11_21, R11_22, R11_23, R11_24, R11_25, R11_26, Try.f11, lpL11_0, lpM11_0, M11_0, v0]
  simp [h16] at v0
  obtain ⟨l, f, m, D, l41, m41⟩ := c_DrawReplaceField 4999 code hb' hl (by omega)
  have Di := c_impDepth 4999 true l (by omega)
  have Ds := c_specDepth 4999 true l (by omega)
  have hz : ndL [] = [] := rfl
  have vN := c_vNodesNil 4999 true (by omega)
  by_cases hg : goodE l = true ∧ goodE m = true ∧ 0 ≤ f ∧ f ≤ 3
  · obtain ⟨h1, h2, h3⟩ := hg
    have I := c_implRep 4999 true true l m f h1 h2 h3 (by omega)
    have S := c_specRep 4999 true true l m f h1 h2 h3 (by omega)
    obtain ⟨gA, _⟩ := rp_good f h3 h1 h2
    rw [gA] at S
    by_cases h15 : (rpL f m l).length ≤ 15
    · rw [if_pos h15] at I
      rw [if_pos (by simp [h15])] at S
      have V := c_vNodes 4999 true true (rpL f m l) (rpL f m l) (by omega) (by omega)
      have tk := tcR_ok l m f h1 h2 h3 h15
      obtain ⟨A, hA⟩ : ∃ A, rpL f m l = A := ⟨_, rfl⟩
      rw [hA] at I S V tk
      simp [ndO] at D I S
      simp at V
      simp [R11_0, R11_1, R11_2, R11_3, R11_4, R11_5, R11_6, R11_7, R11_8, R11_9, R11_10, R11_11, R11_12, R11_13, R11_14, R11_15, R11_16, R11_17, R11_18, R11_19, R11_20, R11_21, R11_22, R11_23, R11_24, R11_25, R11_26, Try.f11, lpL11_0, lpM11_0, M11_0, undef, v0, D, I, S, V, Di, Ds, ndL_length, ndL_take]
      generalize hr : runCode _ _ _ _ tcR _ _ = res
      obtain ⟨s1, rfl, f2⟩ := loop_at (tk _ _) hr ⟨by simp; rfl, by simp, by simp, by simp; rfl, by simp, by simp [ndO], by simp [ndO], by simp [ndO]⟩
      simp [f2]
    · rw [if_neg h15] at I
      rw [if_neg (by simp [h15])] at S
      simp [ndO, hz] at D I S
      simp [R11_0, R11_1, R11_2, R11_3, R11_4, R11_5, R11_6, R11_7, R11_8, R11_9, R11_10, R11_11, R11_12, R11_13, R11_14, R11_15, R11_16, R11_17, R11_18, R11_19, R11_20, R11_21, R11_22, R11_23, R11_24, R11_25, R11_26, Try.f11, lpL11_0, lpM11_0, M11_0, undef, v0, D, I, S, vN, Di, Ds, ndL_length, ndL_take]
  · have I := c_implRepN 4999 true true l m f hg (by omega)
    have S := c_specRepN 4999 true true l m f hg (by omega)
    simp [ndO, hz] at D I S
    simp [R11_0, R11_1, R11_2, R11_3, R11_4, R11_5, R11_6, R11_7, R11_8, R11_9, R11_10, R11_11, R11_12, R11_13, R11_14, R11_15, R11_16, R11_17, R11_18, R11_19, R11_20, R11_21, R11_22, R11_23, R11_24, R11_25, R11_26, Try.f11, lpL11_0, lpM11_0, M11_0, undef, v0, D, I, S, vN, Di, Ds, ndL_length, ndL_take]

end Go.Proofs.Ytfdlllhcjfhknaa.Eng
