/- A deterministic reading of Go code over plain data: a region whose order is open. No conditions. -/
import Derived.Test.YtbjmfjfnilmhhaaGreatDoorEngP
namespace Go.Proofs.YtbjmfjfnilmhhaaGreatDoor.Eng
open Go Go.RowKit

theorem clo_fold (acc : List Nat) (p : Nat) : ∀ (l : List Edge) (s : Nat), (l.foldl (fun s e => if Region.binds .any e then s ||| 2 ^ e.on ||| acc.getD e.on 0 else s) s).testBit p = true →
    s.testBit p = true ∨ ∃ e ∈ l, Region.binds .any e = true ∧ (e.on = p ∨ (acc.getD e.on 0).testBit p = true)
  | [], s, h => .inl h
  | e :: l, s, h => by
    rw [List.foldl_cons] at h
    rcases clo_fold acc p l _ h with h1 | ⟨e', he', h1⟩
    · by_cases hb : Region.binds .any e = true
      · rw [if_pos hb] at h1
        simp only [Nat.testBit_or, Bool.or_eq_true, Nat.testBit_two_pow, decide_eq_true_eq] at h1
        rcases h1 with (h1 | h1) | h1
        · exact .inl h1
        · exact .inr ⟨e, by simp, hb, .inl h1⟩
        · exact .inr ⟨e, by simp, hb, .inr h1⟩
      · rw [if_neg hb] at h1
        exact .inl h1
    · exact .inr ⟨e', by simp [he'], h1⟩
theorem clo_snoc (l : List Oper) (o : Oper) : clo (l ++ [o]) = cloF (clo l) o := by simp [clo, List.foldl_append]
def CloP (l : List Oper) : Prop := (clo l).length = l.length ∧ ∀ i p, ((clo l).getD i 0).testBit p = true → ∃ o, l[i]? = some o ∧ ∃ e ∈ o.after.toList, Region.binds .any e = true ∧ (e.on = p ∨ ((clo l).getD e.on 0).testBit p = true)
theorem clo_step {l : List Oper} (h : CloP l) (o : Oper) : CloP (l ++ [o]) := by
  obtain ⟨hl, h⟩ := h
  have hget : ∀ k, k < l.length → (clo (l ++ [o])).getD k 0 = (clo l).getD k 0 := by
    intro k hk
    rw [clo_snoc, cloF, List.getD_eq_getElem?_getD, List.getElem?_append_left (by omega), ← List.getD_eq_getElem?_getD]
  refine ⟨by rw [clo_snoc, cloF]; simp [hl], fun i p hp => ?_⟩
  have hup : ∀ k, ((clo l).getD k 0).testBit p = true → ((clo (l ++ [o])).getD k 0).testBit p = true := by
    intro k hk
    by_cases hlt : k < l.length
    · rw [hget k hlt]; exact hk
    · rw [List.getD_eq_getElem?_getD, List.getElem?_eq_none (by omega)] at hk
      simp at hk
  by_cases hi : i < l.length
  · rw [hget i hi] at hp
    obtain ⟨o', h1, e, h2, h3, h4⟩ := h i p hp
    exact ⟨o', by rw [List.getElem?_append_left hi]; exact h1, e, h2, h3, h4.imp id (hup _)⟩
  · by_cases hi' : i = l.length
    · subst hi'
      refine ⟨o, by simp, ?_⟩
      rw [clo_snoc, cloF, List.getD_eq_getElem?_getD, List.getElem?_append_right (by omega), hl] at hp
      simp only [Nat.sub_self, List.getElem?_cons_zero, Option.getD_some] at hp
      rcases clo_fold _ _ _ _ hp with h1 | ⟨e, h1, h2, h3⟩
      · simp at h1
      · exact ⟨e, h1, h2, h3.imp id (hup _)⟩
    · rw [List.getD_eq_getElem?_getD, List.getElem?_eq_none (by rw [clo_snoc, cloF]; simp [hl]; omega)] at hp
      simp at hp
theorem clo_ok : ∀ (l pre : List Oper), CloP pre → CloP (pre ++ l)
  | [], pre, h => by simpa using h
  | o :: l, pre, h => by
    have := clo_ok l (pre ++ [o]) (clo_step h o)
    simpa using this
theorem clo_spec (l : List Oper) : CloP l := by
  have := clo_ok l [] ⟨rfl, fun i p h => by simp [clo] at h⟩
  simpa using this

/-- The orders of a region come to one: what the check asks. -/
def orderOk (wr : FuncId → Bool) (W : List (Nat × Nat)) (ops : Array Oper) : Bool :=
  decide (ops.size ≤ 62) && (ops.toList.zipIdx.all fun q => q.1.after.all fun e => !Region.binds .any e || decide (e.on < q.2)) &&
  ((List.range ops.size).all fun i => (List.range ops.size).all fun p =>
    match ops[p]?, ops[i]? with
    | some op, some oi => if p < i then ((clo ops.toList).getD i 0).testBit p || indep wr W ops p i op oi else !((clo ops.toList).getD i 0).testBit p
    | _, _ => true)

def runI (C : Cfg) (call : CallF) (ops : Array Oper) (rid : Nat) (W : List (Nat × Nat)) : List Nat → St → Option St
  | [], st => some st
  | i :: l, st => match ops[i]? with
    | none => none
    | some o => match step C call ops rid (some (rid, W)) i st o with
      | none => none
      | some st' => runI C call ops rid W l st'

theorem runOps_runI {C : Cfg} {call : CallF} {ops : Array Oper} {rid : Nat} {W : List (Nat × Nat)} : ∀ (l : List Oper) (j : Nat) (st : St), ops.toList.drop j = l → runOps C call ops rid (some (rid, W)) j l st = runI C call ops rid W (List.range' j l.length) st
  | [], j, st, _ => rfl
  | o :: l, j, st, hl => by
    have hj : ops[j]? = some o := by
      have := congrArg List.head? hl
      rw [List.head?_drop] at this
      simpa using this
    rw [List.length_cons, List.range'_succ]
    simp only [runOps, runI, hj, stepX]
    cases step C call ops rid (some (rid, W)) j st o with
    | none => rfl
    | some st' =>
      simp only []
      refine runOps_runI l (j + 1) st' ?_
      have := congrArg List.tail hl
      rw [List.tail_drop] at this
      simpa using this

theorem runI_move {C : Cfg} {call : CallF} {ops : Array Oper} {rid i : Nat} {W : List (Nat × Nat)} {oi : Oper} (hoi : ops[i]? = some oi) (hi63 : i < 63) : ∀ (pre post : List Nat) (st st2 : St),
    (∀ p ∈ pre, p < 63 ∧ p ≠ i ∧ ((clo ops.toList).getD i 0).testBit p = false ∧ ((clo ops.toList).getD p 0).testBit i = false ∧ ∀ op, ops[p]? = some op → indep C.wr W ops p i op oi = true) →
    runI C call ops rid W (pre ++ i :: post) st = some st2 → runI C call ops rid W (i :: (pre ++ post)) st = some st2
  | [], post, st, st2, _, h => h
  | p :: pre, post, st, st2, hp, h => by
    rw [List.cons_append] at h
    simp only [runI] at h
    split at h
    · cases h
    rename_i op hop
    split at h
    · cases h
    rename_i st1 h1
    have ih := runI_move hoi hi63 pre post st1 st2 (fun q hq => hp q (by simp [hq])) h
    simp only [runI, hoi] at ih
    split at ih
    · cases ih
    rename_i st3 h3
    obtain ⟨a1, a2, a3, a4, a5⟩ := hp p (by simp)
    obtain ⟨st1', b1, b2⟩ := step_comm a1 hi63 a2 (a5 op hop) a3 a4 h1 h3
    simp only [List.cons_append, runI, hoi, b1, hop, b2]
    exact ih

section
variable {P : Program} {Pf : Pfs}
theorem filter_split {f g : Nat → Bool} {n i : Nat} (hi : i < n) (hfi : f i = true) (hg : ∀ k, g k = (f k && k != i)) :
    ∃ pre post, (List.range n).filter f = pre ++ i :: post ∧ (List.range n).filter g = pre ++ post ∧ ∀ p ∈ pre, p < i ∧ f p = true := by
  have hr : List.range n = List.range' 0 i ++ i :: List.range' (i + 1) (n - i - 1) := by
    rw [List.range_eq_range', show n = i + (1 + (n - i - 1)) by omega, ← List.range'_append_1, show i + (1 + (n - i - 1)) - i - 1 = n - i - 1 by omega, Nat.zero_add, show 1 + (n - i - 1) = (n - i - 1) + 1 by omega, List.range'_succ]
  have h1 : (List.range' 0 i).filter g = (List.range' 0 i).filter f := List.filter_congr fun k hk => by
    rw [hg]
    have : k < i := by have := (List.mem_range'_1.1 hk).2; omega
    simp [show k ≠ i by omega]
  have h2 : (List.range' (i + 1) (n - i - 1)).filter g = (List.range' (i + 1) (n - i - 1)).filter f := List.filter_congr fun k hk => by
    rw [hg]
    have : i + 1 ≤ k := (List.mem_range'_1.1 hk).1
    simp [show k ≠ i by omega]
  refine ⟨(List.range' 0 i).filter f, (List.range' (i + 1) (n - i - 1)).filter f, ?_, ?_, ?_⟩
  · rw [hr, List.filter_append, List.filter_cons, if_pos hfi]
  · rw [hr, List.filter_append, List.filter_cons, if_neg (by rw [hg]; simp), h1, h2]
  · intro p hp
    rw [List.mem_filter] at hp
    exact ⟨by have := (List.mem_range'_1.1 hp.1).2; omega, hp.2⟩

theorem wpAny_run {C : Cfg} {call : CallF} (hT : TabOk P C.T) (hcall : CallOk P call) (hent : EntOk P C call) {ops : Array Oper} {rid : Nat} {W : List (Nat × Nat)} {N : Nat} (hN : ∀ o ∈ ops, ∀ d, o.dst = some d → d < N) (hord : orderOk C.wr W ops = true) {Q : Exit → Act → World → Prop} :
    ∀ (fuel : Nat) (listed : Array Bool) (st st' : St) (w : World) (ι : Plc) (a : Act), listed.size = ops.size → ((List.range ops.size).filter fun k => !listed.getD k true).length ≤ fuel →
      (∀ i p, listed.getD i false = true → ((clo ops.toList).getD i 0).testBit p = true → listed.getD p false = true) → N ≤ a.tmps.size →
      Good w Pf ι st (fun s => ∀ k, k ∈ ((List.range ops.size).filter fun k => !listed.getD k true) → s ≠ siteOf rid k) a → runI C call ops rid W ((List.range ops.size).filter fun k => !listed.getD k true) st = some st' →
      (∀ w' ι' a', Fwd Pf w w' ι ι' → Good w' Pf ι' st' (fun _ => True) a' → a'.tmps.size = a.tmps.size → Q .normal a' w') → wpAny P .any ops Q fuel listed a w := by
  unfold orderOk at hord
  simp only [Bool.and_eq_true, decide_eq_true_eq] at hord
  obtain ⟨⟨h62, hedge⟩, hpair⟩ := hord
  have hedge' : ∀ i o, ops[i]? = some o → ∀ e ∈ o.after, Region.binds .any e = true → e.on < i := by
    intro i o ho e he hb
    have hm : (o, i) ∈ ops.toList.zipIdx := by
      rw [List.mem_zipIdx_iff_getElem?]
      simpa using ho
    have := List.all_eq_true.1 hedge _ hm
    have := Array.all_eq_true_iff_forall_mem.1 this e he
    simpa [hb] using this
  have hp' : ∀ p i op oi, ops[p]? = some op → ops[i]? = some oi → (if p < i then ((clo ops.toList).getD i 0).testBit p || indep C.wr W ops p i op oi else !((clo ops.toList).getD i 0).testBit p) = true := by
    intro p i op oi hop hoi
    have h1 := List.all_eq_true.1 hpair i (List.mem_range.2 (Array.getElem?_eq_some_iff.1 hoi).1)
    have h2 := List.all_eq_true.1 h1 p (List.mem_range.2 (Array.getElem?_eq_some_iff.1 hop).1)
    rw [hop, hoi] at h2
    exact h2
  have ready_rem : ∀ (listed : Array Bool) i, i ∈ Region.ready .any ops listed → i < ops.size ∧ listed.getD i true = false := by
    intro listed i hi
    obtain ⟨h1, o, h2, _⟩ := mem_ready.1 hi
    exact ⟨(Array.getElem?_eq_some_iff.1 h2).1, h1⟩
  have first_ready : ∀ (listed : Array Bool), listed.size = ops.size → Region.ready .any ops listed = [] → ((List.range ops.size).filter fun k => !listed.getD k true) = [] := by
    intro listed hls hr
    cases hrem : ((List.range ops.size).filter fun k => !listed.getD k true) with
    | nil => rfl
    | cons i l =>
      exfalso
      have hmi : i ∈ (List.range ops.size).filter fun k => !listed.getD k true := by rw [hrem]; simp
      rw [List.mem_filter, List.mem_range] at hmi
      have hsm : ∀ k, k < i → listed.getD k true = true := by
        intro k hk
        by_cases hlk : listed.getD k true = true
        · exact hlk
        · exfalso
          have hs : ((List.range ops.size).filter fun k => !listed.getD k true).Pairwise (· < ·) := List.Pairwise.filter _ List.pairwise_lt_range
          rw [hrem] at hs
          have hmk : k ∈ (List.range ops.size).filter fun k => !listed.getD k true := by
            rw [List.mem_filter, List.mem_range]
            exact ⟨by omega, by simpa using hlk⟩
          rw [hrem] at hmk
          cases hmk with
          | head => omega
          | tail _ hm => have := List.rel_of_pairwise_cons hs hm; omega
      have hir : i ∈ Region.ready .any ops listed := by
        rw [mem_ready]
        refine ⟨by simpa using hmi.2, ops[i], by simp [hmi.1], fun e he hb => ?_⟩
        have hlt := hedge' i _ (by simp [hmi.1]) e he hb
        have := hsm e.on hlt
        have hes : e.on < listed.size := by omega
        simpa [Array.getD_eq_getD_getElem?, hes] using this
      rw [hr] at hir
      cases hir
  intro fuel
  induction fuel with
  | zero =>
    intro listed st st' w ι a hls hlen hcl hsz hg h hQ
    have hrem : ((List.range ops.size).filter fun k => !listed.getD k true) = [] := List.eq_nil_of_length_eq_zero (by omega)
    rw [hrem] at h
    simp only [runI, Option.some.injEq] at h
    subst h
    refine ⟨?_, hQ w ι a (Fwd.refl _ _ _) (hg.more fun _ _ => trivial) rfl⟩
    cases hr : Region.ready .any ops listed with
    | nil => rfl
    | cons i l =>
      exfalso
      obtain ⟨h1, h2⟩ := ready_rem listed i (by rw [hr]; simp)
      have : i ∈ (List.range ops.size).filter fun k => !listed.getD k true := by rw [List.mem_filter, List.mem_range]; exact ⟨h1, by rw [h2]; rfl⟩
      rw [hrem] at this
      cases this
  | succ fuel ih =>
    intro listed st st' w ι a hls hlen hcl hsz hg h hQ
    constructor
    · intro hr
      have hrem := first_ready listed hls hr
      rw [hrem] at h
      simp only [runI, Option.some.injEq] at h
      subst h
      exact hQ w ι a (Fwd.refl _ _ _) (hg.more fun _ _ => trivial) rfl
    · intro i hi
      obtain ⟨hin, hil⟩ := ready_rem listed i hi
      obtain ⟨_, oi, hoi, hdeps⟩ := mem_ready.1 hi
      have hset : ∀ k, (!(listed.setIfInBounds i true).getD k true) = ((!listed.getD k true) && k != i) := by
        intro k
        by_cases hk : k = i
        · subst hk
          have : k < listed.size := by omega
          simp [this]
        · rw [getD_set_ne true (Ne.symm hk)]
          simp [hk]
      obtain ⟨pre, post, hrem, hrem', hpre⟩ := filter_split (f := fun k => !listed.getD k true) (g := fun k => !(listed.setIfInBounds i true).getD k true) hin (by rw [hil]; rfl) hset
      rw [hrem] at h hlen
      have hclo_i : ∀ p, ((clo ops.toList).getD i 0).testBit p = true → listed.getD p false = true := by
        intro p hp
        obtain ⟨o', h1, e, h2, h3, h4⟩ := (clo_spec ops.toList).2 i p hp
        have : o' = oi := by
          rw [Array.getElem?_toList, hoi] at h1; exact (Option.some.inj h1).symm
        subst this
        have hl := hdeps e (by simpa using h2) h3
        rcases h4 with rfl | h4
        · exact hl
        · exact hcl _ _ hl h4
      have hmv := runI_move (C := C) (call := call) (rid := rid) hoi (by omega) pre post st st' (fun p hp => by
        obtain ⟨h1, h2⟩ := hpre p hp
        have hpn : p < ops.size := by omega
        have hnot : ((clo ops.toList).getD i 0).testBit p = false := by
          cases hb : ((clo ops.toList).getD i 0).testBit p with
          | false => rfl
          | true =>
            exfalso
            have := hclo_i p hb
            have hps : p < listed.size := by omega
            simp only [Array.getD_eq_getD_getElem?, hps, getElem?_pos, Option.getD_some, Bool.not_eq_true'] at this h2
            rw [this] at h2
            cases h2
        refine ⟨by omega, by omega, hnot, ?_, fun op hop => ?_⟩
        · have := hp' i p oi ops[p] hoi (by simp [hpn])
          rw [if_neg (by omega)] at this
          simpa using this
        · have := hp' p i op oi hop hoi
          rw [if_pos h1, hnot, Bool.false_or] at this
          exact this) h
      simp only [runI, hoi] at hmv
      split at hmv
      · cases hmv
      rename_i st1 h1
      refine step_sound hT hcall hent hoi hg (fun hx => hx i (by rw [List.mem_filter, List.mem_range]; exact ⟨hin, by rw [hil]; rfl⟩) rfl) (fun d hd => Nat.lt_of_lt_of_le (hN oi (Array.mem_of_getElem? hoi) d hd) hsz) h1 fun w' ι' a' f hg' hsz' => ?_
      refine ih (listed.setIfInBounds i true) st1 st' w' ι' a' (by simp [hls]) ?_ ?_ (by omega) (hg'.more ?_) ?_ fun w2 ι2 a2 f2 hg2 hs2 => hQ w2 ι2 a2 (f.trans f2) hg2 (by omega)
      · rw [hrem']
        simp only [List.length_append, List.length_cons] at hlen ⊢
        omega
      · intro k p hk hp
        by_cases hki : k = i
        · subst hki
          exact getD_set_true (hclo_i p hp)
        · rw [getD_set_ne false (Ne.symm hki)] at hk
          exact getD_set_true (hcl k p hk hp)
      · intro s hs k hk
        rw [List.mem_filter, hset] at hk
        simp only [Bool.and_eq_true, bne_iff_ne] at hk
        rcases hs with hs | hs
        · exact hs k (by rw [List.mem_filter]; exact ⟨hk.1, hk.2.1⟩)
        · rw [hs]
          have := hk.2.2
          unfold siteOf
          omega
      · rw [hrem']; exact hmv

theorem region_open {C : Cfg} {call : CallF} (hm : P.follows .mixedOrders = true) (hT : TabOk P C.T) (hcall : CallOk P call) (hent : EntOk P C call) {ops : Array Oper} {rid : Nat} {W : List (Nat × Nat)} {N : Nat} (hN : ∀ o ∈ ops, ∀ d, o.dst = some d → d < N) (hord : orderOk C.wr W ops = true) {Q : Exit → Act → World → Prop}
    {w : World} {ι : Plc} {st st' : St} {a : Act} (hsz : N ≤ a.tmps.size) (hg : Good w Pf ι st (fun _ => False) a) (h : runOps C call ops rid (some (rid, W)) 0 ops.toList st = some st')
    (hQ : ∀ w' ι' a', Fwd Pf w w' ι ι' → Good w' Pf ι' { st' with tick := st'.tick + 1 } (fun _ => False) a' → a'.tmps.size = a.tmps.size → Q .normal a' w') : (Code.region rid ops true).wp P Q a w := by
  refine wp_region_any hm ?_
  have fd : Fwd Pf w { w with drawn := w.drawn + 1 } ι ι := ⟨rfl, rfl, rfl, Nat.le_refl _, fun _ _ => rfl, fun _ _ _ h => h⟩
  have hg' : Good { w with drawn := w.drawn + 1 } Pf ι st (fun _ => False) a :=
    ⟨fun x => (hg.rep x).fwd hg.desc.sub fd, ⟨fun id vr o ho => (hg.desc.own id vr o ho).fwd hg.desc.sub fd (fun _ _ _ => rfl), hg.desc.fresh, hg.desc.fresh', hg.desc.inj, hg.desc.lt, hg.desc.sub, hg.desc.gl fd.prot⟩, hg.defers⟩
  have hall : ((List.range ops.size).filter fun k => !(Array.replicate ops.size false).getD k true) = List.range ops.size := List.filter_eq_self.2 fun k hk => by
    rw [List.mem_range] at hk
    simp [hk]
  refine wpAny_run (Pf := Pf) (rid := rid) hT hcall hent hN hord ops.size (Array.replicate ops.size false) st st' { w with drawn := w.drawn + 1 } ι a (by simp) ?_ ?_ hsz (hg'.more fun _ h => h.elim) ?_ fun w' ι' a' f hg2 hs2 => hQ w' ι' a' (fd.trans f) hg2.tick hs2
  · rw [hall]; simp
  · intro i p hi
    rw [Array.getD_eq_getD_getElem?] at hi
    by_cases hlt : i < ops.size <;> simp [hlt] at hi
  · rw [hall, List.range_eq_range']
    have := runOps_runI (C := C) (call := call) (ops := ops) (rid := rid) (W := W) ops.toList 0 st (by simp)
    rw [this] at h
    simpa using h
end
end Go.Proofs.YtbjmfjfnilmhhaaGreatDoor.Eng
