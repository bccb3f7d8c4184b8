/- A deterministic reading of Go code over plain data: structs built, rows of cells. No conditions. -/
import Derived.Test.YtbjmfjfnilmhhaaGreatDoorEngF
namespace Go.Proofs.YtbjmfjfnilmhhaaGreatDoor.Eng
open Go Go.RowKit

theorem splice_aux (off : Nat) : ∀ (xs : List Value) (k : Nat) (cs : Array Value), off + k + xs.length ≤ cs.size →
    ((xs.zipIdx k).foldl (fun cs q => cs.setIfInBounds (off + q.2) q.1) cs).toList = cs.toList.take (off + k) ++ xs ++ cs.toList.drop (off + k + xs.length)
  | [], k, cs, _ => by simp
  | x :: xs, k, cs, h => by
    simp only [List.length_cons] at h
    rw [List.zipIdx_cons, List.foldl_cons, splice_aux off xs (k + 1) _ (by simp; omega)]
    simp only [Array.toList_setIfInBounds]
    have hl : off + k < cs.toList.length := by simp; omega
    rw [List.set_eq_take_append_cons_drop, if_pos hl]
    have e1 : (cs.toList.take (off + k) ++ x :: cs.toList.drop (off + k + 1)).take (off + (k + 1)) = cs.toList.take (off + k) ++ [x] := by
      rw [List.take_append, List.length_take, Nat.min_eq_left (by omega), List.take_of_length_le (by rw [List.length_take]; omega), show off + (k + 1) - (off + k) = 1 by omega]
      simp
    have e2 : (cs.toList.take (off + k) ++ x :: cs.toList.drop (off + k + 1)).drop (off + (k + 1) + xs.length) = cs.toList.drop (off + k + (xs.length + 1)) := by
      rw [List.drop_append, List.length_take, Nat.min_eq_left (by omega), List.drop_of_length_le (by rw [List.length_take]; omega), show off + (k + 1) + xs.length - (off + k) = xs.length + 1 by omega]
      simp only [List.nil_append, List.drop_succ_cons, List.drop_drop]
      congr 1
      omega
    rw [e1, e2]
    simp
theorem splice (off : Nat) (xs cs : Array Value) (h : off + xs.size ≤ cs.size) :
    (xs.zipIdx.foldl (fun cs q => cs.setIfInBounds (off + q.2) q.1) cs).toList = cs.toList.take off ++ xs.toList ++ cs.toList.drop (off + xs.size) := by
  have := splice_aux off xs.toList 0 cs (by simpa using h)
  rw [← Array.foldl_toList, Array.toList_zipIdx]
  simpa using this

theorem madeCells_toList (z : Array Value) (n : Nat) (hz : 0 < z.size) : (madeCells z (n * z.size)).toList = (List.replicate n z.toList).flatten := by
  have hu : ∀ e ∈ List.replicate n z.toList, e.length = z.size := fun e he => by rw [List.eq_of_mem_replicate he]; simp
  have hlen := length_flatten_uniform hu
  rw [List.length_replicate] at hlen
  apply List.ext_getElem?
  intro q
  by_cases hq : q < n * z.size
  · have hi : q / z.size < n := (Nat.div_lt_iff_lt_mul hz).2 hq
    have hj : q % z.size < z.size := Nat.mod_lt _ hz
    have hr : (List.replicate n z.toList)[q / z.size]? = some z.toList := by simp [hi]
    have hf := flatten_uniform hu _ _ hr _ hj
    rw [Nat.mul_comm, Nat.div_add_mod] at hf
    rw [hf]
    simp only [madeCells, Array.toList_map, Array.toList_range, List.getElem?_map]
    rw [List.getElem?_range hq]
    simp only [Option.map_some, Array.getElem?_toList]
    rw [getElem!_pos z (q % z.size) hj, Array.getElem?_eq_getElem hj]
  · rw [List.getElem?_eq_none (by simp [madeCells]; omega), List.getElem?_eq_none (by omega)]

theorem chunk_flatten (n : Nat) : ∀ (k : Nat) (l : List V), l.length = k * n → (chunk n k l).flatten = l
  | 0, l, h => by
    have : l = [] := List.eq_nil_of_length_eq_zero (by omega)
    subst this; rfl
  | k + 1, l, h => by
    rw [Nat.succ_mul] at h
    simp only [chunk, List.flatten_cons]
    rw [chunk_flatten n k _ (by rw [List.length_drop]; omega), List.take_append_drop]
theorem chunk_len (n : Nat) : ∀ (k : Nat) (l : List V), l.length = k * n → ∀ e ∈ chunk n k l, e.length = n
  | 0, l, h, e, he => by simp [chunk] at he
  | k + 1, l, h, e, he => by
    rw [Nat.succ_mul] at h
    simp only [chunk, List.mem_cons] at he
    rcases he with rfl | he
    · rw [List.length_take]; omega
    · exact chunk_len n k _ (by rw [List.length_drop]; omega) e he
theorem chunk_length (n : Nat) : ∀ (k : Nat) (l : List V), (chunk n k l).length = k
  | 0, l => rfl
  | k + 1, l => by simp [chunk, chunk_length n k]

section
variable {P : Program} {w : World} {Pf : Pfs} {ι : Plc} {H : Hp} {tick : Nat} {done : Nat → Prop}
/-- Parts, and what they stand for. -/
def PReps (w : World) (Pf : Pfs) (ι : Plc) : List (Nat × V) → List (Nat × Value) → Prop
  | [], us => us = []
  | x :: l, us => ∃ u us', us = (x.1, u) :: us' ∧ Rep w Pf ι x.2 u ∧ PReps w Pf ι l us'
theorem fill_sound {place : Nat → Option (Nat × Nat)} : ∀ (parts : List (Nat × V)) (us : List (Nat × Value)) (acc cs : List V) (cells : Array Value), PReps w Pf ι parts us → Reps w Pf ι acc cells.toList → parts.foldlM (fillF place) acc = some cs →
    ∃ cells', Instr.fill place cells us = some cells' ∧ Reps w Pf ι cs cells'.toList ∧ cells'.size = cells.size
  | [], us, acc, cs, cells, hp, hr, h => by
    simp only [PReps] at hp
    subst hp
    simp at h
    subst h
    exact ⟨cells, by simp [Instr.fill], hr, rfl⟩
  | (i, x) :: parts, us, acc, cs, cells, hp, hr, h => by
    simp only [PReps] at hp
    obtain ⟨u, us', rfl, hx, hp⟩ := hp
    rw [List.foldlM_cons] at h
    cases hf : fillF place acc (i, x) with
    | none => rw [hf] at h; cases h
    | some acc' =>
      rw [hf] at h
      simp only [fillF] at hf
      split at hf
      · rename_i off n hpl
        split at hf
        · rename_i hc
          obtain ⟨h1, h2, h3⟩ := hc
          cases hf
          have hone : ∀ y ∈ x.cells, y.one = true := by simpa using h3
          have hcs := hx.cells hone
          have hcl := hcs.length
          have hal := hr.length
          simp only [Array.length_toList] at hcl hal
          have hsz : u.cells.size = n := by rw [hcl, h1]
          have hspl := splice off u.cells cells (by omega)
          have hr' : Reps w Pf ι (setAt acc off x.cells) (u.cells.zipIdx.foldl (fun cs q => cs.setIfInBounds (off + q.2) q.1) cells).toList := by
            rw [hspl, hcl]
            unfold setAt
            have := (hr.take off).append hcs
            have h4 := this.append (hr.drop (off + x.cells.length))
            exact h4
          obtain ⟨cells', h5, h6, h7⟩ := fill_sound parts us' _ cs _ hp hr' h
          refine ⟨cells', ?_, h6, ?_⟩
          · rw [Instr.fill]
            simp only [hpl]
            rw [if_neg (by simp; omega)]
            exact h5
          · rw [h7]
            have := congrArg List.length hspl
            simp only [Array.length_toList, List.length_append, List.length_take, List.length_drop] at this
            omega
        · cases hf
      · cases hf

theorem mapM_places {fs : List (Nat × Nat × Bool)} : ∀ (fields : List Field), fields.length = fs.length → (∀ (j off sz : Nat) (ag : Bool), fs[j]? = some (off, sz, ag) → ∃ f : Field, fields[j]? = some f ∧ f.offset = off ∧ (∃ inf, P.info? f.type = some inf ∧ inf.size = sz)) →
    fields.mapM (fun f => (P.info? f.type).map fun i => (f.offset, i.size)) = some (fs.map fun f => (f.1, f.2.1)) := by
  induction fs with
  | nil => intro fields hl _; have : fields = [] := List.eq_nil_of_length_eq_zero (by simpa using hl); subst this; rfl
  | cons x fs ih =>
    intro fields hl h
    cases fields with
    | nil => simp at hl
    | cons f fields =>
      obtain ⟨off, sz, ag⟩ := x
      obtain ⟨f', h1, h2, inf, h3, h4⟩ := h 0 off sz ag (by simp)
      simp at h1
      subst h1
      have := ih fields (by simpa using hl) (fun j o s g hj => by simpa using h (j + 1) o s g (by simpa using hj))
      rw [List.mapM_cons, h3, this]
      simp [h2, h4]

theorem buildV_sound {T : Tab} (hT : TabOk P T) {t : TypeId} {parts : List (Nat × V)} {us : Array (Nat × Value)} {v : V} (h : buildV T t parts = some v) (hp : PReps w Pf ι parts us.toList) :
    ∃ r, (Instr.build t us).run P w = .ok r w ∧ Rep w Pf ι v r := by
  unfold buildV at h
  split at h
  · rename_i fs size bytes zero fl hti
    have ht := hT _ _ hti
    have hu := ht.und
    simp only [] at hu
    obtain ⟨fields, hf, hfs, hall⟩ := hu
    obtain ⟨inf, z, hinf, _, _, hz, hzs⟩ := ht.info
    simp only [] at hzs
    obtain ⟨cs, hcs, rfl⟩ := Option.map_eq_some_iff.1 h
    have hpl : fields.toList.mapM (fun f => (P.info? f.type).map fun i => (f.offset, i.size)) = some (fs.map fun f => (f.1, f.2.1)) :=
      mapM_places fields.toList (by simpa using hfs) (fun j o s g hj => by
        obtain ⟨f, h1, h2, h3, _⟩ := hall j o s g hj
        exact ⟨f, by simpa using h1, h2, h3⟩)
    obtain ⟨cells', h1, h2, _⟩ := fill_sound parts us.toList _ cs z.cells hp (by rw [hzs]; exact Reps.consts zero) hcs
    refine ⟨.agg cells', run_build w t us cells' ?_, by simp only [Rep]; exact ⟨cells'.toList, by simp, h2⟩⟩
    unfold Program.built
    simp only [hinf, hf, hz, hpl]
    rw [← h1]
    congr 1
    funext i
    simp
  · rename_i n e size bytes zero fl hti
    have ht := hT _ _ hti
    have hu := ht.und
    simp only [] at hu
    obtain ⟨inf, z, hinf, _, _, hz, hzs⟩ := ht.info
    simp only [] at hzs
    split at h
    · rename_i te hte
      obtain ⟨infe, ze, hinfe, hsze, _⟩ := (hT _ _ hte).info
      obtain ⟨cs, hcs, rfl⟩ := Option.map_eq_some_iff.1 h
      obtain ⟨cells', h1, h2, _⟩ := fill_sound parts us.toList _ cs z.cells hp (by rw [hzs]; exact Reps.consts zero) hcs
      refine ⟨.agg cells', run_build w t us cells' ?_, by simp only [Rep]; exact ⟨cells'.toList, by simp, h2⟩⟩
      unfold Program.built
      simp only [hinf, hu, hz, hinfe, hsze]
      exact h1
    · cases h
  · cases h
end
end Go.Proofs.YtbjmfjfnilmhhaaGreatDoor.Eng
