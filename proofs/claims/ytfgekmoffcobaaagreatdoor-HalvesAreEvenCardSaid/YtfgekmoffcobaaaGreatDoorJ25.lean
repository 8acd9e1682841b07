/- J25: 'for k, v := range m' over a map that stays as it is: any order of its entries. No program in sight. -/
import Derived.Test.YtfgekmoffcobaaaGreatDoorJ24
namespace Go.J
open Go Go.RowKit
set_option linter.unusedSimpArgs false
set_option linter.unusedSectionVars false
/-- what comes out whatever the order -/
noncomputable def anyOrd {α β : Type} (L : List α) (f : List α → Option β) : Option β := by
  classical exact if h : ∃ r, ∀ L', L'.Perm L → f L' = some r then some h.choose else none
theorem anyOrd_spec {α β : Type} {L : List α} {f : List α → Option β} {r : β} (h : anyOrd L f = some r) : ∀ L', L'.Perm L → f L' = some r := by
  unfold anyOrd at h
  split at h
  · rename_i hx
    cases h
    exact hx.choose_spec
  · cases h
theorem anyOrd_of {α β : Type} {L : List α} {f : List α → Option β} {r : β} (h : ∀ L', L'.Perm L → f L' = some r) : anyOrd L f = some r := by
  unfold anyOrd
  have hx : ∃ r, ∀ L', L'.Perm L → f L' = some r := ⟨r, h⟩
  rw [dif_pos hx]
  have := hx.choose_spec L (List.Perm.refl _)
  rw [h L (List.Perm.refl _)] at this
  exact this.symm
/-! ### the iterator -/
def bornOf (es : Array MapEntry) (i : Nat) : Nat := ((es[i]?).map (·.born)).getD 0
def itObj (b : Nat) (es : Array MapEntry) (clock : Nat) (idx : List Nat) : Obj := .mapIter (some b) clock (idx.map (bornOf es)).toArray clock
section
variable {P : Program} {K : Type} [DecidableEq K] {kv : K → Value} {b r : Nat} {l : List (K × Value)} {es : Array MapEntry} {clock : Nat} {w : World}
theorem MapAt.bornOf_inj (m : MapAt kv b l es clock w) {i j : Nat} (hi : i < es.size) (hj : j < es.size) (h : bornOf es i = bornOf es j) : i = j := by
  unfold bornOf at h
  rw [Array.getElem?_eq_getElem hi, Array.getElem?_eq_getElem hj] at h
  have h1 : (es.toList.map (·.born))[i]'(by simpa using hi) = (es.toList.map (·.born))[j]'(by simpa using hj) := by simpa using h
  exact (List.getElem_inj m.bnd).1 h1
theorem MapAt.size (m : MapAt kv b l es clock w) : es.size = l.length := by
  have := EL.len m.el
  simpa using this
theorem run_next_own (m : MapAt kv b l es clock w) (_ : r ≠ b) {idx : List Nat} (hit : w.heap[r]? = some (itObj b es clock idx)) (hlt : ∀ i ∈ idx, i < l.length) (ty : Nat) :
    ((∀ i, i < l.length → i ∈ idx) ∧ (Instr.next (.pointer (some ⟨r, 0, none⟩)) false ty).run P w = .ok (.tuple #[.bool false]) w) ∨
    ∃ (i : Nat) (k : K) (v : Value) (w' : World), i ∉ idx ∧ l[i]? = some (k, v) ∧ (w' = w ∨ w' = w.drew) ∧ (Instr.next (.pointer (some ⟨r, 0, none⟩)) false ty).run P w = .ok (.tuple #[.bool true, kv k, v]) (w'.putObj r (itObj b es clock (idx ++ [i]))) := by
  have hget : (getObj r).run P w = .ok (itObj b es clock idx) w := by simp [getObj, Sem.run, hit, itObj]
  have hgm := MapKept.run_getObj_map (P := P) m.heap
  have hsz := m.size
  -- which are left
  have hold : ∀ e, e ∈ es → e.born < clock := fun e he => m.born e (by simpa using he)
  have hcheck : (!(idx.map (bornOf es)).toArray.isEmpty && !es.isEmpty && es.all (·.born ≥ clock)) = false := by
    by_cases h0 : es.isEmpty = true
    · simp [h0]
    · have : es.all (·.born ≥ clock) = false := by
        rw [← Bool.not_eq_true, Array.all_eq_true]
        intro h
        have hpos : 0 < es.size := by
          rcases Nat.eq_zero_or_pos es.size with h1 | h1
          · exact absurd (by simpa using h1) h0
          · exact h1
        have h1 := h 0 hpos
        have h2 := hold es[0] (Array.getElem_mem _)
        simp at h1
        omega
      simp [this]
  have hmem : ∀ i, i < es.size → ((idx.map (bornOf es)).toArray.contains (bornOf es i) = true ↔ i ∈ idx) := fun i hi => by
    simp only [List.contains_toArray, List.contains_eq_mem, decide_eq_true_eq, List.mem_map]
    constructor
    · rintro ⟨j, hj, h⟩
      rw [← m.bornOf_inj (by rw [hsz]; exact hlt j hj) hi h]
      exact hj
    · exact fun h => ⟨i, h, rfl⟩
  generalize hleft : (es.filter fun e => !(idx.map (bornOf es)).toArray.contains e.born) = left
  have hleftold : left.filter (fun e => decide (e.born < clock)) = left := by
    rw [Array.filter_eq_self]
    intro e he
    rw [← hleft] at he
    simp at he
    simpa using hold e he.1
  have hleftnew : left.filter (fun e => decide (e.born ≥ clock)) = #[] := by
    rw [Array.filter_eq_empty_iff]
    intro e he
    rw [← hleft] at he
    simp at he
    have := hold e he.1
    simpa using this
  have hput : ∀ (w1 : World) (o : Obj), w1.heap = w.heap → (setObj r o).run P w1 = .ok () (w1.putObj r o) := fun w1 o h => by
    have : w1.heap[r]? = some (itObj b es clock idx) := by rw [h]; exact hit
    simp [setObj, Sem.run, this, World.putObj, itObj]
  have hbase : (Instr.next (.pointer (some ⟨r, 0, none⟩)) false ty).run P w = ((choose (.mapNext ((if left.isEmpty then #[none] else #[]) ++ left.map some : Array (Option MapEntry)).size)).run P w).andThen fun c w1 =>
      (match ((if left.isEmpty then #[none] else #[]) ++ left.map some : Array (Option MapEntry))[c]? with
      | some (some e) => do setObj r (.mapIter (some b) clock ((idx.map (bornOf es)).toArray.push e.born) clock); pure (.tuple #[.bool true, e.key, e.val])
      | some none => pure (.tuple #[.bool false])
      | none => stuck "Next: no such candidate" : Sem Value).run P w1 := by
    simp only [itObj] at hget
    unfold Instr.next
    simp only [Sem.run_bind, hget, Result.andThen_ok, hgm, hcheck, Bool.false_eq_true, if_false]
    simp only [hleft, hleftold, hleftnew, Array.append_empty]
    rfl
  rw [hbase]
  have hch : ∀ n, 0 < n → ∃ c w1, (choose (.mapNext n)).run P w = .ok c w1 ∧ c < n ∧ (w1 = w ∨ w1 = w.drew) := fun n hn => by
    rw [run_choose_drew]
    by_cases hf : (Question.mapNext n).forced = true
    · exact ⟨0, w, by rw [if_pos hf], hn, .inl rfl⟩
    · exact ⟨w.tape w.drawn (.mapNext n) % n, w.drew, by rw [if_neg hf]; rfl, Nat.mod_lt _ hn, .inr rfl⟩
  by_cases h0 : left.isEmpty = true
  · left
    refine ⟨fun i hi => ?_, ?_⟩
    · have hie : i < es.size := by rw [hsz]; exact hi
      rw [← hmem i hie]
      have hb : bornOf es i = es[i].born := by unfold bornOf; rw [Array.getElem?_eq_getElem hie]; rfl
      have : ¬ es[i] ∈ left := by
        have : left = #[] := by simpa using h0
        rw [this]; simp
      rw [← hleft, Array.mem_filter] at this
      rw [hb]
      have hm : es[i] ∈ es := Array.getElem_mem _
      by_cases hc : (idx.map (bornOf es)).toArray.contains es[i].born = true
      · exact hc
      · exact absurd ⟨hm, by simpa using hc⟩ this
    · have hl : left = #[] := by simpa using h0
      subst hl
      rw [if_pos h0]
      have hf : (Question.mapNext ((#[none] : Array (Option MapEntry)) ++ (#[] : Array MapEntry).map some).size).forced = true := by simp [Question.forced]
      rw [run_choose_drew, if_pos hf]
      simp
  · right
    rw [if_neg h0, Array.empty_append]
    have hpos : 0 < left.size := by
      rcases Nat.eq_zero_or_pos left.size with h1 | h1
      · exact absurd (by simpa using h1) h0
      · exact h1
    obtain ⟨c, w1, h1, h2, h3⟩ := hch (left.map some).size (by simpa using hpos)
    rw [h1]
    have h2' : c < left.size := by simpa using h2
    simp only [Result.andThen_ok]
    have hcand : (left.map some)[c]? = some (some left[c]) := by simp [h2']
    rw [hcand]
    have hinl : ∀ e, e ∈ left → e ∈ es ∧ (!(idx.map (bornOf es)).toArray.contains e.born) = true := by
      rw [← hleft]
      exact fun e he => Array.mem_filter.1 he
    have hin := hinl left[c] (Array.getElem_mem h2')
    obtain ⟨i, hi, he⟩ := Array.mem_iff_getElem.1 hin.1
    have hil : i < l.length := by rw [← hsz]; exact hi
    have hb : bornOf es i = left[c].born := by unfold bornOf; rw [Array.getElem?_eq_getElem hi, he]; rfl
    obtain ⟨e, he1, hk, hv⟩ := m.entry (k := l[i].1) (u := l[i].2) (List.getElem?_eq_getElem hil)
    have hee : e = left[c] := by
      rw [Array.getElem?_toList, Array.getElem?_eq_getElem hi, he] at he1
      exact (Option.some.inj he1).symm
    have hpush : (idx.map (bornOf es)).toArray.push left[c].born = ((idx ++ [i]).map (bornOf es)).toArray := by
      rw [List.map_append, List.map_cons, List.map_nil, hb]
      simp
    refine ⟨i, l[i].1, l[i].2, w1, ?_, List.getElem?_eq_getElem hil, h3, ?_⟩
    · intro hx
      have := (hmem i hi).2 hx
      rw [hb] at this
      rw [this] at hin
      cases hin.2
    · have hw1 : w1.heap = w.heap := by rcases h3 with rfl | rfl <;> rfl
      rw [← hk, ← hv, hee]
      simp only [Sem.run_bind, hput w1 _ hw1, Result.andThen_ok, itObj]
      rw [hpush]
      rfl
end
end Go.J
