/- J22: maps of plain things: a block of ours that holds a map; look, put, entry and store, delete, length. No program in sight. -/
import Derived.Test.YtfgekmoffcobaaaGreatDoorJ21
namespace Go.J
open Go Go.RowKit
set_option linter.unusedSimpArgs false
set_option linter.unusedSectionVars false
/-! ### the plain side: a map is its entries, in the order in which they came -/
section
variable {K V V' : Type} [DecidableEq K]
def lkM (l : List (K × V)) (k : K) : Option V := (l.find? fun p => decide (p.1 = k)).map (·.2)
def hasM (l : List (K × V)) (k : K) : Bool := l.any fun p => decide (p.1 = k)
def putM (l : List (K × V)) (k : K) (v : V) : List (K × V) := if hasM l k then l.map (fun p => if p.1 = k then (k, v) else p) else l ++ [(k, v)]
def delM (l : List (K × V)) (k : K) : List (K × V) := l.filter fun p => !decide (p.1 = k)
def mpV (f : V → V') (l : List (K × V)) : List (K × V') := l.map fun p => (p.1, f p.2)
theorem lkM_map (f : V → V') (l : List (K × V)) (k : K) : lkM (mpV f l) k = (lkM l k).map f := by
  unfold lkM mpV
  induction l with
  | nil => rfl
  | cons p l ih =>
    simp only [List.map_cons, List.find?_cons]
    cases decide (p.1 = k)
    · exact ih
    · rfl
theorem hasM_map (f : V → V') (l : List (K × V)) (k : K) : hasM (mpV f l) k = hasM l k := by
  unfold hasM mpV
  rw [List.any_map]; rfl
theorem putM_map (f : V → V') (l : List (K × V)) (k : K) (v : V) : putM (mpV f l) k (f v) = mpV f (putM l k v) := by
  unfold putM
  rw [hasM_map]
  split
  · simp only [mpV, List.map_map]
    refine List.map_congr_left fun p _ => ?_
    simp only [Function.comp]
    by_cases h : p.1 = k <;> simp [h]
  · simp [mpV]
theorem delM_map (f : V → V') (l : List (K × V)) (k : K) : delM (mpV f l) k = mpV f (delM l k) := by
  unfold delM mpV
  rw [List.filter_map]; rfl
theorem hasM_iff (l : List (K × V)) (k : K) : hasM l k = true ↔ k ∈ l.map Prod.fst := by
  unfold hasM
  simp only [List.any_eq_true, decide_eq_true_eq, List.mem_map]
theorem lkM_some {l : List (K × V)} {k : K} {v : V} (hn : (l.map Prod.fst).Nodup) (i : Nat) (h : l[i]? = some (k, v)) : lkM l k = some v := by
  induction l generalizing i with
  | nil => cases h
  | cons p l ih =>
    simp only [List.map_cons, List.nodup_cons] at hn
    cases i with
    | zero => simp at h; subst h; simp [lkM]
    | succ i =>
      have h' : l[i]? = some (k, v) := by simpa using h
      have hne : p.1 ≠ k := fun e => hn.1 (by rw [e]; exact List.mem_map.2 ⟨(k, v), List.mem_of_getElem? h', rfl⟩)
      have := ih hn.2 i h'
      unfold lkM at this ⊢
      rw [List.find?_cons, decide_eq_false hne]
      exact this
theorem lkM_none {l : List (K × V)} {k : K} (h : ∀ p ∈ l, p.1 ≠ k) : lkM l k = none := by
  unfold lkM
  rw [List.find?_eq_none.2 (fun p hp => by simpa using h p hp)]; rfl
theorem hasM_none {l : List (K × V)} {k : K} (h : ∀ p ∈ l, p.1 ≠ k) : hasM l k = false := by
  unfold hasM
  rw [List.any_eq_false]
  exact fun p hp => by simpa using h p hp
theorem putM_at {l : List (K × V)} {k : K} {v u : V} (hn : (l.map Prod.fst).Nodup) (i : Nat) (h : l[i]? = some (k, u)) : putM l k v = l.set i (k, v) := by
  have hh : hasM l k = true := (hasM_iff l k).2 (List.mem_map.2 ⟨(k, u), List.mem_of_getElem? h, rfl⟩)
  unfold putM
  rw [if_pos hh]
  refine List.ext_getElem? fun j => ?_
  rw [List.getElem?_map, List.getElem?_set]
  by_cases hij : i = j
  · subst hij
    have hi := (List.getElem?_eq_some_iff.1 h).1
    rw [h]; simp [hi]
  · rw [if_neg hij]
    cases hj : l[j]? with
    | none => rfl
    | some p =>
      have hne : p.1 ≠ k := fun e => hij (by
        have hi := (List.getElem?_eq_some_iff.1 h)
        have hj := (List.getElem?_eq_some_iff.1 hj)
        have h1 : (l.map Prod.fst)[i]'(by simpa using hi.1) = (l.map Prod.fst)[j]'(by simpa using hj.1) := by
          simp only [List.getElem_map]
          rw [hi.2, hj.2]
          exact e.symm
        exact (List.getElem_inj hn).1 h1)
      simp [hne]
theorem putM_new {l : List (K × V)} {k : K} {v : V} (h : ∀ p ∈ l, p.1 ≠ k) : putM l k v = l ++ [(k, v)] := by
  unfold putM
  rw [if_neg (by rw [hasM_none h]; simp)]
theorem putM_keys (l : List (K × V)) (k : K) (v : V) : (putM l k v).map Prod.fst = if hasM l k then l.map Prod.fst else l.map Prod.fst ++ [k] := by
  unfold putM
  split
  · rw [List.map_map]
    refine List.map_congr_left fun p _ => ?_
    simp only [Function.comp]
    by_cases h : p.1 = k <;> simp [h]
  · simp
end
/-! ### keys -/
structure KeyF (P : Program) (T : TypeId) {K : Type} [DecidableEq K] (kv : K → Value) : Prop where
  chk : ∀ em k w, (Instr.checkKey em 10000 T (kv k)).run P w = .ok () w
  eq : ∀ x y w, (Op.equal T (kv x) (kv y)).run P w = .ok (decide (x = y)) w
  now : ∃ d, P.underlying T = some d ∧ ((∀ x y, Instr.sameNow d (kv x) (kv y) = some (decide (x = y))) ∨ ∀ x y, Instr.sameNow d (kv x) (kv y) = none)
  same : ∀ k, Instr.sameBits 10000 (kv k) (kv k) = true
section
variable {P : Program} {T : TypeId} {K : Type} [DecidableEq K] {kv : K → Value}
def EL (kv : K → Value) (es : List MapEntry) (l : List (K × Value)) : Prop := es.map (fun e => (e.key, e.val)) = l.map fun p => (kv p.1, p.2)
theorem findNow_some {d : TypeDesc} (h : ∀ x y, Instr.sameNow d (kv x) (kv y) = some (decide (x = y))) (k : K) : ∀ (l : List (K × Value)) (es : List MapEntry) (n : Nat), EL kv es l →
    (∃ i v, Instr.findNow d (kv k) es n = some (some (n + i, v)) ∧ l[i]? = some (k, v)) ∨ (Instr.findNow d (kv k) es n = some none ∧ ∀ p ∈ l, p.1 ≠ k) := by
  intro l
  induction l with
  | nil => intro es n he; right; cases es with
    | nil => exact ⟨rfl, fun p hp => by cases hp⟩
    | cons e es => simp [EL] at he
  | cons p l ih =>
    intro es n he
    cases es with
    | nil => simp [EL] at he
    | cons e es =>
      simp only [EL, List.map_cons, List.cons.injEq, Prod.mk.injEq] at he
      obtain ⟨⟨h1, h2⟩, h3⟩ := he
      simp only [Instr.findNow, h1, h]
      by_cases hk : k = p.1
      · left
        rw [decide_eq_true hk]
        exact ⟨0, e.val, rfl, by rw [hk, h2]; rfl⟩
      · rw [decide_eq_false hk]
        rcases ih es (n + 1) h3 with ⟨i, v, a, b⟩ | ⟨a, b⟩
        · left; exact ⟨i + 1, v, by show Instr.findNow d (kv k) es (n + 1) = _; rw [a, Nat.add_assoc, Nat.add_comm 1], by simpa using b⟩
        · right; exact ⟨a, fun q hq => by
            rcases List.mem_cons.1 hq with rfl | hq
            · exact fun e => hk e.symm
            · exact b q hq⟩
theorem findAsk_some (h : ∀ x y w, (Op.equal T (kv x) (kv y)).run P w = .ok (decide (x = y)) w) (k : K) (w : World) : ∀ (l : List (K × Value)) (es : List MapEntry) (n : Nat), EL kv es l →
    (∃ i v, (Instr.findAsking T (kv k) es n).run P w = .ok (some (n + i, v)) w ∧ l[i]? = some (k, v)) ∨ ((Instr.findAsking T (kv k) es n).run P w = .ok none w ∧ ∀ p ∈ l, p.1 ≠ k) := by
  intro l
  induction l with
  | nil => intro es n he; right; cases es with
    | nil => exact ⟨by simp [Instr.findAsking], fun p hp => by cases hp⟩
    | cons e es => simp [EL] at he
  | cons p l ih =>
    intro es n he
    cases es with
    | nil => simp [EL] at he
    | cons e es =>
      simp only [EL, List.map_cons, List.cons.injEq, Prod.mk.injEq] at he
      obtain ⟨⟨h1, h2⟩, h3⟩ := he
      by_cases hk : k = p.1
      · left
        refine ⟨0, e.val, ?_, by rw [hk, h2]; rfl⟩
        simp [Instr.findAsking, h1, h, hk]
      · rcases ih es (n + 1) h3 with ⟨i, v, a, b⟩ | ⟨a, b⟩
        · left; exact ⟨i + 1, v, by simp [Instr.findAsking, h1, h, hk, a, Nat.add_assoc, Nat.add_comm 1], by simpa using b⟩
        · right; exact ⟨by simp [Instr.findAsking, h1, h, hk, a], fun q hq => by
            rcases List.mem_cons.1 hq with rfl | hq
            · exact fun e => hk e.symm
            · exact b q hq⟩
theorem findNow_none {d : TypeDesc} (h : ∀ x y, Instr.sameNow d (kv x) (kv y) = none) (k : K) (l : List (K × Value)) (es : List MapEntry) (he : EL kv es l) : Instr.findNow d (kv k) es 0 = none ∨ (es = [] ∧ l = []) := by
  cases l with
  | nil => cases es with
    | nil => exact .inr ⟨rfl, rfl⟩
    | cons e es => simp [EL] at he
  | cons p l => cases es with
    | nil => simp [EL] at he
    | cons e es =>
      simp only [EL, List.map_cons, List.cons.injEq, Prod.mk.injEq] at he
      left
      simp [Instr.findNow, he.1.1, h]
theorem KeyF.find (hK : KeyF P T kv) (k : K) (w : World) (l : List (K × Value)) (es : List MapEntry) (he : EL kv es l) :
    (∃ i v, (Instr.findKey T (kv k) es).run P w = .ok (some (i, v)) w ∧ l[i]? = some (k, v)) ∨ ((Instr.findKey T (kv k) es).run P w = .ok none w ∧ ∀ p ∈ l, p.1 ≠ k) := by
  obtain ⟨d, hd, h | h⟩ := hK.now
  · rcases findNow_some h k l es 0 he with ⟨i, v, a, b⟩ | ⟨a, b⟩
    · left; exact ⟨i, v, by simp [Instr.findKey, run_underlying hd, a], b⟩
    · right; exact ⟨by simp [Instr.findKey, run_underlying hd, a], b⟩
  · rcases findNow_none h k l es he with a | ⟨rfl, rfl⟩
    · rcases findAsk_some hK.eq k w l es 0 he with ⟨i, v, c, b⟩ | ⟨c, b⟩
      · left; exact ⟨i, v, by simp [Instr.findKey, run_underlying hd, a, c], b⟩
      · right; exact ⟨by simp [Instr.findKey, run_underlying hd, a, c], b⟩
    · right; exact ⟨by simp [Instr.findKey, run_underlying hd, Instr.findNow], fun p hp => by cases hp⟩
end
/-! ### a map in a block of ours -/
section
variable {K : Type} [DecidableEq K]
structure MapAt (kv : K → Value) (b : Nat) (l : List (K × Value)) (es : Array MapEntry) (clock : Nat) (w : World) : Prop where
  heap : w.heap[b]? = some (.map es clock)
  el : EL kv es.toList l
  nd : (l.map Prod.fst).Nodup
  born : ∀ e ∈ es.toList, e.born < clock
  bnd : (es.toList.map (·.born)).Nodup
def mapO (kv : K → Value) (b : Nat) (l : List (K × Value)) (es : Array MapEntry) (clock : Nat) : OW := {
  ks := [b]
  ok := MapAt kv b l es clock
  stay := fun {w w'} h m => ⟨(h b (List.mem_singleton.2 rfl)).trans m.heap, m.el, m.nd, m.born, m.bnd⟩
  lt := fun {w} m k hkm => by
    rw [List.mem_singleton.1 hkm]
    exact (Array.getElem?_eq_some_iff.1 m.heap).1 }
/-- which entry was born as the n-th -/
def BornAt (l : List (K × Value)) (es : Array MapEntry) (k : K) (n : Nat) : Prop := ∃ (i : Nat) (e : MapEntry), es.toList[i]? = some e ∧ e.born = n ∧ ∃ v, l[i]? = some (k, v)
theorem EL.len {kv : K → Value} {es : List MapEntry} {l : List (K × Value)} (h : EL kv es l) : es.length = l.length := by
  have := congrArg List.length h
  simpa using this
theorem EL.set {kv : K → Value} {es : List MapEntry} {l : List (K × Value)} (h : EL kv es l) (i : Nat) (k : K) (v : Value) (f : MapEntry → MapEntry) (hf : ∀ e, es[i]? = some e → (f e).key = kv k ∧ (f e).val = v) :
    EL kv (es.modify i f) (l.set i (k, v)) := by
  unfold EL at h ⊢
  refine List.ext_getElem? fun j => ?_
  have hj := congrArg (·[j]?) h
  simp only [List.getElem?_map] at hj ⊢
  rw [List.getElem?_modify, List.getElem?_set]
  by_cases hij : i = j
  · subst hij
    rw [if_pos rfl]
    cases he : es[i]? with
    | none =>
      have : ¬ i < l.length := by
        rw [← EL.len h]
        exact fun hlt => by rw [List.getElem?_eq_getElem hlt] at he; cases he
      simp [this]
    | some e =>
      have : i < l.length := by
        rw [← EL.len h]
        exact (List.getElem?_eq_some_iff.1 he).1
      have h1 := hf e he
      simp [this, h1.1, h1.2]
  · rw [if_neg hij]
    simp only [if_neg hij]
    simpa using hj
theorem EL.push {kv : K → Value} {es : List MapEntry} {l : List (K × Value)} (h : EL kv es l) (k : K) (v : Value) (e : MapEntry) (h1 : e.key = kv k) (h2 : e.val = v) : EL kv (es ++ [e]) (l ++ [(k, v)]) := by
  unfold EL at h ⊢
  rw [List.map_append, List.map_append, h]
  simp [h1, h2]
theorem mod_born (es : List MapEntry) (i : Nat) (f : MapEntry → MapEntry) (hf : ∀ e, (f e).born = e.born) : (es.modify i f).map (·.born) = es.map (·.born) := by
  refine List.ext_getElem? fun j => ?_
  simp only [List.getElem?_map, List.getElem?_modify]
  by_cases hij : i = j
  · subst hij; cases es[i]? <;> simp [hf]
  · simp only [if_neg hij]; cases es[j]? <;> rfl
theorem MapAt.put {kv : K → Value} {b : Nat} {l : List (K × Value)} {es : Array MapEntry} {clock : Nat} {w w' : World} (m : MapAt kv b l es clock w) {i : Nat} {k : K} {v u : Value} (hi : l[i]? = some (k, u)) (f : MapEntry → MapEntry)
    (hf : ∀ e, es[i]? = some e → (f e).key = kv k ∧ (f e).val = v) (hb : ∀ e, (f e).born = e.born) (hw : w'.heap[b]? = some (.map (es.modify i f) clock)) : MapAt kv b (l.set i (k, v)) (es.modify i f) clock w' := by
  have hbm := mod_born es.toList i f hb
  refine ⟨hw, ?_, ?_, ?_, ?_⟩
  · rw [Array.toList_modify]
    exact m.el.set i k v f fun e he => hf e (by simpa using he)
  · have : (l.set i (k, v)).map Prod.fst = l.map Prod.fst := by
      rw [List.map_set]
      have h2 := List.getElem?_eq_some_iff.1 hi
      have h3 : k = (l.map Prod.fst)[i]'(by simpa using h2.1) := by simp [h2.2]
      show (l.map Prod.fst).set i k = _
      conv => lhs; rw [h3]
      rw [List.set_getElem_self]
    rw [this]; exact m.nd
  · rw [Array.toList_modify]
    intro e he
    have : e.born ∈ (es.toList.modify i f).map (·.born) := List.mem_map_of_mem he
    rw [hbm] at this
    obtain ⟨e', he', h⟩ := List.mem_map.1 this
    rw [← h]; exact m.born e' he'
  · rw [Array.toList_modify, hbm]; exact m.bnd
theorem MapAt.push {kv : K → Value} {b : Nat} {l : List (K × Value)} {es : Array MapEntry} {clock : Nat} {w w' : World} (m : MapAt kv b l es clock w) {k : K} {v : Value} (hk : ∀ p ∈ l, p.1 ≠ k) (hw : w'.heap[b]? = some (.map (es.push ⟨kv k, v, clock⟩) (clock + 1))) :
    MapAt kv b (l ++ [(k, v)]) (es.push ⟨kv k, v, clock⟩) (clock + 1) w' := by
  refine ⟨hw, ?_, ?_, ?_, ?_⟩
  · rw [Array.toList_push]; exact m.el.push k v _ rfl rfl
  · rw [List.map_append, List.nodup_append]
    refine ⟨m.nd, by simp, fun a ha c hc => ?_⟩
    simp at hc; subst hc
    obtain ⟨p, hp, rfl⟩ := List.mem_map.1 ha
    exact hk p hp
  · rw [Array.toList_push]
    intro e he
    rcases List.mem_append.1 he with h | h
    · have := m.born e h; omega
    · simp at h; subst h; simp
  · rw [Array.toList_push, List.map_append, List.nodup_append]
    refine ⟨m.bnd, by simp, fun a ha c hc => ?_⟩
    simp at hc; subst hc
    obtain ⟨e, he, rfl⟩ := List.mem_map.1 ha
    have := m.born e he
    omega
end
end Go.J
