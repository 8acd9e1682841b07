/- LV2: which parts sing; who is tired; how long in a row. No program in sight. -/
import Derived.Test.YtaidgomipefeiaaGreatDoorLC4
import Derived.Test.YtaidgomipefeiaaGreatDoorLM
namespace Go.G
open Go Go.J
set_option linter.unusedSimpArgs false
theorem when_spec (b : Bool) (n : Int) : m_gleelaw2_when b n = some (bif b then n else 0) := by cases b <;> rfl
def fst0 : List Int → Int
  | [] => 0
  | k :: t => if k = 0 then fst0 t else k
theorem errs_loop : ∀ (t : List Int) (i : Nat), ∃ f, rangeM m_gleelaw2_errs_l1 i t () = some f ∧ (Flow.fin f fun _ => some (0 : Int)) = some (fst0 t) := by
  intro t
  induction t with
  | nil => intro i; exact ⟨_, rfl, rfl⟩
  | cons k t ih =>
    intro i
    rw [rangeM_cons]
    unfold fst0
    by_cases h : k = 0
    · subst h
      rw [if_pos rfl]
      exact ih (i + 1)
    · rw [if_neg h]
      have : m_gleelaw2_errs_l1 i k () = some (.ret k) := by
        unfold m_gleelaw2_errs_l1
        rw [show (k != 0) = true by simpa using h]; rfl
      rw [this]
      exact ⟨_, rfl, rfl⟩
theorem errs_spec (t : List Int) : m_gleelaw2_errs t = some (fst0 t) := by
  obtain ⟨f, h1, h2⟩ := errs_loop t 0
  unfold m_gleelaw2_errs
  rw [h1]; exact h2
def memB (s : ByteArray) (a : List ByteArray) : Bool := a.any fun x => decide (x = s)
theorem memB_iff {s : ByteArray} {a : List ByteArray} : memB s a = true ↔ s ∈ a := by
  unfold memB
  simp only [List.any_eq_true, decide_eq_true_eq]
  exact ⟨fun ⟨x, h, e⟩ => e ▸ h, fun h => ⟨s, h, rfl⟩⟩
theorem memB_of {s : ByteArray} {a : List ByteArray} (h : s ∈ a) : memB s a = true := memB_iff.2 h
theorem memB_not {s : ByteArray} {a : List ByteArray} (h : ¬ s ∈ a) : memB s a = false := by rw [← Bool.not_eq_true, memB_iff]; exact h
theorem ContainsS_spec (a : List ByteArray) (s : ByteArray) : m_slices_Contains_string_string a s = some (memB s a) := by
  unfold m_slices_Contains_string_string m_slices_Index_string_string
  obtain ⟨f, h1, h2⟩ := rangeM_stop (m_slices_Index_string_string_l1 s) a (fun i _ => ∀ j x, j < i → a[j]? = some x → x ≠ s)
    (fun f => (Flow.fin f fun _ => some (-1 : Int)).bind (fun y => some (decide (y ≥ 0))) = some (memB s a)) (by
    intro i x u hx hI
    unfold m_slices_Index_string_string_l1
    by_cases he : s = x
    · have : (s.toList == x.toList) = true := by rw [he]; simp
      rw [this]
      refine ⟨_, rfl, fun _ e => (by cases e), fun _ e => (by cases e), fun v e => ?_⟩
      cases e
      rw [memB_of (show s ∈ a by rw [he]; exact List.mem_of_getElem? hx)]
      simp [Flow.fin]
    · have : (s.toList == x.toList) = false := by
        rw [beq_eq_false_iff_ne]
        exact fun h => he (ba_toList_inj.1 h)
      rw [this]
      refine ⟨_, rfl, fun s' _ j y hj hy => ?_, fun _ e => (by cases e), fun _ e => (by cases e)⟩
      rcases Nat.lt_succ_iff_lt_or_eq.1 hj with h | rfl
      · exact hI j y h hy
      · rw [hx] at hy; cases hy; exact fun h => he h.symm) (fun u hI => by
    have : ¬ s ∈ a := fun h => by
      obtain ⟨j, hj, e⟩ := List.getElem_of_mem h
      exact hI j s hj (by rw [List.getElem?_eq_getElem hj, e]) rfl
    rw [memB_not this]; rfl) () (fun j x hj => by omega)
  rw [h1, Option.bind_some]
  exact h2
/-! ### all parts -/
noncomputable def names (l : List TItem) : List Bs := Lib.compact (((l.flatMap (·.Parts)).map bytesOf).mergeSort fun x y => decide (x ≤ y))
theorem names_lt (l : List TItem) : (names l).Pairwise fun x y => x < y := compact_lt (sortS_le _)
theorem mem_names {l : List TItem} {x : Bs} : x ∈ names l ↔ x ∈ (l.flatMap (·.Parts)).map bytesOf := by
  unfold names
  rw [mem_compactS, List.mem_mergeSort]
theorem of_bytes (l : List Bs) : (l.map ofBytes).map bytesOf = l := by
  rw [List.map_map]
  exact (List.map_congr_left fun x _ => rfl).trans (List.map_id _)
theorem bytes_inj {a b : ByteArray} (h : bytesOf a = bytesOf b) : a = b := by
  have : ofBytes (bytesOf a) = ofBytes (bytesOf b) := by rw [h]
  exact this
theorem partsIn_spec (l : List TItem) (hl : l.length ≤ 60) (hp : ∀ x ∈ l, x.Parts.length ≤ 12) : m_gleeref2_partsIn l = some ((names l).map ofBytes) := by
  obtain ⟨u, h1, h2, h3⟩ := rangeM_invx m_gleeref2_partsIn_l1 l (fun i u => u = (l.take i).flatMap (·.Parts) ∧ u.length ≤ 12 * i) (by
    rintro i x u hx ⟨rfl, hu⟩
    have hi := (List.getElem?_eq_some_iff.1 hx).1
    have hpx := hp x (List.mem_of_getElem? hx)
    unfold m_gleeref2_partsIn_l1
    rw [appM_of (by omega) (by omega), Option.bind_some]
    refine ⟨_, rfl, ?_, by simp only [List.length_append]; omega⟩
    rw [List.take_add_one, hx]; simp) [] ⟨by simp, by simp⟩
  rw [List.take_length] at h2
  unfold m_gleeref2_partsIn
  rw [h1]
  have hu : u.length ≤ 720 := by omega
  have hsrt : m_slices_Sort_string_string u = some (((u.map bytesOf).mergeSort fun x y => decide (x ≤ y)).map ofBytes) := by
    unfold m_slices_Sort_string_string; rw [if_pos (by omega)]
  show (m_slices_Sort_string_string u).bind _ = _
  rw [hsrt, Option.bind_some]
  unfold m_slices_Compact_string_string
  rw [if_pos (by simp; omega), of_bytes]
  subst h2
  rfl
/-- a map whose keys are just these -/
structure KeysOf {V : Type} (m : List (ByteArray × V)) (l : List ByteArray) : Prop where
  nd : (m.map Prod.fst).Nodup
  mem : ∀ s, s ∈ m.map Prod.fst ↔ s ∈ l
theorem keys_put {V : Type} {m : List (ByteArray × V)} {l : List ByteArray} (h : KeysOf m l) (k : ByteArray) (v : V) : KeysOf (putM m k v) (l ++ [k]) := by
  have hk := putM_keys m k v
  by_cases hh : hasM m k = true
  · rw [if_pos hh] at hk
    have hm : k ∈ l := (h.mem k).1 ((hasM_iff m k).1 hh)
    refine ⟨by rw [hk]; exact h.nd, fun s => ?_⟩
    rw [hk, h.mem s, List.mem_append, List.mem_singleton]
    exact ⟨.inl, fun h => h.elim id fun e => e ▸ hm⟩
  · rw [if_neg hh] at hk
    have hm : ¬ k ∈ m.map Prod.fst := fun h => hh ((hasM_iff m k).2 h)
    refine ⟨?_, fun s => ?_⟩
    · rw [hk, List.nodup_append]
      exact ⟨h.nd, by simp, fun a ha b hb => by simp at hb; subst hb; exact fun e => hm (e ▸ ha)⟩
    · rw [hk, List.mem_append, List.mem_append, h.mem s]
theorem keys_len {V : Type} {m : List (ByteArray × V)} {l : List ByteArray} (h : KeysOf m l) : m.length ≤ l.length := by
  have := List.Nodup.length_le_of_subset h.nd (l₂ := l) fun s hs => (h.mem s).1 hs
  simpa using this
theorem partsOf_spec {p : TProgram} (hp : ProgOK p) : m_concert_partsOf p = some ((names p.Items).map ofBytes) := by
  have hl := hp.len
  have hpar : ∀ x ∈ p.Items, x.Parts.length ≤ 12 := fun x hx => by
    obtain ⟨i, hi, rfl⟩ := List.getElem_of_mem hx
    exact (hp.item i _ (List.getElem?_eq_getElem hi)).parts
  have inner : ∀ (q : List ByteArray) (i : Nat) (m : List (ByteArray × Bool)) (l : List ByteArray), KeysOf m l → ∃ m', rangeM m_concert_partsOf_l2 i q m = some (.brk m') ∧ KeysOf m' (l ++ q) := by
    intro q
    induction q with
    | nil => intro i m l h; exact ⟨m, rfl, by simpa using h⟩
    | cons k q ih =>
      intro i m l h
      obtain ⟨m', h1, h2⟩ := ih (i + 1) _ _ (keys_put h k true)
      exact ⟨m', by rw [rangeM_cons]; exact h1, by simpa using h2⟩
  obtain ⟨m, h1, h2, h3⟩ := rangeM_invx m_concert_partsOf_l1 p.Items (fun i m => KeysOf m ((p.Items.take i).flatMap (·.Parts)) ∧ ((p.Items.take i).flatMap (·.Parts)).length ≤ 12 * i) (by
    rintro i x m hx ⟨hk, hlen⟩
    have hpx := hpar x (List.mem_of_getElem? hx)
    obtain ⟨m', e1, e2⟩ := inner x.Parts 0 m _ hk
    have e3 : (p.Items.take (i + 1)).flatMap (·.Parts) = (p.Items.take i).flatMap (·.Parts) ++ x.Parts := by rw [List.take_add_one, hx]; simp
    unfold m_concert_partsOf_l1
    rw [e1]
    exact ⟨m', rfl, by rw [e3]; exact e2, by rw [e3, List.length_append]; omega⟩) [] ⟨⟨by simp, by simp⟩, by simp⟩
  rw [List.take_length] at h2 h3
  have hml := keys_len h2
  unfold m_concert_partsOf
  rw [h1]
  show (m_slices_Sorted_string__maps_Keys_map_string_bool_string_bool_1 m).bind _ = _
  unfold m_slices_Sorted_string__maps_Keys_map_string_bool_string_bool_1 m_slices_Sort_string_string
  rw [if_pos (by omega), if_pos (by simp; omega)]
  have hnd : ((m.map Prod.fst).map bytesOf).Nodup := by
    rw [List.nodup_iff_pairwise_ne, List.pairwise_map]
    exact (List.nodup_iff_pairwise_ne.1 h2.nd).imp fun h e => h (bytes_inj e)
  have : (((m.map Prod.fst).map bytesOf).mergeSort fun x y => decide (x ≤ y)) = names p.Items := rise_eq (sort_lt hnd) (names_lt _) fun x => by
    rw [List.mem_mergeSort, mem_names, List.mem_map, List.mem_map]
    constructor
    · rintro ⟨s, hs, e⟩; exact ⟨s, (h2.mem s).1 hs, e⟩
    · rintro ⟨s, hs, e⟩; exact ⟨s, (h2.mem s).2 hs, e⟩
  rw [this]; rfl
theorem names_len {p : TProgram} (hp : ProgOK p) : (names p.Items).length ≤ 720 := by
  have hl := hp.len
  have hpar : ∀ x ∈ p.Items, x.Parts.length ≤ 12 := fun x hx => by
    obtain ⟨i, hi, rfl⟩ := List.getElem_of_mem hx
    exact (hp.item i _ (List.getElem?_eq_getElem hi)).parts
  unfold names
  refine Nat.le_trans (compactS_le _) ?_
  rw [List.length_mergeSort, List.length_map]
  have : ∀ l : List TItem, (∀ x ∈ l, x.Parts.length ≤ 12) → (l.flatMap (·.Parts)).length ≤ 12 * l.length := by
    intro l
    induction l with
    | nil => intro _; simp
    | cons x l ih =>
      intro h
      have h1 := h x (List.mem_cons_self ..)
      have h2 := ih fun y hy => h y (List.mem_cons_of_mem _ hy)
      simp only [List.flatMap_cons, List.length_append, List.length_cons]
      omega
  have := this p.Items hpar
  omega
/-! ### tired -/
theorem tired_loop {p : TProgram} (hp : ProgOK p) (s : ByteArray) (most rest : Int) : ∀ (t : List TItem) (i : Nat) (row e : Int) (out : List TPair), p.Items.drop i = t → out.length ≤ 100000 →
    (∃ r e', rangeM (m_concert_tiredIn_l1 s most rest ((List.range p.Items.length).map (bg p), bg p p.Items.length)) i t (row, e) = some (.brk (r, e')) ∧
        rangeM (m_gleeref2_TiredIn_l2 most rest ((List.range p.Items.length).map (tm p 0)) s) i t (row, e, out) = some (.brk (r, e', out))) ∨
    ∃ (j : Nat) (x : TItem), p.Items[j]? = some x ∧ rangeM (m_concert_tiredIn_l1 s most rest ((List.range p.Items.length).map (bg p), bg p p.Items.length)) i t (row, e) = some (.ret (j : Int)) ∧
        ∃ r e', rangeM (m_gleeref2_TiredIn_l2 most rest ((List.range p.Items.length).map (tm p 0)) s) i t (row, e, out) = some (.brk (r, e', out ++ [⟨s, x.Key⟩])) := by
  intro t
  induction t with
  | nil => intro i row e out _ _; exact .inl ⟨row, e, rfl, rfl⟩
  | cons x t ih =>
    intro i row e out hd ho
    have hx : p.Items[i]? = some x := by
      have : (p.Items.drop i)[0]? = some x := by rw [hd]; rfl
      simpa using this
    have hd' : p.Items.drop (i + 1) = t := by rw [← List.drop_drop, hd]; rfl
    have hi := (List.getElem?_eq_some_iff.1 hx).1
    have hl := hp.len
    have hbg := bg_rng hp i; have hlo := longI_rng hp i
    rw [longI_of hx] at hlo
    have g1 : getI ((List.range p.Items.length).map (bg p)) (i : Int) = some (bg p i) := getI_of rfl (by simp [hi])
    have g2 : getI ((List.range p.Items.length).map (tm p 0)) (i : Int) = some (tm p 0 i) := getI_of rfl (by simp [hi])
    have f1 : (tm p 0 i).Time.From = bg p i := by show (0 : Int) + bg p i = _; omega
    have f2 : (tm p 0 i).Time.To = w64 (bg p i + x.Long) := by
      show (0 : Int) + bg p i + longI p i = _
      rw [longI_of hx, w64_id (by omega)]; omega
    have hA : m_concert_tiredIn_l1 s most rest ((List.range p.Items.length).map (bg p), bg p p.Items.length) i x (row, e) =
        some (bif !memB s x.Parts then .nxt (row, e) else bif decide (w64 ((bif decide (w64 (bg p i - e) ≥ rest) then 0 else row) + x.Long) > most) then .ret (i : Int) else .nxt (w64 ((bif decide (w64 (bg p i - e) ≥ rest) then 0 else row) + x.Long), w64 (bg p i + x.Long))) := by
      unfold m_concert_tiredIn_l1
      simp only [ContainsS_spec, Option.bind_some, g1]
      cases memB s x.Parts
      · rfl
      · cases decide (w64 (bg p i - e) ≥ rest)
        · simp only [Bool.not_true, ifB_false, Option.bind_some, fin_inl, cond_false]
          cases decide (w64 (row + x.Long) > most) <;> rfl
        · simp only [Bool.not_true, ifB_false, ifB_true, Option.bind_some, fin_inl, cond_false, cond_true]
          cases decide (w64 (0 + x.Long) > most) <;> rfl
    have hB : m_gleeref2_TiredIn_l2 most rest ((List.range p.Items.length).map (tm p 0)) s i x (row, e, out) =
        some (bif !memB s x.Parts then .nxt (row, e, out) else bif decide (w64 ((bif decide (w64 (bg p i - e) ≥ rest) then 0 else row) + x.Long) > most) then .brk (w64 ((bif decide (w64 (bg p i - e) ≥ rest) then 0 else row) + x.Long), w64 (bg p i + x.Long), out ++ [⟨s, x.Key⟩]) else .nxt (w64 ((bif decide (w64 (bg p i - e) ≥ rest) then 0 else row) + x.Long), w64 (bg p i + x.Long), out)) := by
      unfold m_gleeref2_TiredIn_l2
      simp only [ContainsS_spec, Option.bind_some, g2, f1, f2]
      cases memB s x.Parts
      · rfl
      · cases decide (w64 (bg p i - e) ≥ rest)
        · simp only [Bool.not_true, ifB_false, Option.bind_some, fin_inl, cond_false]
          cases decide (w64 (row + x.Long) > most)
          · rfl
          · simp only [ifB_true]
            rw [appM_of (by simp; omega) (by omega)]; rfl
        · simp only [Bool.not_true, ifB_false, ifB_true, Option.bind_some, fin_inl, cond_false, cond_true]
          cases decide (w64 (0 + x.Long) > most)
          · rfl
          · simp only [ifB_true]
            rw [appM_of (by simp; omega) (by omega)]; rfl
    rw [rangeM_cons, rangeM_cons, hA, hB]
    generalize (bif decide (w64 (bg p i - e) ≥ rest) then 0 else row) = rw0
    cases memB s x.Parts with
    | false => exact ih (i + 1) row e out hd' ho
    | true =>
      cases decide (w64 (rw0 + x.Long) > most) with
      | false => exact ih (i + 1) (w64 (rw0 + x.Long)) (w64 (bg p i + x.Long)) out hd' ho
      | true => exact .inr ⟨i, x, hx, rfl, _, _, rfl⟩
theorem Tired_spec {p : TProgram} (hp : ProgOK p) (most rest : Int) : ∃ u, rangeM (m_concert_Tired_l1 p most rest) 0 ((names p.Items).map ofBytes) [] = some (.brk u) ∧ m_gleeref2_TiredIn p most rest = some u := by
  have hnl := names_len hp
  obtain ⟨u, v, h1, h2, rfl, -⟩ := rangeM_rel2 (m_concert_Tired_l1 p most rest) (m_gleeref2_TiredIn_l1 p most rest ((List.range p.Items.length).map (tm p 0))) ((names p.Items).map ofBytes) (fun i u v => u = v ∧ u.length ≤ i) (by
    rintro i s u _ hx ⟨rfl, hu⟩
    have hi := (List.getElem?_eq_some_iff.1 hx).1
    rw [List.length_map] at hi
    unfold m_concert_Tired_l1 m_gleeref2_TiredIn_l1 m_concert_tiredIn
    rw [begins_spec hp, Option.bind_some]
    rcases tired_loop hp s most rest p.Items 0 0 0 u rfl (by omega) with ⟨r, e', a1, a2⟩ | ⟨j, x, hj, a1, r, e', a2⟩
    · rw [a1, a2]
      exact ⟨u, u, rfl, rfl, rfl, by omega⟩
    · rw [a1, a2]
      simp only [Option.bind_some, Flow.fin]
      rw [decide_eq_true (show (j : Int) ≥ 0 by omega), ifB_true, getI_of rfl hj, Option.bind_some, appM_of (by simp; omega) (by omega)]
      exact ⟨_, _, rfl, rfl, rfl, by simp; omega⟩) [] [] ⟨rfl, by simp⟩
  refine ⟨u, h1, ?_⟩
  have hl := hp.len
  unfold m_gleeref2_TiredIn
  rw [TimedOf_spec hp (by omega) (by omega), Option.bind_some, partsIn_spec p.Items hl (fun x hx => by
    obtain ⟨i, hi, rfl⟩ := List.getElem_of_mem hx
    exact (hp.item i _ (List.getElem?_eq_getElem hi)).parts), Option.bind_some, h2]
  rfl
/-! ### in a row -/
theorem Longest_spec {p : TProgram} (hl : p.Items.length ≤ 60) (s : ByteArray) : ∃ b r, rangeM (m_concert_Longest_l1 p s) 0 p.Items (0, 0) = some (.brk (b, r)) ∧ m_gleeref2_LongestOf p s = some b := by
  obtain ⟨⟨b, r⟩, ⟨r2, b2⟩, h1, h2, h3, -, -⟩ := rangeM_rel2 (m_concert_Longest_l1 p s) (m_gleeref2_LongestOf_l1 p s) p.Items
    (fun i u v => u.1 = v.2 ∧ 0 ≤ u.1 ∧ v.1 = if 0 < i ∧ (i : Int) - 1 = p.Half then 0 else u.2) (by
    rintro i x ⟨b, r⟩ ⟨r2, b2⟩ hx ⟨h1, h2, h3⟩
    simp only at h1 h2 h3
    subst h1
    have hi := (List.getElem?_eq_some_iff.1 hx).1
    unfold m_concert_Longest_l1 m_gleeref2_LongestOf_l1
    simp only [ContainsS_spec, Option.bind_some]
    have hcond : (0 < i + 1 ∧ ((i + 1 : Nat) : Int) - 1 = p.Half) ↔ (i : Int) = p.Half := by constructor <;> (intro h; omega)
    cases memB s x.Parts with
    | false =>
      simp only [Bool.not_false, ifB_true, ifB_false, Option.bind_some, fin_inl]
      rw [show max b 0 = b by omega]
      by_cases hh : (i : Int) = p.Half
      · rw [show ((i : Int) == p.Half) = true by simpa using hh]
        exact ⟨_, _, rfl, rfl, rfl, h2, by simp⟩
      · rw [show ((i : Int) == p.Half) = false by simpa using hh]
        exact ⟨_, _, rfl, rfl, rfl, h2, by simp⟩
    | true =>
      simp only [Bool.not_true, ifB_true, ifB_false, Option.bind_some, fin_inl]
      have ha : ∀ (K : Int → Option (Flow (Int × Int) (Int × Int))), ((ifB (decide ((i : Int) > 0)) (some (.inl ((w64 ((i : Int) - 1)) == p.Half))) (some (.inl false)) : Option (Bool ⊕ (Flow (Int × Int) (Int × Int)))).bind fun k15 => Sum.fin k15 fun u13 => (ifB u13 (some (.inl 0)) (some (.inl r)) : Option (Int ⊕ (Flow (Int × Int) (Int × Int)))).bind fun k18 => Sum.fin k18 K) = K r2 := by
        intro K
        rw [w64_id (by omega)]
        by_cases h0 : (i : Int) > 0
        · rw [decide_eq_true h0, ifB_true, Option.bind_some, fin_inl]
          by_cases hh : (i : Int) - 1 = p.Half
          · rw [show ((i : Int) - 1 == p.Half) = true by simpa using hh, h3, if_pos ⟨by omega, hh⟩]; rfl
          · rw [show ((i : Int) - 1 == p.Half) = false by simpa using hh, h3, if_neg (fun h => hh h.2)]; rfl
        · rw [decide_eq_false h0, h3, if_neg (fun h => h0 (by omega))]; rfl
      rw [ha]
      by_cases hh : (i : Int) = p.Half
      · rw [show ((i : Int) == p.Half) = true by simpa using hh]
        exact ⟨_, _, rfl, rfl, rfl, by simp only; omega, by simp only; rw [if_pos (hcond.2 hh)]⟩
      · rw [show ((i : Int) == p.Half) = false by simpa using hh]
        exact ⟨_, _, rfl, rfl, rfl, by simp only; omega, by simp only; rw [if_neg (fun h => hh (hcond.1 h))]⟩) (0, 0) (0, 0) ⟨rfl, by simp, by simp⟩
  simp only at h3
  subst h3
  refine ⟨b, r, h1, ?_⟩
  unfold m_gleeref2_LongestOf
  rw [h2]; rfl
end Go.G
