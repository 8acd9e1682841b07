/- LV4: which parts sing; who is tired; how long each part sings. In plain Lean, no program in sight. -/
import Derived.Test.YtdeoejkgmeemaadGreatDoorLE0
import Derived.Test.YtdeoejkgmeemaadGreatDoorLM
import Derived.Test.YtdeoejkgmeemaadGreatDoorLS2
namespace Go.G
open Go Go.J
set_option linter.unusedSimpArgs false
noncomputable def names (l : List TItem) : List Bs := Lib.compact (((l.flatMap (·.Parts)).map bytesOf).mergeSort fun x y => decide (x ≤ y))
theorem names_lt (l : List TItem) : (names l).Pairwise fun x y => x < y := compact_lt (sortS_le _)
theorem mem_names {l : List TItem} {x : Bs} : x ∈ names l ↔ x ∈ (l.flatMap (·.Parts)).map bytesOf := by
  unfold names
  rw [mem_compactS, List.mem_mergeSort]
theorem of_bytes (l : List Bs) : (l.map ofBytes).map bytesOf = l := by
  rw [List.map_map]
  exact (List.map_congr_left fun x _ => rfl).trans (List.map_id _)
theorem bytes_inj {a b : ByteArray} (h : bytesOf a = bytesOf b) : a = b := by
  have : ofBytes (bytesOf a) = ofBytes (bytesOf b) := by rw [h]
  exact this
structure KeysOf {V : Type} (m : List (ByteArray × V)) (l : List ByteArray) : Prop where
  nd : (m.map Prod.fst).Nodup
  mem : ∀ s, s ∈ m.map Prod.fst ↔ s ∈ l
theorem keys_put {V : Type} {m : List (ByteArray × V)} {l : List ByteArray} (h : KeysOf m l) (k : ByteArray) (v : V) : KeysOf (putM m k v) (l ++ [k]) := by
  have hk := putM_keys m k v
  by_cases hh : hasM m k = true
  · rw [if_pos hh] at hk
    have hm : k ∈ l := (h.mem k).1 ((hasM_iff m k).1 hh)
    refine ⟨by rw [hk]; exact h.nd, fun s => ?_⟩
    rw [hk, h.mem s, List.mem_append, List.mem_singleton]
    exact ⟨.inl, fun h => h.elim id fun e => e ▸ hm⟩
  · rw [if_neg hh] at hk
    have hm : ¬ k ∈ m.map Prod.fst := fun h => hh ((hasM_iff m k).2 h)
    refine ⟨?_, fun s => ?_⟩
    · rw [hk, List.nodup_append]
      exact ⟨h.nd, by simp, fun a ha b hb => by simp at hb; subst hb; exact fun e => hm (e ▸ ha)⟩
    · rw [hk, List.mem_append, List.mem_append, h.mem s]
theorem keys_len {V : Type} {m : List (ByteArray × V)} {l : List ByteArray} (h : KeysOf m l) : m.length ≤ l.length := by
  have := List.Nodup.length_le_of_subset h.nd (l₂ := l) fun s hs => (h.mem s).1 hs
  simpa using this
theorem partsOf_spec {p : TProgram} (hp : ProgOK p) : m_concert_partsOf p = some ((names p.Items).map ofBytes) := by
  have hl := hp.len
  have hpar : ∀ x ∈ p.Items, x.Parts.length ≤ 12 := fun x hx => by
    obtain ⟨i, hi, rfl⟩ := List.getElem_of_mem hx
    exact (hp.item i _ (List.getElem?_eq_getElem hi)).parts
  have inner : ∀ (q : List ByteArray) (i : Nat) (m : List (ByteArray × Bool)) (l : List ByteArray), KeysOf m l → ∃ m', rangeM m_concert_partsOf_l2 i q m = some (.brk m') ∧ KeysOf m' (l ++ q) := by
    intro q
    induction q with
    | nil => intro i m l h; exact ⟨m, rfl, by simpa using h⟩
    | cons k q ih =>
      intro i m l h
      obtain ⟨m', h1, h2⟩ := ih (i + 1) _ _ (keys_put h k true)
      exact ⟨m', by rw [rangeM_cons]; exact h1, by simpa using h2⟩
  obtain ⟨m, h1, h2, h3⟩ := rangeM_invx m_concert_partsOf_l1 p.Items (fun i m => KeysOf m ((p.Items.take i).flatMap (·.Parts)) ∧ ((p.Items.take i).flatMap (·.Parts)).length ≤ 12 * i) (by
    rintro i x m hx ⟨hk, hlen⟩
    have hpx := hpar x (List.mem_of_getElem? hx)
    obtain ⟨m', e1, e2⟩ := inner x.Parts 0 m _ hk
    have e3 : (p.Items.take (i + 1)).flatMap (·.Parts) = (p.Items.take i).flatMap (·.Parts) ++ x.Parts := by rw [List.take_add_one, hx]; simp
    unfold m_concert_partsOf_l1
    rw [e1]
    exact ⟨m', rfl, by rw [e3]; exact e2, by rw [e3, List.length_append]; omega⟩) [] ⟨⟨by simp, by simp⟩, by simp⟩
  rw [List.take_length] at h2 h3
  have hml := keys_len h2
  unfold m_concert_partsOf
  rw [h1]
  show (m_slices_Sorted_string__maps_Keys_map_string_bool_string_bool_1 m).bind _ = _
  unfold m_slices_Sorted_string__maps_Keys_map_string_bool_string_bool_1 m_slices_Sort_string_string
  rw [if_pos (by omega), if_pos (by simp; omega)]
  have hnd : ((m.map Prod.fst).map bytesOf).Nodup := by
    rw [List.nodup_iff_pairwise_ne, List.pairwise_map]
    exact (List.nodup_iff_pairwise_ne.1 h2.nd).imp fun h e => h (bytes_inj e)
  have : (((m.map Prod.fst).map bytesOf).mergeSort fun x y => decide (x ≤ y)) = names p.Items := rise_eq (sort_lt hnd) (names_lt _) fun x => by
    rw [List.mem_mergeSort, mem_names, List.mem_map, List.mem_map]
    constructor
    · rintro ⟨s, hs, e⟩; exact ⟨s, (h2.mem s).1 hs, e⟩
    · rintro ⟨s, hs, e⟩; exact ⟨s, (h2.mem s).2 hs, e⟩
  rw [this]; rfl
theorem names_len {p : TProgram} (hp : ProgOK p) : (names p.Items).length ≤ 720 := by
  have hl := hp.len
  have hpar : ∀ x ∈ p.Items, x.Parts.length ≤ 12 := fun x hx => by
    obtain ⟨i, hi, rfl⟩ := List.getElem_of_mem hx
    exact (hp.item i _ (List.getElem?_eq_getElem hi)).parts
  unfold names
  refine Nat.le_trans (compactS_le _) ?_
  rw [List.length_mergeSort, List.length_map]
  have : ∀ l : List TItem, (∀ x ∈ l, x.Parts.length ≤ 12) → (l.flatMap (·.Parts)).length ≤ 12 * l.length := by
    intro l
    induction l with
    | nil => intro _; simp
    | cons x l ih =>
      intro h
      have h1 := h x (List.mem_cons_self ..)
      have h2 := ih fun y hy => h y (List.mem_cons_of_mem _ hy)
      simp only [List.flatMap_cons, List.length_append, List.length_cons]
      omega
  have := this p.Items hpar
  omega
theorem insS (u : List Tconcert_sung) (a b : Int) : m_slices_insertionSortCmpFunc_concert_sung__concert_Sung_1 u a b = isM m_concert_Sung_1 u a b := rfl
theorem wrap_len {n : Nat} (h : n ≤ 1000) : IntKind.wrap .u64 (n : Int) = n := by rw [IntKind.wrap_u64]; omega
theorem sortS_spec (u : List Tconcert_sung) (h : u.length ≤ 12) : m_slices_SortFunc_concert_sung_concert_sung__concert_Sung_1 u = isM m_concert_Sung_1 u 0 (u.length : Int) := by
  unfold m_slices_SortFunc_concert_sung_concert_sung__concert_Sung_1 m_bits_Len m_bits_Len64
  rw [wrap_len (by omega), if_pos (by omega)]
  simp only [Option.bind_some]
  unfold m_slices_pdqsortCmpFunc_concert_sung__concert_Sung_1
  cases hs : isM m_concert_Sung_1 u 0 (u.length : Int) with
  | none =>
    exfalso
    have hc : ∀ x ∈ u, ∀ y ∈ u, ∃ c, m_concert_Sung_1 x y = some c := fun x _ y _ => by
      unfold m_concert_Sung_1 m_cmp_Compare_int m_cmp_isNaN_int m_strings_Compare
      simp only [bne_self_eq_false, Option.bind_some, ifB_false]
      have : ∀ (c : Int), ∃ d, (m_cmp_Or_int [c, Lib.compareBytes x.part.data.toList y.part.data.toList]) = some d := fun c => by
        unfold m_cmp_Or_int
        rw [rangeM_cons]
        unfold m_cmp_Or_int_l1
        cases (c != 0) with
        | true => exact ⟨_, rfl⟩
        | false =>
          rw [ifB_false, Option.bind_some, run_nxt, rangeM_cons]
          cases (Lib.compareBytes x.part.data.toList y.part.data.toList != 0)
          · exact ⟨_, rfl⟩
          · exact ⟨_, rfl⟩
      cases decide (y.long_ < x.long_)
      · cases decide (y.long_ > x.long_)
        · obtain ⟨d, hd⟩ := this 0; exact ⟨d, by simp only [ifB_false, Option.bind_some, hd]⟩
        · obtain ⟨d, hd⟩ := this 1; exact ⟨d, by simp only [ifB_false, ifB_true, Option.bind_some, hd]⟩
      · obtain ⟨d, hd⟩ := this (-1); exact ⟨d, by simp only [ifB_true, Option.bind_some, hd]⟩
    obtain ⟨m, hm, -⟩ := isM_total m_concert_Sung_1 u (by omega) hc
    rw [hm] at hs; cases hs
  | some m =>
    have h1 : ∀ k, m_slices_pdqsortCmpFunc_concert_sung__concert_Sung_1_l1 u 0 (u.length : Int) k () = some (.ret m) := fun k => by
      unfold m_slices_pdqsortCmpFunc_concert_sung__concert_Sung_1_l1
      rw [w64_id (by omega), decide_eq_true (by omega), ifB_true, insS, hs]; rfl
    rw [loopM_step (h1 _)]; rfl
def RS (a b : Tconcert_sung) : Prop := b.long_ < a.long_ ∨ (b.long_ = a.long_ ∧ bytesOf a.part < bytesOf b.part)
def ltS (a b : Tconcert_sung) : Bool := decide (b.long_ < a.long_) || (decide (b.long_ = a.long_) && decide (Lib.compareBytes (bytesOf a.part) (bytesOf b.part) = -1))
theorem cb_neg {a b : Bs} : Lib.compareBytes a b = -1 ↔ a < b := by
  rcases cb_spec a b with ⟨h1, h2⟩ | ⟨h1, h2⟩ | ⟨h1, h2⟩
  · exact ⟨fun _ => h2, fun _ => h1⟩
  · rw [h1]; exact ⟨fun h => by omega, fun h => (bs_irr _ (h2 ▸ h)).elim⟩
  · rw [h1]; exact ⟨fun h => by omega, fun h => (bs_asym h h2).elim⟩
theorem ltS_iff {a b : Tconcert_sung} : ltS a b = true ↔ RS a b := by
  unfold ltS RS
  rw [Bool.or_eq_true, Bool.and_eq_true, decide_eq_true_eq, decide_eq_true_eq, decide_eq_true_eq, cb_neg]
theorem RS_trans (a b c : Tconcert_sung) (h1 : RS a b) (h2 : RS b c) : RS a c := by
  unfold RS at *
  rcases h1 with h1 | ⟨h1, h3⟩
  · rcases h2 with h2 | ⟨h2, h4⟩
    · left; omega
    · left; omega
  · rcases h2 with h2 | ⟨h2, h4⟩
    · left; omega
    · right; exact ⟨by omega, bs_trans h3 h4⟩
theorem RS_tri (a b : Tconcert_sung) (h : a.part ≠ b.part) : RS a b ∨ RS b a := by
  unfold RS
  rcases Int.lt_trichotomy a.long_ b.long_ with h1 | h1 | h1
  · right; left; exact h1
  · rcases bs_tri (bytesOf a.part) (bytesOf b.part) with h2 | h2 | h2
    · left; right; exact ⟨h1.symm, h2⟩
    · exact (h (bytes_inj h2)).elim
    · right; right; exact ⟨h1, h2⟩
  · left; left; exact h1
theorem cmpSung_spec (a b : Tconcert_sung) : ∃ c, m_concert_Sung_1 a b = some c ∧ decide (c < 0) = ltS a b := by
  unfold m_concert_Sung_1 m_cmp_Compare_int m_cmp_isNaN_int m_strings_Compare
  simp only [bne_self_eq_false, Option.bind_some, ifB_false]
  have hor : ∀ (c d : Int), m_cmp_Or_int [c, d] = some (if c ≠ 0 then c else d) := fun c d => by
    unfold m_cmp_Or_int
    rw [rangeM_cons]
    unfold m_cmp_Or_int_l1
    by_cases h : c = 0
    · subst h
      rw [show ((0 : Int) != 0) = false from rfl, ifB_false, Option.bind_some, run_nxt, rangeM_cons]
      by_cases h2 : d = 0
      · subst h2; rfl
      · rw [show (d != 0) = true by simpa using h2]; rfl
    · rw [show (c != 0) = true by simpa using h, if_pos h]; rfl
  have hcb : Lib.compareBytes a.part.data.toList b.part.data.toList = Lib.compareBytes (bytesOf a.part) (bytesOf b.part) := rfl
  unfold ltS
  by_cases h1 : b.long_ < a.long_
  · simp only [decide_eq_true h1, ifB_true, Option.bind_some, hor, Bool.true_or]
    exact ⟨_, rfl, by rw [if_pos (by decide)]; decide⟩
  · by_cases h2 : b.long_ > a.long_
    · simp only [decide_eq_false h1, decide_eq_true h2, ifB_true, ifB_false, Option.bind_some, hor, Bool.false_or]
      refine ⟨_, rfl, ?_⟩
      rw [decide_eq_false (show ¬ b.long_ = a.long_ by omega)]; rfl
    · simp only [decide_eq_false h1, decide_eq_false h2, ifB_false, Option.bind_some, hor, Bool.false_or]
      refine ⟨_, rfl, ?_⟩
      rw [decide_eq_true (show b.long_ = a.long_ by omega), Bool.true_and, hcb, if_neg (by simp)]
      rcases cb_spec (bytesOf a.part) (bytesOf b.part) with ⟨h3, -⟩ | ⟨h3, -⟩ | ⟨h3, -⟩ <;> rw [h3] <;> rfl
structure Cnt (m : List (ByteArray × Int)) (l : List ByteArray) (n : Nat) : Prop where
  keys : KeysOf m l
  rng : ∀ k v, lkM m k = some v → 0 ≤ v ∧ v ≤ 86400000 * n
theorem Cnt.get {m : List (ByteArray × Int)} {l : List ByteArray} {n : Nat} (h : Cnt m l n) (k : ByteArray) : 0 ≤ (lkM m k).getD 0 ∧ (lkM m k).getD 0 ≤ 86400000 * n := by
  cases hk : lkM m k with
  | none => exact ⟨Int.le_refl _, by show (0 : Int) ≤ _; omega⟩
  | some v => exact h.rng k v hk
theorem Cnt.put {m : List (ByteArray × Int)} {l : List ByteArray} {n : Nat} (h : Cnt m l n) (hn : n ≤ 1000) (k : ByteArray) {d : Int} (hd : 1 ≤ d ∧ d ≤ 86400000) : Cnt (putM m k (w64 ((lkM m k).getD 0 + d))) (l ++ [k]) (n + 1) := by
  have hg := h.get k
  rw [w64_id (by omega)]
  refine ⟨keys_put h.keys k _, fun s v hv => ?_⟩
  rw [lkM_put] at hv
  by_cases hs : s = k
  · rw [if_pos hs] at hv
    cases hv
    push_cast; omega
  · rw [if_neg hs] at hv
    have := h.rng s v hv
    push_cast; omega
theorem cnt_inner {ρ : Type} (step : Nat → ByteArray → List (ByteArray × Int) → Option (Flow (List (ByteArray × Int)) ρ)) {d : Int} (hd : 1 ≤ d ∧ d ≤ 86400000) (hst : ∀ i x u, step i x u = some (.nxt (putM u x (w64 ((lkM u x).getD 0 + d))))) :
    ∀ (q : List ByteArray) (i : Nat) (m : List (ByteArray × Int)) (l : List ByteArray) (n : Nat), Cnt m l n → n + q.length ≤ 1000 →
      rangeM step i q m = some (.brk (q.foldl (fun u x => putM u x (w64 ((lkM u x).getD 0 + d))) m)) ∧ Cnt (q.foldl (fun u x => putM u x (w64 ((lkM u x).getD 0 + d))) m) (l ++ q) (n + q.length) := by
  intro q
  induction q with
  | nil => intro i m l n h _; exact ⟨rfl, by simpa using h⟩
  | cons k q ih =>
    intro i m l n h hn
    simp only [List.length_cons] at hn
    obtain ⟨h1, h2⟩ := ih (i + 1) _ _ _ (h.put (by omega) k hd) (by omega)
    refine ⟨by rw [rangeM_cons, hst]; exact h1, ?_⟩
    have e1 : l ++ [k] ++ q = l ++ k :: q := by simp
    have e2 : n + 1 + q.length = n + (k :: q).length := by simp; omega
    rw [e1, e2] at h2
    exact h2
theorem lk_mem {m : List (ByteArray × Int)} (hn : (m.map Prod.fst).Nodup) {q : ByteArray × Int} (hq : q ∈ m) : lkM m q.1 = some q.2 := by
  obtain ⟨i, hi, rfl⟩ := List.getElem_of_mem hq
  exact lkM_some hn i (List.getElem?_eq_getElem hi)
def itoaB (n : Int) : ByteArray := ⟨(Lib.itoa n).toArray⟩
theorem Itoa_ok {n : Int} (h : 0 ≤ n ∧ n ≤ 86400000 * 720) : m_strconv_Itoa n = some (itoaB n) := by
  unfold m_strconv_Itoa
  rw [if_pos (by omega)]; rfl
def toP (x : Tconcert_sung) : TPair := ⟨x.part, itoaB x.long_⟩
theorem cnt_prog {p : TProgram} (hp : ProgOK p) : ∃ m, rangeM m_concert_Sung_l1 0 p.Items [] = some (.brk m) ∧ Cnt m (p.Items.flatMap (·.Parts)) 720 := by
  have hl := hp.len
  obtain ⟨m, h1, n, h3, h4⟩ := rangeM_invx m_concert_Sung_l1 p.Items (fun i u => ∃ n, Cnt u ((p.Items.take i).flatMap (·.Parts)) n ∧ n ≤ 12 * i) (by
    rintro i x u hx ⟨n, hc, hn⟩
    have hi := (List.getElem?_eq_some_iff.1 hx).1
    have hx2 := hp.item i x hx
    have hps := hx2.parts
    have e3 : (p.Items.take (i + 1)).flatMap (·.Parts) = (p.Items.take i).flatMap (·.Parts) ++ x.Parts := by rw [List.take_add_one, hx]; simp
    obtain ⟨a1, a2⟩ := cnt_inner (m_concert_Sung_l2 x) ⟨hx2.long1, hx2.long2⟩ (fun _ _ _ => rfl) x.Parts 0 u _ n hc (by omega)
    unfold m_concert_Sung_l1
    rw [a1]
    exact ⟨_, rfl, n + x.Parts.length, by rw [e3]; exact a2, by omega⟩) [] ⟨0, ⟨⟨by simp, by simp⟩, fun k v h => by cases h⟩, by simp⟩
  rw [List.take_length] at h3
  exact ⟨m, h1, h3.keys, fun k v hv => by have := h3.rng k v hv; omega⟩
/-- as many parts as the program names sing for some time -/
theorem Sung_len {p : TProgram} (h : GoodP p) {voices : List ByteArray} (hvl : voices.length ≤ 5) (hv : ∀ x ∈ p.Items, ∀ z ∈ x.Parts, z ∈ voices) : ∃ u, m_concert_Sung p = some (u, 0) ∧ u.length = ((names p.Items).map ofBytes).length := by
  have hp := h.ok
  have hl := hp.len
  obtain ⟨m, h1, hc⟩ := cnt_prog hp
  have hnd := hc.keys.nd
  have hml : m.length ≤ 5 := by
    have := List.Nodup.length_le_of_subset hnd (l₂ := voices) fun s hs => by
      have := (hc.keys.mem s).1 hs
      obtain ⟨x, hx, hsx⟩ := List.mem_flatMap.1 this
      exact hv x hx s hsx
    rw [List.length_map] at this
    omega
  have hkn : ((names p.Items).map ofBytes).Perm (m.map Prod.fst) := by
    refine (List.perm_ext_iff_of_nodup ?_ hnd).2 fun s => ?_
    · rw [List.nodup_iff_pairwise_ne, List.pairwise_map]
      refine (names_lt p.Items).imp fun {a b} h e => ?_
      have e2 : a = b := congrArg bytesOf e
      rw [e2] at h
      exact bs_irr b h
    · rw [hc.keys.mem s, List.mem_map]
      constructor
      · rintro ⟨x, hx, rfl⟩
        obtain ⟨t, ht, e⟩ := List.mem_map.1 (mem_names.1 hx)
        have : ofBytes x = t := by rw [← e]; rfl
        rw [this]; exact ht
      · intro hs
        exact ⟨bytesOf s, mem_names.2 (List.mem_map_of_mem hs), rfl⟩
  let al : List Tconcert_sung := m.map fun q => (⟨q.1, q.2⟩ : Tconcert_sung)
  -- every order of the map leads to the same list
  have hsorted : ∀ L', List.Perm L' m → ((L'.map fun q => (⟨q.1, q.2⟩ : Tconcert_sung)).foldl (ins ltS) []).Pairwise RS := fun L' hL' => by
    refine fold_sorted ltS RS_trans _ [] List.Pairwise.nil (fun _ _ y hy => by cases hy) ?_
    rw [List.pairwise_map]
    have hnd' : (L'.map Prod.fst).Nodup := (hL'.map Prod.fst).nodup_iff.2 hnd
    rw [List.nodup_iff_pairwise_ne, List.pairwise_map] at hnd'
    exact hnd'.imp fun {a b} hab => ⟨ltS_iff, (RS_tri _ _ fun e => hab e.symm)⟩
  have hperm : ∀ L', List.Perm L' m → ((L'.map fun q => (⟨q.1, q.2⟩ : Tconcert_sung)).foldl (ins ltS) []).Perm al := fun L' hL' => by
    have := fold_perm ltS (L'.map fun q => (⟨q.1, q.2⟩ : Tconcert_sung)) []
    rw [List.nil_append] at this
    exact this.trans (hL'.map _)
  have hone : ∀ L', List.Perm L' m → ((L'.map fun q => (⟨q.1, q.2⟩ : Tconcert_sung)).foldl (ins ltS) []) = al.foldl (ins ltS) [] := fun L' hL' =>
    List.Perm.eq_of_pairwise (fun x y _ _ h3 h4 => by
      exfalso
      unfold RS at h3 h4
      rcases h3 with h3 | ⟨h3, h5⟩
      · rcases h4 with h4 | ⟨h4, -⟩ <;> omega
      · rcases h4 with h4 | ⟨-, h6⟩
        · omega
        · exact bs_asym h5 h6) (hsorted L' hL') (hsorted m (.refl _)) ((hperm L' hL').trans (hperm m (.refl _)).symm)
  refine ⟨(al.foldl (ins ltS) []).map toP, ?_, by rw [List.length_map, (hperm m (.refl _)).length_eq, hkn.length_eq, List.length_map, List.length_map]⟩
  unfold m_concert_Sung
  rw [CheckProgram_zero h, Option.bind_some, show ((0 : Int) != 0) = false from rfl, ifB_false, h1]
  show (anyOrd m fun L33 => _) = _
  refine anyOrd_of fun L' hL' => ?_
  have hLl : L'.length ≤ 5 := by rw [hL'.length_eq]; exact hml
  have e1 : rangeM m_concert_Sung_l3 0 L' [] = some (.brk (L'.map fun q => (⟨q.1, q.2⟩ : Tconcert_sung))) := by
    have := rangeM_filterMap (ρ := (List TPair) × Int) m_concert_Sung_l3 (fun q => some (⟨q.1, q.2⟩ : Tconcert_sung)) L' (fun i x s hx hs => by
      have hi := (List.getElem?_eq_some_iff.1 hx).1
      unfold m_concert_Sung_l3
      rw [appM_of (by simp; omega) (by omega)]; rfl)
    rw [this, List.filterMap_eq_map']
  rw [e1]
  show ((m_slices_SortFunc_concert_sung_concert_sung__concert_Sung_1 _).bind _) = _
  rw [sortS_spec _ (by simp; omega), isM_ins ltS m_concert_Sung_1 _ (by simp; omega) (fun x _ y _ => cmpSung_spec x y), Option.bind_some, hone L' hL']
  have hsl := hperm m (.refl _)
  have hlen2 : (al.foldl (ins ltS) []).length ≤ 5 := by rw [hsl.length_eq, List.length_map]; exact hml
  have e4 : rangeM m_concert_Sung_l4 0 (al.foldl (ins ltS) []) [] = some (.brk ((al.foldl (ins ltS) []).map toP)) := by
    have := rangeM_filterMap (ρ := (List TPair) × Int) m_concert_Sung_l4 (fun x => some (toP x)) (al.foldl (ins ltS) []) (fun i x s hx hs => by
      have hi := (List.getElem?_eq_some_iff.1 hx).1
      obtain ⟨q, hq, rfl⟩ := List.mem_map.1 (hsl.subset (List.mem_of_getElem? hx))
      unfold m_concert_Sung_l4
      have hr := hc.rng q.1 q.2 (lk_mem hnd hq)
      rw [Itoa_ok (by simp only; omega), Option.bind_some, appM_of (by simp; omega) (by omega)]; rfl)
    rw [this, List.filterMap_eq_map']
  rw [e4]; rfl
/-! ### tired -/
theorem tired_loop {p : TProgram} (hp : ProgOK p) (s : ByteArray) (most rest : Int) : ∀ (t : List TItem) (i : Nat) (row e : Int), p.Items.drop i = t →
    ∃ f, rangeM (m_concert_tiredIn_l1 s most rest ((List.range p.Items.length).map (bg p), bg p p.Items.length)) i t (row, e) = some f ∧
      ((∃ s', f = .brk s') ∨ ∃ (j : Nat) (x : TItem), p.Items[j]? = some x ∧ f = .ret (j : Int) ∧ memB s x.Parts = true) ∧
      ((∀ x ∈ p.Items, x.Long ≤ 200) → p.Items.length ≤ 5 → 10000 ≤ most → 0 ≤ row → row ≤ 200 * i → ∃ s', f = .brk s') := by
  intro t
  induction t with
  | nil => intro i row e _; exact ⟨_, rfl, .inl ⟨_, rfl⟩, fun _ _ _ _ _ => ⟨_, rfl⟩⟩
  | cons x t ih =>
    intro i row e hd
    have hx : p.Items[i]? = some x := by
      have : (p.Items.drop i)[0]? = some x := by rw [hd]; rfl
      simpa using this
    have hd' : p.Items.drop (i + 1) = t := by rw [← List.drop_drop, hd]; rfl
    have hi := (List.getElem?_eq_some_iff.1 hx).1
    have hl := hp.len
    have hlo := longI_rng hp i
    rw [longI_of hx] at hlo
    have hlo1 := (hp.item i x hx).long1
    have g1 : getI ((List.range p.Items.length).map (bg p)) (i : Int) = some (bg p i) := getI_of rfl (by simp [hi])
    have hA : m_concert_tiredIn_l1 s most rest ((List.range p.Items.length).map (bg p), bg p p.Items.length) i x (row, e) =
        some (bif !memB s x.Parts then .nxt (row, e) else bif decide (w64 ((bif decide (w64 (bg p i - e) ≥ rest) then 0 else row) + x.Long) > most) then .ret (i : Int) else .nxt (w64 ((bif decide (w64 (bg p i - e) ≥ rest) then 0 else row) + x.Long), w64 (bg p i + x.Long))) := by
      unfold m_concert_tiredIn_l1
      simp only [ContainsS_spec, Option.bind_some, g1]
      cases memB s x.Parts
      · rfl
      · cases decide (w64 (bg p i - e) ≥ rest)
        · simp only [Bool.not_true, ifB_false, Option.bind_some, fin_inl, cond_false]
          cases decide (w64 (row + x.Long) > most) <;> rfl
        · simp only [Bool.not_true, ifB_false, ifB_true, Option.bind_some, fin_inl, cond_false, cond_true]
          cases decide (w64 (0 + x.Long) > most) <;> rfl
    rw [rangeM_cons, hA]
    cases hm : memB s x.Parts with
    | false =>
      obtain ⟨f, f1, f2, f3⟩ := ih (i + 1) row e hd'
      exact ⟨f, f1, f2, fun a1 a2 a3 a4 a5 => f3 a1 a2 a3 a4 (by omega)⟩
    | true =>
      have hrow : ∀ b : Bool, 0 ≤ row → row ≤ 200 * i → 0 ≤ (bif b then 0 else row) ∧ (bif b then 0 else row) ≤ 200 * i := fun b h1 h2 => by
        cases b
        · exact ⟨h1, h2⟩
        · exact ⟨Int.le_refl _, by simp only [cond_true]; omega⟩
      have hrow := hrow (decide (w64 (bg p i - e) ≥ rest))
      generalize (bif decide (w64 (bg p i - e) ≥ rest) then 0 else row) = rw0 at hrow
      cases hd2 : decide (w64 (rw0 + x.Long) > most) with
      | false =>
        obtain ⟨f, f1, f2, f3⟩ := ih (i + 1) (w64 (rw0 + x.Long)) (w64 (bg p i + x.Long)) hd'
        refine ⟨f, f1, f2, fun a1 a2 a3 a4 a5 => f3 a1 a2 a3 ?_ ?_⟩
        · obtain ⟨b1, b2⟩ := hrow a4 a5
          have := a1 x (List.mem_of_getElem? hx)
          rw [w64_id (by omega)]; omega
        · obtain ⟨b1, b2⟩ := hrow a4 a5
          have := a1 x (List.mem_of_getElem? hx)
          rw [w64_id (by omega)]; omega
      | true =>
        refine ⟨_, rfl, .inr ⟨i, x, hx, rfl, hm⟩, fun a1 a2 a3 a4 a5 => ?_⟩
        obtain ⟨b1, b2⟩ := hrow a4 a5
        have := a1 x (List.mem_of_getElem? hx)
        have h9 := of_decide_eq_true hd2
        rw [w64_id (by omega)] at h9
        omega
theorem tiredIn_spec {p : TProgram} (hp : ProgOK p) (s : ByteArray) (most rest : Int) : ∃ r, m_concert_tiredIn p s most rest = some r ∧ (r = -1 ∨ ∃ (j : Nat) (x : TItem), r = j ∧ p.Items[j]? = some x ∧ memB s x.Parts = true) ∧
    ((∀ x ∈ p.Items, x.Long ≤ 200) → p.Items.length ≤ 5 → 10000 ≤ most → r = -1) := by
  obtain ⟨f, f1, f2, f3⟩ := tired_loop hp s most rest p.Items 0 0 0 rfl
  unfold m_concert_tiredIn
  rw [begins_spec hp, Option.bind_some, f1, Option.bind_some]
  rcases f2 with ⟨s', rfl⟩ | ⟨j, x, hj, rfl, hm⟩
  · exact ⟨-1, rfl, .inl rfl, fun _ _ _ => rfl⟩
  · refine ⟨(j : Int), rfl, .inr ⟨j, x, rfl, hj, hm⟩, fun a1 a2 a3 => ?_⟩
    obtain ⟨s', hs⟩ := f3 a1 a2 a3 (Int.le_refl _) (by simp)
    cases hs
/-- what is said of a part -/
def tf (p : TProgram) (most rest : Int) (s : ByteArray) : Option TPair := match m_concert_tiredIn p s most rest with
  | some r => if r < 0 then none else (p.Items[r.toNat]?).map fun x => ⟨s, x.Key⟩
  | none => none
theorem Tired_good {p : TProgram} (h : GoodP p) {most rest : Int} (h1 : 1 ≤ most) (h2 : most ≤ 86400000) (h3 : 1 ≤ rest) (h4 : rest ≤ 86400000) : m_concert_Tired p most rest = some (((names p.Items).map ofBytes).filterMap (tf p most rest), 0) := by
  have hp := h.ok
  have hnl := names_len hp
  unfold m_concert_Tired
  rw [CheckProgram_zero h, Option.bind_some, show ((0 : Int) != 0) = false from rfl, ifB_false, Outside_spec, Option.bind_some, decide_eq_true ⟨h1, h2⟩, Bool.not_true, ifB_false, Outside_spec, Option.bind_some, decide_eq_true ⟨h3, h4⟩]
  have hloop := rangeM_filterMap (ρ := (List TPair) × Int) (m_concert_Tired_l1 p most rest) (tf p most rest) ((names p.Items).map ofBytes) (fun i x s hx hs => by
    have hi := (List.getElem?_eq_some_iff.1 hx).1
    rw [List.length_map] at hi
    obtain ⟨r, r1, r2, -⟩ := tiredIn_spec hp x most rest
    unfold m_concert_Tired_l1 tf
    rw [r1, Option.bind_some]
    rcases r2 with rfl | ⟨j, y, rfl, hj, -⟩
    · rw [decide_eq_false (by omega), ifB_false]; simp
    · simp only
      rw [decide_eq_true (show (j : Int) ≥ 0 by omega), ifB_true, getI_of rfl hj, Option.bind_some, appM_of (by simp; omega) (by omega), Option.bind_some, if_neg (by omega), Int.toNat_natCast, hj]
      rfl)
  simp only [Option.bind_some, fin_inl, Bool.not_true, ifB_false, partsOf_spec hp, hloop, fin_brk]
theorem tf_some {p : TProgram} (hp : ProgOK p) {most rest : Int} {s : ByteArray} {y : TPair} (h : tf p most rest s = some y) : y.Name = s ∧ ∃ x ∈ p.Items, y.Value = x.Key ∧ memB s x.Parts = true := by
  obtain ⟨r, r1, r2, -⟩ := tiredIn_spec hp s most rest
  unfold tf at h
  rw [r1] at h
  rcases r2 with rfl | ⟨j, x, rfl, hj, hm⟩
  · cases h
  · simp only at h
    rw [if_neg (by omega), Int.toNat_natCast, hj] at h
    cases h
    exact ⟨rfl, x, List.mem_of_getElem? hj, rfl, hm⟩
theorem tf_none {p : TProgram} (hp : ProgOK p) {most rest : Int} (h1 : ∀ x ∈ p.Items, x.Long ≤ 200) (h2 : p.Items.length ≤ 5) (h3 : 10000 ≤ most) (s : ByteArray) : tf p most rest s = none := by
  obtain ⟨r, r1, -, r3⟩ := tiredIn_spec hp s most rest
  rw [r3 h1 h2 h3] at r1
  unfold tf
  rw [r1]; rfl
end Go.G
