/- LV3: how long each part sings; the row of voices that rest. No program in sight. -/
import Derived.Test.YtaidgomipefeiaaGreatDoorLV2
import Derived.Test.YtaidgomipefeiaaGreatDoorLS2
namespace Go.G
open Go Go.J
set_option linter.unusedSimpArgs false
/-! ### the two sorts -/
theorem insS (u : List Tconcert_sung) (a b : Int) : m_slices_insertionSortCmpFunc_concert_sung__concert_Sung_1 u a b = isM m_concert_Sung_1 u a b := rfl
theorem insP (u : List TPair) (a b : Int) (m : List (ByteArray × Int)) : m_slices_insertionSortCmpFunc_api_Pair__gleeref2_SungBy_1 u a b m = isM (fun x y => m_gleeref2_SungBy_1 x y m) u a b := rfl
theorem wrap_len {n : Nat} (h : n ≤ 1000) : IntKind.wrap .u64 (n : Int) = n := by rw [IntKind.wrap_u64]; omega
theorem sortS_spec (u : List Tconcert_sung) (h : u.length ≤ 12) : m_slices_SortFunc_concert_sung_concert_sung__concert_Sung_1 u = isM m_concert_Sung_1 u 0 (u.length : Int) := by
  unfold m_slices_SortFunc_concert_sung_concert_sung__concert_Sung_1 m_bits_Len m_bits_Len64
  rw [wrap_len (by omega), if_pos (by omega)]
  simp only [Option.bind_some]
  unfold m_slices_pdqsortCmpFunc_concert_sung__concert_Sung_1
  cases hs : isM m_concert_Sung_1 u 0 (u.length : Int) with
  | none =>
    exfalso
    have hc : ∀ x ∈ u, ∀ y ∈ u, ∃ c, m_concert_Sung_1 x y = some c := fun x _ y _ => by
      unfold m_concert_Sung_1 m_cmp_Compare_int m_cmp_isNaN_int m_strings_Compare
      simp only [bne_self_eq_false, Option.bind_some, ifB_false]
      have : ∀ (c : Int), ∃ d, (m_cmp_Or_int [c, Lib.compareBytes x.part.data.toList y.part.data.toList]) = some d := fun c => by
        unfold m_cmp_Or_int
        rw [rangeM_cons]
        unfold m_cmp_Or_int_l1
        cases (c != 0) with
        | true => exact ⟨_, rfl⟩
        | false =>
          rw [ifB_false, Option.bind_some, run_nxt, rangeM_cons]
          cases (Lib.compareBytes x.part.data.toList y.part.data.toList != 0)
          · exact ⟨_, rfl⟩
          · exact ⟨_, rfl⟩
      cases decide (y.long_ < x.long_)
      · cases decide (y.long_ > x.long_)
        · obtain ⟨d, hd⟩ := this 0; exact ⟨d, by simp only [ifB_false, Option.bind_some, hd]⟩
        · obtain ⟨d, hd⟩ := this 1; exact ⟨d, by simp only [ifB_false, ifB_true, Option.bind_some, hd]⟩
      · obtain ⟨d, hd⟩ := this (-1); exact ⟨d, by simp only [ifB_true, Option.bind_some, hd]⟩
    obtain ⟨m, hm, -⟩ := isM_total m_concert_Sung_1 u (by omega) hc
    rw [hm] at hs; cases hs
  | some m =>
    have h1 : ∀ k, m_slices_pdqsortCmpFunc_concert_sung__concert_Sung_1_l1 u 0 (u.length : Int) k () = some (.ret m) := fun k => by
      unfold m_slices_pdqsortCmpFunc_concert_sung__concert_Sung_1_l1
      rw [w64_id (by omega), decide_eq_true (by omega), ifB_true, insS, hs]; rfl
    rw [loopM_step (h1 _)]; rfl
theorem sortP_spec (u : List TPair) (h : u.length < 20) (m : List (ByteArray × Int)) : m_slices_SortStableFunc_api_Pair_api_Pair__gleeref2_SungBy_1 u m = isM (fun x y => m_gleeref2_SungBy_1 x y m) u 0 (u.length : Int) := by
  unfold m_slices_SortStableFunc_api_Pair_api_Pair__gleeref2_SungBy_1 m_slices_stableCmpFunc_api_Pair__gleeref2_SungBy_1
  have h1 : m_slices_stableCmpFunc_api_Pair__gleeref2_SungBy_1_l1 (u.length : Int) m (0, 20, u) = some (.brk (0, 20, u)) := by
    unfold m_slices_stableCmpFunc_api_Pair__gleeref2_SungBy_1_l1
    rw [decide_eq_false (by simp only; omega)]; rfl
  have h2 : m_slices_stableCmpFunc_api_Pair__gleeref2_SungBy_1_l2 (u.length : Int) (20, 0, 20) = some (.brk (20, 0, 20)) := by
    unfold m_slices_stableCmpFunc_api_Pair__gleeref2_SungBy_1_l2
    rw [decide_eq_false (by simp only; omega)]; rfl
  rw [loopM_step h1, run_brk, Option.bind_some, fin_brk, bind_ret, loopM_step h2, run_brk, insP]
  simp only [Option.bind_some, fin_brk]
  exact bind_ret _
/-! ### orders -/
def RS (a b : Tconcert_sung) : Prop := b.long_ < a.long_ ∨ (b.long_ = a.long_ ∧ bytesOf a.part < bytesOf b.part)
def ltS (a b : Tconcert_sung) : Bool := decide (b.long_ < a.long_) || (decide (b.long_ = a.long_) && decide (Lib.compareBytes (bytesOf a.part) (bytesOf b.part) = -1))
theorem cb_neg {a b : Bs} : Lib.compareBytes a b = -1 ↔ a < b := by
  rcases cb_spec a b with ⟨h1, h2⟩ | ⟨h1, h2⟩ | ⟨h1, h2⟩
  · exact ⟨fun _ => h2, fun _ => h1⟩
  · rw [h1]; exact ⟨fun h => by omega, fun h => (bs_irr _ (h2 ▸ h)).elim⟩
  · rw [h1]; exact ⟨fun h => by omega, fun h => (bs_asym h h2).elim⟩
theorem ltS_iff {a b : Tconcert_sung} : ltS a b = true ↔ RS a b := by
  unfold ltS RS
  rw [Bool.or_eq_true, Bool.and_eq_true, decide_eq_true_eq, decide_eq_true_eq, decide_eq_true_eq, cb_neg]
theorem RS_trans (a b c : Tconcert_sung) (h1 : RS a b) (h2 : RS b c) : RS a c := by
  unfold RS at *
  rcases h1 with h1 | ⟨h1, h3⟩
  · rcases h2 with h2 | ⟨h2, h4⟩
    · left; omega
    · left; omega
  · rcases h2 with h2 | ⟨h2, h4⟩
    · left; omega
    · right; exact ⟨by omega, bs_trans h3 h4⟩
theorem RS_tri (a b : Tconcert_sung) (h : a.part ≠ b.part) : RS a b ∨ RS b a := by
  unfold RS
  rcases Int.lt_trichotomy a.long_ b.long_ with h1 | h1 | h1
  · right; left; exact h1
  · rcases bs_tri (bytesOf a.part) (bytesOf b.part) with h2 | h2 | h2
    · left; right; exact ⟨h1.symm, h2⟩
    · exact (h (bytes_inj h2)).elim
    · right; right; exact ⟨h1, h2⟩
  · left; left; exact h1
theorem cmpS_spec (a b : Tconcert_sung) : ∃ c, m_concert_Sung_1 a b = some c ∧ decide (c < 0) = ltS a b := by
  unfold m_concert_Sung_1 m_cmp_Compare_int m_cmp_isNaN_int m_strings_Compare
  simp only [bne_self_eq_false, Option.bind_some, ifB_false]
  have hor : ∀ (c d : Int), m_cmp_Or_int [c, d] = some (if c ≠ 0 then c else d) := fun c d => by
    unfold m_cmp_Or_int
    rw [rangeM_cons]
    unfold m_cmp_Or_int_l1
    by_cases h : c = 0
    · subst h
      rw [show ((0 : Int) != 0) = false from rfl, ifB_false, Option.bind_some, run_nxt, rangeM_cons]
      by_cases h2 : d = 0
      · subst h2; rfl
      · rw [show (d != 0) = true by simpa using h2]; rfl
    · rw [show (c != 0) = true by simpa using h, if_pos h]; rfl
  have hcb : Lib.compareBytes a.part.data.toList b.part.data.toList = Lib.compareBytes (bytesOf a.part) (bytesOf b.part) := rfl
  unfold ltS
  by_cases h1 : b.long_ < a.long_
  · simp only [decide_eq_true h1, ifB_true, Option.bind_some, hor, Bool.true_or]
    exact ⟨_, rfl, by rw [if_pos (by decide)]; decide⟩
  · by_cases h2 : b.long_ > a.long_
    · simp only [decide_eq_false h1, decide_eq_true h2, ifB_true, ifB_false, Option.bind_some, hor, Bool.false_or]
      refine ⟨_, rfl, ?_⟩
      rw [decide_eq_false (show ¬ b.long_ = a.long_ by omega)]; rfl
    · simp only [decide_eq_false h1, decide_eq_false h2, ifB_false, Option.bind_some, hor, Bool.false_or]
      refine ⟨_, rfl, ?_⟩
      rw [decide_eq_true (show b.long_ = a.long_ by omega), Bool.true_and, hcb, if_neg (by simp)]
      rcases cb_spec (bytesOf a.part) (bytesOf b.part) with ⟨h3, -⟩ | ⟨h3, -⟩ | ⟨h3, -⟩ <;> rw [h3] <;> rfl
/-! ### what is counted -/
structure Cnt (m : List (ByteArray × Int)) (l : List ByteArray) (n : Nat) : Prop where
  keys : KeysOf m l
  rng : ∀ k v, lkM m k = some v → 0 ≤ v ∧ v ≤ 86400000 * n
theorem Cnt.get {m : List (ByteArray × Int)} {l : List ByteArray} {n : Nat} (h : Cnt m l n) (k : ByteArray) : 0 ≤ (lkM m k).getD 0 ∧ (lkM m k).getD 0 ≤ 86400000 * n := by
  cases hk : lkM m k with
  | none => exact ⟨Int.le_refl _, by show (0 : Int) ≤ _; omega⟩
  | some v => exact h.rng k v hk
theorem Cnt.put {m : List (ByteArray × Int)} {l : List ByteArray} {n : Nat} (h : Cnt m l n) (hn : n ≤ 1000) (k : ByteArray) {d : Int} (hd : 1 ≤ d ∧ d ≤ 86400000) : Cnt (putM m k (w64 ((lkM m k).getD 0 + d))) (l ++ [k]) (n + 1) := by
  have hg := h.get k
  rw [w64_id (by omega)]
  refine ⟨keys_put h.keys k _, fun s v hv => ?_⟩
  rw [lkM_put] at hv
  by_cases hs : s = k
  · rw [if_pos hs] at hv
    cases hv
    push_cast; omega
  · rw [if_neg hs] at hv
    have := h.rng s v hv
    push_cast; omega
theorem cnt_inner {ρ : Type} (step : Nat → ByteArray → List (ByteArray × Int) → Option (Flow (List (ByteArray × Int)) ρ)) {d : Int} (hd : 1 ≤ d ∧ d ≤ 86400000) (hst : ∀ i x u, step i x u = some (.nxt (putM u x (w64 ((lkM u x).getD 0 + d))))) :
    ∀ (q : List ByteArray) (i : Nat) (m : List (ByteArray × Int)) (l : List ByteArray) (n : Nat), Cnt m l n → n + q.length ≤ 1000 →
      rangeM step i q m = some (.brk (q.foldl (fun u x => putM u x (w64 ((lkM u x).getD 0 + d))) m)) ∧ Cnt (q.foldl (fun u x => putM u x (w64 ((lkM u x).getD 0 + d))) m) (l ++ q) (n + q.length) := by
  intro q
  induction q with
  | nil => intro i m l n h _; exact ⟨rfl, by simpa using h⟩
  | cons k q ih =>
    intro i m l n h hn
    simp only [List.length_cons] at hn
    obtain ⟨h1, h2⟩ := ih (i + 1) _ _ _ (h.put (by omega) k hd) (by omega)
    refine ⟨by rw [rangeM_cons, hst]; exact h1, ?_⟩
    have e1 : l ++ [k] ++ q = l ++ k :: q := by simp
    have e2 : n + 1 + q.length = n + (k :: q).length := by simp; omega
    rw [e1, e2] at h2
    exact h2
theorem cnt_all {p : TProgram} (hp : ProgOK p) : ∃ m, rangeM m_concert_Sung_l1 0 p.Items [] = some (.brk m) ∧ rangeM m_gleeref2_SungBy_l1 0 p.Items [] = some (.brk m) ∧ Cnt m (p.Items.flatMap (·.Parts)) 720 := by
  have hl := hp.len
  obtain ⟨m, m', h1, h2, rfl, n, h3, h4⟩ := rangeM_rel2 m_concert_Sung_l1 m_gleeref2_SungBy_l1 p.Items (fun i u v => u = v ∧ ∃ n, Cnt u ((p.Items.take i).flatMap (·.Parts)) n ∧ n ≤ 12 * i) (by
    rintro i x u _ hx ⟨rfl, n, hc, hn⟩
    have hi := (List.getElem?_eq_some_iff.1 hx).1
    have hx2 := hp.item i x hx
    have hps := hx2.parts
    have e3 : (p.Items.take (i + 1)).flatMap (·.Parts) = (p.Items.take i).flatMap (·.Parts) ++ x.Parts := by rw [List.take_add_one, hx]; simp
    obtain ⟨a1, a2⟩ := cnt_inner (m_concert_Sung_l2 x) ⟨hx2.long1, hx2.long2⟩ (fun _ _ _ => rfl) x.Parts 0 u _ n hc (by omega)
    obtain ⟨b1, -⟩ := cnt_inner (m_gleeref2_SungBy_l2 x) ⟨hx2.long1, hx2.long2⟩ (fun _ _ _ => rfl) x.Parts 0 u _ n hc (by omega)
    unfold m_concert_Sung_l1 m_gleeref2_SungBy_l1
    rw [a1, b1]
    exact ⟨_, _, rfl, rfl, rfl, n + x.Parts.length, by rw [e3]; exact a2, by omega⟩) [] [] ⟨rfl, 0, ⟨⟨by simp, by simp⟩, fun k v h => by cases h⟩, by simp⟩
  rw [List.take_length] at h3
  exact ⟨m, h1, h2, h3.keys, fun k v hv => by have := h3.rng k v hv; omega⟩
theorem lk_mem {m : List (ByteArray × Int)} (hn : (m.map Prod.fst).Nodup) {q : ByteArray × Int} (hq : q ∈ m) : lkM m q.1 = some q.2 := by
  obtain ⟨i, hi, rfl⟩ := List.getElem_of_mem hq
  exact lkM_some hn i (List.getElem?_eq_getElem hi)
def itoaB (n : Int) : ByteArray := ⟨(Lib.itoa n).toArray⟩
theorem Itoa_ok {n : Int} (h : 0 ≤ n ∧ n ≤ 86400000 * 720) : m_strconv_Itoa n = some (itoaB n) := by
  unfold m_strconv_Itoa
  rw [if_pos (by omega)]; rfl
def toP (x : Tconcert_sung) : TPair := ⟨x.part, itoaB x.long_⟩
theorem Sung_spec {p : TProgram} (hp : ProgOK p) (hv : ∀ x ∈ p.Items, ∀ z ∈ x.Parts, z ∈ voices) : ∃ u, ((rangeM m_concert_Sung_l1 0 p.Items []).bind fun f11 => Flow.fin f11 fun u8 => anyOrd u8 fun L33 => (rangeM m_concert_Sung_l3 0 L33 []).bind fun f58 => Flow.fin f58 fun u30 => (m_slices_SortFunc_concert_sung_concert_sung__concert_Sung_1 u30).bind fun y39 => (rangeM m_concert_Sung_l4 0 y39 []).bind fun f47 => Flow.fin f47 fun u44 => some (u44, (0 : Int))) = some (u, 0) ∧ m_gleeref2_SungBy p = some u := by
  have hl := hp.len
  obtain ⟨m, h1, h2, hc⟩ := cnt_all hp
  have hnd := hc.keys.nd
  have hml : m.length ≤ 5 := by
    have := List.Nodup.length_le_of_subset hnd (l₂ := voices) fun s hs => by
      have := (hc.keys.mem s).1 hs
      obtain ⟨x, hx, hsx⟩ := List.mem_flatMap.1 this
      exact hv x hx s hsx
    simpa [voices] using this
  let many : ByteArray → Int := fun k => (lkM m k).getD 0
  have hmany : ∀ q ∈ m, many q.1 = q.2 := fun q hq => by show (lkM m q.1).getD 0 = _; rw [lk_mem hnd hq]; rfl
  have hmr : ∀ k, 0 ≤ many k ∧ many k ≤ 86400000 * 720 := fun k => hc.get k
  -- the reference
  let Pn : List TPair := ((names p.Items).map ofBytes).map fun k => ⟨k, itoaB (many k)⟩
  let R2 : TPair → TPair → Prop := fun x y => many y.Name < many x.Name ∨ (many y.Name = many x.Name ∧ bytesOf x.Name < bytesOf y.Name)
  let lt2 : TPair → TPair → Bool := fun x y => decide (many y.Name < many x.Name)
  have hkn : ((names p.Items).map ofBytes).Perm (m.map Prod.fst) := by
    refine (List.perm_ext_iff_of_nodup ?_ hnd).2 fun s => ?_
    · rw [List.nodup_iff_pairwise_ne, List.pairwise_map]
      refine (names_lt p.Items).imp fun {a b} h e => ?_
      have e2 : a = b := congrArg bytesOf e
      rw [e2] at h
      exact bs_irr b h
    · rw [hc.keys.mem s, List.mem_map]
      constructor
      · rintro ⟨x, hx, rfl⟩
        obtain ⟨t, ht, e⟩ := List.mem_map.1 (mem_names.1 hx)
        have : ofBytes x = t := by rw [← e]; rfl
        rw [this]; exact ht
      · intro hs
        exact ⟨bytesOf s, mem_names.2 (List.mem_map_of_mem hs), rfl⟩
  have hnlen : ((names p.Items).map ofBytes).length ≤ 5 := by rw [hkn.length_eq, List.length_map]; exact hml
  have hl3 : rangeM (m_gleeref2_SungBy_l3 m) 0 ((names p.Items).map ofBytes) [] = some (.brk Pn) := by
    have := rangeM_filterMap (ρ := List TPair) (m_gleeref2_SungBy_l3 m) (fun k => some (⟨k, itoaB (many k)⟩ : TPair)) ((names p.Items).map ofBytes) (fun i x s hx hs => by
      have hi := (List.getElem?_eq_some_iff.1 hx).1
      unfold m_gleeref2_SungBy_l3
      rw [Itoa_ok (hmr x), Option.bind_some, appM_of (by simp; omega) (by omega)]; rfl)
    rw [this, List.filterMap_eq_map']
  have hcmp2 : ∀ x y : TPair, ∃ c, m_gleeref2_SungBy_1 x y m = some c ∧ decide (c < 0) = lt2 x y := fun x y => by
    have h3 := hmr x.Name; have h4 := hmr y.Name
    unfold m_gleeref2_SungBy_1 m_gleeref2_sign
    show ∃ c, ((ifB (decide (w64 (many y.Name - many x.Name) < 0)) (some (-1)) (ifB (decide (w64 (many y.Name - many x.Name) > 0)) (some 1) (some 0))).bind fun y3 => some y3) = some c ∧ _
    rw [w64_id (by omega)]
    by_cases h5 : many y.Name - many x.Name < 0
    · rw [decide_eq_true h5]
      exact ⟨-1, rfl, (decide_eq_true (show many y.Name < many x.Name by omega)).symm⟩
    · rw [decide_eq_false h5, ifB_false]
      have : lt2 x y = false := decide_eq_false (by omega)
      rw [this]
      by_cases h6 : many y.Name - many x.Name > 0
      · rw [decide_eq_true h6]; exact ⟨1, rfl, by decide⟩
      · rw [decide_eq_false h6]; exact ⟨0, rfl, by decide⟩
  have hPl : Pn.length ≤ 5 := by show (((names p.Items).map ofBytes).map _).length ≤ 5; rw [List.length_map]; exact hnlen
  have hS2 : m_slices_SortStableFunc_api_Pair_api_Pair__gleeref2_SungBy_1 Pn m = some (Pn.foldl (ins lt2) []) := by
    rw [sortP_spec Pn (by omega) m]
    exact isM_ins lt2 _ Pn (by omega) fun x _ y _ => hcmp2 x y
  have R2t : ∀ a b c, R2 a b → R2 b c → R2 a c := fun a b c h3 h4 => by
    rcases h3 with h3 | ⟨h3, h5⟩
    · rcases h4 with h4 | ⟨h4, -⟩
      · left; omega
      · left; omega
    · rcases h4 with h4 | ⟨h4, h6⟩
      · left; omega
      · right; exact ⟨by omega, bs_trans h5 h6⟩
  have hs2 : (Pn.foldl (ins lt2) []).Pairwise R2 := by
    refine fold_sorted lt2 R2t Pn [] List.Pairwise.nil (fun _ _ y hy => by cases hy) ?_
    show (((names p.Items).map ofBytes).map fun k => (⟨k, itoaB (many k)⟩ : TPair)).Pairwise _
    rw [List.pairwise_map, List.pairwise_map]
    refine (names_lt p.Items).imp fun {a b} hab => ⟨⟨fun h => .inl (of_decide_eq_true h), fun h => ?_⟩, ?_⟩
    · rcases h with h | ⟨-, h⟩
      · exact decide_eq_true h
      · exact (bs_asym hab h).elim
    · rcases Int.lt_trichotomy (many (ofBytes a)) (many (ofBytes b)) with h | h | h
      · left; left; exact h
      · right; right; exact ⟨h.symm, hab⟩
      · right; left; exact h
  refine ⟨Pn.foldl (ins lt2) [], ?_, ?_⟩
  · -- the program
    rw [h1]
    show (anyOrd m fun L33 => _) = _
    refine anyOrd_of fun L' hL' => ?_
    have hLl : L'.length ≤ 5 := by rw [hL'.length_eq]; exact hml
    have e1 : rangeM m_concert_Sung_l3 0 L' [] = some (.brk (L'.map fun q => (⟨q.1, q.2⟩ : Tconcert_sung))) := by
      have := rangeM_filterMap (ρ := (List TPair) × Int) m_concert_Sung_l3 (fun q => some (⟨q.1, q.2⟩ : Tconcert_sung)) L' (fun i x s hx hs => by
        have hi := (List.getElem?_eq_some_iff.1 hx).1
        unfold m_concert_Sung_l3
        rw [appM_of (by simp; omega) (by omega)]; rfl)
      rw [this, List.filterMap_eq_map']
    rw [e1]
    show ((m_slices_SortFunc_concert_sung_concert_sung__concert_Sung_1 _).bind _) = _
    rw [sortS_spec _ (by simp; omega), isM_ins ltS m_concert_Sung_1 _ (by simp; omega) (fun x _ y _ => cmpS_spec x y), Option.bind_some]
    generalize hA : (L'.map fun q => (⟨q.1, q.2⟩ : Tconcert_sung)) = al
    have hper := fold_perm ltS al []
    rw [List.nil_append] at hper
    have hsort : (al.foldl (ins ltS) []).Pairwise RS := by
      refine fold_sorted ltS RS_trans al [] List.Pairwise.nil (fun _ _ y hy => by cases hy) ?_
      rw [← hA, List.pairwise_map]
      have hnd' : (L'.map Prod.fst).Nodup := (hL'.map Prod.fst).nodup_iff.2 hnd
      rw [List.nodup_iff_pairwise_ne, List.pairwise_map] at hnd'
      exact hnd'.imp fun {a b} hab => ⟨ltS_iff, (RS_tri _ _ fun e => hab e.symm)⟩
    have hlen2 : (al.foldl (ins ltS) []).length ≤ 5 := by rw [hper.length_eq, ← hA, List.length_map]; exact hLl
    generalize al.foldl (ins ltS) [] = sl at hper hsort hlen2
    have hsm : ∀ x ∈ sl, ∃ q ∈ m, x = ⟨q.1, q.2⟩ := fun x hx => by
      have := hper.subset hx
      rw [← hA] at this
      obtain ⟨q, hq, rfl⟩ := List.mem_map.1 this
      exact ⟨q, hL'.subset hq, rfl⟩
    have e4 : rangeM m_concert_Sung_l4 0 sl [] = some (.brk (sl.map toP)) := by
      have := rangeM_filterMap (ρ := (List TPair) × Int) m_concert_Sung_l4 (fun x => some (toP x)) sl (fun i x s hx hs => by
        have hi := (List.getElem?_eq_some_iff.1 hx).1
        obtain ⟨q, hq, rfl⟩ := hsm x (List.mem_of_getElem? hx)
        unfold m_concert_Sung_l4
        have hr := hmr q.1
        rw [hmany q hq] at hr
        rw [Itoa_ok hr, Option.bind_some, appM_of (by simp; omega) (by omega)]; rfl)
      rw [this, List.filterMap_eq_map']
    rw [e4]
    show some (sl.map toP, (0 : Int)) = _
    have hpm : (sl.map toP).Perm (Pn.foldl (ins lt2) []) := by
      have hp2 := fold_perm lt2 Pn []
      rw [List.nil_append] at hp2
      refine (hper.map toP).trans (List.Perm.trans ?_ hp2.symm)
      rw [← hA, List.map_map]
      have e5 : (L'.map (toP ∘ fun q => (⟨q.1, q.2⟩ : Tconcert_sung))) = (L'.map Prod.fst).map fun k => (⟨k, itoaB (many k)⟩ : TPair) := by
        rw [List.map_map]
        refine List.map_congr_left fun q hq => ?_
        show (⟨q.1, itoaB q.2⟩ : TPair) = ⟨q.1, itoaB (many q.1)⟩
        rw [hmany q (hL'.subset hq)]
      rw [e5]
      exact ((hL'.map Prod.fst).trans hkn.symm).map _
    have hsl : (sl.map toP).Pairwise R2 := by
      rw [List.pairwise_map]
      refine List.Pairwise.imp_of_mem ?_ hsort
      intro a b ha hb hab
      obtain ⟨q, hq, rfl⟩ := hsm a ha
      obtain ⟨r, hr, rfl⟩ := hsm b hb
      show many r.1 < many q.1 ∨ (many r.1 = many q.1 ∧ bytesOf q.1 < bytesOf r.1)
      rw [hmany q hq, hmany r hr]
      exact hab
    have : sl.map toP = Pn.foldl (ins lt2) [] := List.Perm.eq_of_pairwise (fun x y _ _ h3 h4 => by
      exfalso
      rcases h3 with h3 | ⟨h3, h5⟩
      · rcases h4 with h4 | ⟨h4, -⟩ <;> omega
      · rcases h4 with h4 | ⟨-, h6⟩
        · omega
        · exact bs_asym h5 h6) hsl hs2 hpm
    rw [this]
  · unfold m_gleeref2_SungBy
    rw [h2]
    show ((m_gleeref2_partsIn p.Items).bind _) = _
    rw [partsIn_spec p.Items hl (fun x hx => by
      obtain ⟨i, hi, rfl⟩ := List.getElem_of_mem hx
      exact (hp.item i _ (List.getElem?_eq_getElem hi)).parts), Option.bind_some, hl3]
    show ((m_slices_SortStableFunc_api_Pair_api_Pair__gleeref2_SungBy_1 Pn m).bind _) = _
    rw [hS2]; rfl
/-! ### the row -/
theorem EqualP_refl (xs : List TPair) : m_slices_Equal_api_Pair_api_Pair xs xs = some true := by
  unfold m_slices_Equal_api_Pair_api_Pair
  have h : ((xs.length : Int) != (xs.length : Int)) = false := by simp
  rw [h, ifB_false]
  obtain ⟨s', h1, -⟩ := rangeM_invx (m_slices_Equal_api_Pair_api_Pair_l1 xs) xs (fun _ _ => True) (fun i x s hx _ => ⟨s, by
    unfold m_slices_Equal_api_Pair_api_Pair_l1
    rw [getI_of rfl hx, Option.bind_some]
    simp, trivial⟩) () trivial
  rw [h1]; rfl
theorem VoicesRest_true (L : List Int) : m_gleelaw2_VoicesRest L = some true := by
  unfold m_gleelaw2_VoicesRest
  obtain ⟨p, q1, h1, h2, h3, h4, hv⟩ := AProgram_spec2 L (q := 0) (most := 5) (by omega) (by omega) (by omega) (by omega)
  obtain ⟨part, k1, -⟩ := Some_spec L (p := q1) [(ByteArray.mk [97, 108, 116, 111].toArray), (ByteArray.mk [98, 97, 115, 115].toArray), (ByteArray.mk [115, 111, 108, 105].toArray), (ByteArray.mk [122, 122].toArray), ByteArray.empty] (by omega) (by omega) (by simp) (by simp)
  obtain ⟨most, a1, -⟩ := Pick_spec L (p := q1 + 1) [50, 100, 200, 300, 0, 86400001] (by omega) (by omega) (by simp) (by simp)
  obtain ⟨rest, b1, -⟩ := Pick_spec L (p := q1 + 1 + 1) [1, 10, 30, 100, 200, 0, 86400001] (by omega) (by omega) (by simp) (by simp)
  obtain ⟨e, he, hok⟩ := ProgramFault_total p
  have hcp : m_concert_CheckProgram p = some e := by rw [CheckProgram_eq]; exact he
  simp only [h1, k1, a1, b1, Option.bind_some, he]
  have hnf : m_gleelaw2_nameFault part = some (bif isKey part then 0 else 5) := by
    unfold m_gleelaw2_nameFault
    rw [isKey_ref, Option.bind_some, when_spec, Option.bind_some]
    cases isKey part <;> rfl
  have hout : ∀ a b c : Int, m_kit_Outside a b c = some (decide (a < b) || decide (a > c)) := fun a b c => by
    rw [Outside_spec]
    congr 1
    by_cases h5 : a < b
    · simp [h5]
    · by_cases h6 : a > c
      · simp [h6]
      · simp [h5, h6]; omega
  let bad : Bool := (decide (most < 1) || decide (most > 86400000)) || (decide (rest < 1) || decide (rest > 86400000))
  have htwo : ∀ (K : Int → Option Bool), ((ifB (decide (most < 1)) ((m_gleelaw2_when true 1).bind fun y24 => (m_gleelaw2_errs [e, y24]).bind fun y26 => some (.inl y26)) (ifB (decide (most > 86400000)) ((m_gleelaw2_when true 1).bind fun y27 => (m_gleelaw2_errs [e, y27]).bind fun y29 => some (.inl y29)) (ifB (decide (rest < 1)) ((m_gleelaw2_when true 1).bind fun y30 => (m_gleelaw2_errs [e, y30]).bind fun y32 => some (.inl y32)) ((m_gleelaw2_when (decide (rest > 86400000)) 1).bind fun y33 => (m_gleelaw2_errs [e, y33]).bind fun y35 => some (.inl y35)))) : Option (Int ⊕ Bool)).bind fun k23 => Sum.fin k23 K) = K (fst0 [e, bif bad then 1 else 0]) := by
    intro K
    show _ = K (fst0 [e, bif (decide (most < 1) || decide (most > 86400000)) || (decide (rest < 1) || decide (rest > 86400000)) then 1 else 0])
    simp only [when_spec, errs_spec, Option.bind_some]
    cases decide (most < 1) with
    | true => rfl
    | false =>
      cases decide (most > 86400000) with
      | true => rfl
      | false => cases decide (rest < 1) <;> rfl
  simp only [Option.bind_some, errs_spec] at htwo
  by_cases h0 : e = 0
  · subst h0
    have hp := hok rfl
    have hl := hp.len
    obtain ⟨u, s1, s2⟩ := Sung_spec hp hv
    obtain ⟨b, r, l1, l2⟩ := Longest_spec hl part
    obtain ⟨t, t1, t2⟩ := Tired_spec hp most rest
    have hS : m_concert_Sung p = some (u, 0) := by
      unfold m_concert_Sung
      rw [hcp, Option.bind_some, show ((0 : Int) != 0) = false from rfl, ifB_false]
      exact s1
    have hL : m_concert_Longest p part = some (bif isKey part then (b, 0) else (0, 5)) := by
      unfold m_concert_Longest
      rw [hcp, Option.bind_some, show ((0 : Int) != 0) = false from rfl, ifB_false, isKey_prog, Option.bind_some]
      cases isKey part with
      | true => rw [Bool.not_true, ifB_false, l1]; rfl
      | false => rfl
    have hT : m_concert_Tired p most rest = some (bif bad then ([], 1) else (t, 0)) := by
      unfold m_concert_Tired
      rw [hcp, Option.bind_some, show ((0 : Int) != 0) = false from rfl, ifB_false]
      simp only [hout, Option.bind_some]
      show _ = some (bif (decide (most < 1) || decide (most > 86400000)) || (decide (rest < 1) || decide (rest > 86400000)) then ([], 1) else (t, 0))
      cases decide (most < 1) || decide (most > 86400000) with
      | true => rfl
      | false =>
        simp only [ifB_false, Option.bind_some, fin_inl, Bool.false_or]
        cases decide (rest < 1) || decide (rest > 86400000) with
        | true => rfl
        | false =>
          simp only [ifB_false, partsOf_spec hp, Option.bind_some, t1, fin_brk, cond_false]
    rw [hS, hL, hT, hnf]
    simp only [Option.bind_some, errs_spec]
    rw [htwo]
    simp only [beq_self_eq_true, ifB_true, s2, Option.bind_some, fin_inl]
    have e1 : fst0 [0, bif isKey part then 0 else 5] = bif isKey part then 0 else 5 := by cases isKey part <;> rfl
    have e2 : fst0 [0, bif bad then 1 else 0] = bif bad then 1 else 0 := by cases bad <;> rfl
    rw [e1, e2]
    have c1 : ∀ (K : Int → Option Bool), ((ifB ((bif isKey part then (0 : Int) else 5) == 0) ((m_gleeref2_LongestOf p part).bind fun y46 => some (.inl y46)) (some (.inl 0)) : Option (Int ⊕ Bool)).bind fun k => Sum.fin k K) = K (bif isKey part then b else 0) := by
      intro K
      cases isKey part with
      | true => simp only [cond_true, beq_self_eq_true, ifB_true, l2, Option.bind_some, fin_inl]
      | false => rfl
    have c2 : ∀ (K : List TPair → Option Bool), ((ifB ((bif bad then (1 : Int) else 0) == 0) ((m_gleeref2_TiredIn p most rest).bind fun y51 => some (.inl y51)) (some (.inl [])) : Option ((List TPair) ⊕ Bool)).bind fun k => Sum.fin k K) = K (bif bad then [] else t) := by
      intro K
      cases bad with
      | false => simp only [cond_false, beq_self_eq_true, ifB_true, t2, Option.bind_some, fin_inl]
      | true => rfl
    rw [c1, c2]
    cases isKey part <;> cases bad <;> simp only [cond_true, cond_false, beq_self_eq_true, ifB_true, EqualP_refl, Option.bind_some, sung_true]
  · have hb : (e != 0) = true := by simpa using h0
    have hb' : (e == 0) = false := by simpa using h0
    have hf : ∀ x : Int, fst0 [e, x] = e := fun x => by simp [fst0, h0]
    have hS : m_concert_Sung p = some ([], e) := by unfold m_concert_Sung; rw [hcp, Option.bind_some, hb]; rfl
    have hL : m_concert_Longest p part = some (0, e) := by unfold m_concert_Longest; rw [hcp, Option.bind_some, hb]; rfl
    have hT : m_concert_Tired p most rest = some ([], e) := by unfold m_concert_Tired; rw [hcp, Option.bind_some, hb]; rfl
    rw [hS, hL, hT, hnf]
    simp only [Option.bind_some, errs_spec]
    rw [htwo]
    simp only [hf, hb', ifB_false, Option.bind_some, fin_inl, beq_self_eq_true, ifB_true, EqualP_refl, sung_true]
end Go.G
