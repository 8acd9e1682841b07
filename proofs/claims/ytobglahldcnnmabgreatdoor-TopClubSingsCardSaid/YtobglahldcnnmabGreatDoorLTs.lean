/- LTs: TopClubSings' law: who quits is no member any more, and owes no less; all members can sing. In plain Lean, no program in sight. -/
import Derived.Test.YtobglahldcnnmabGreatDoorLRg
import Derived.Test.YtobglahldcnnmabGreatDoorLY6n
import Derived.Test.YtobglahldcnnmabGreatDoorLYe
import Derived.Test.YtobglahldcnnmabGreatDoorLAr
namespace Go.G
open Go Go.J
set_option linter.unusedSimpArgs false
set_option linter.unusedVariables false
def quitA (a : Int) (k : ByteArray) : TAct := TAct.mk zzB 1 a 2 k ByteArray.empty 0 false ByteArray.empty 0
/-! acts that quit behind all others -/
theorem und_snoc (a : Int) (q : TAct) (h7 : (q.Kind == 7) = false) : ∀ (t : List TAct) (k : Tclub_own), (∀ x ∈ t, x.At ≤ a) → und (a + 1) (t ++ [q]) k = und a t k := by
  intro t
  induction t with
  | nil =>
    intro k _
    show (und (a + 1) [] k || _) = false
    simp [und, h7]
  | cons x t ih =>
    intro k hx
    have hxa := hx x (List.mem_cons_self ..)
    have ht : ∀ k, und (a + 1) (t ++ [q]) k = und a t k := fun k => ih k fun y hy => hx y (List.mem_cons_of_mem _ hy)
    rw [List.cons_append, und, und, ht, ht, decide_eq_true hxa, decide_eq_true (show x.At ≤ a + 1 by omega)]
theorem cntIx_snoc (a : Int) (q : TAct) (h7 : (q.Kind == 7) = false) (hq : q.At = a + 1) : ∀ (t : List TAct) (i : Nat), (∀ x ∈ t, x.At ≤ a) → cntIx (a + 1) i (t ++ [q]) = cntIx a i t ++ [((i + t.length : Nat) : Int)] := by
  intro t
  induction t with
  | nil =>
    intro i _
    simp [cntIx, cnt, und, hq]
  | cons x t ih =>
    intro i hx
    have hxa := hx x (List.mem_cons_self ..)
    have e := ih (i + 1) fun y hy => hx y (List.mem_cons_of_mem _ hy)
    have ec : cnt (a + 1) x (t ++ [q]) = cnt a x t := by
      unfold cnt
      rw [und_snoc a q h7 t _ fun y hy => hx y (List.mem_cons_of_mem _ hy), decide_eq_true hxa, decide_eq_true (show x.At ≤ a + 1 by omega)]
    rw [List.cons_append, cntIx, cntIx, e, ec, List.append_assoc, List.length_cons, show i + 1 + t.length = i + (t.length + 1) by omega]
theorem books_snoc (x : List TAct) (a : Int) (q : TAct) (h7 : (q.Kind == 7) = false) (hq : q.At = a + 1) (hx : ∀ y ∈ x, y.At ≤ a) : booksOf (x ++ [q]) (a + 1) = stepX (booksOf x a) (x.length : Int) q := by
  have key : ∀ (t : List Int) (s : Bk), (∀ z ∈ t, z.toNat < x.length) → t.foldl (stepB (x ++ [q])) s = t.foldl (stepB x) s := by
    intro t
    induction t with
    | nil => intro s _; rfl
    | cons z t ih =>
      intro s hz
      rw [List.foldl_cons, List.foldl_cons, ih _ fun y hy => hz y (List.mem_cons_of_mem _ hy)]
      congr 1
      unfold stepB
      rw [List.getElem?_append_left (hz z (List.mem_cons_self ..))]
  unfold booksOf
  have hk := key (cntIx a 0 x) ⟨[], [], [], []⟩ (fun z hz => by
    obtain ⟨j, rfl, hj⟩ := cntIx_mem a x 0 z hz
    rw [Int.toNat_natCast]; omega)
  rw [cntIx_snoc a q h7 hq x 0 hx, List.foldl_append, hk]
  simp only [List.foldl_cons, List.foldl_nil, Nat.zero_add]
  generalize (cntIx a 0 x).foldl (stepB x) ⟨[], [], [], []⟩ = s
  show stepB (x ++ [q]) s (x.length : Int) = stepX s (x.length : Int) q
  unfold stepB
  rw [Int.toNat_natCast, List.getElem?_append_right (Nat.le_refl _), Nat.sub_self]
  rfl
theorem ok_quit (a : Int) (k : ByteArray) (l : List TAct) (hl : ActsOK l) (hn : l.length ≤ 1000) (ha : isAt a = true) (hk : isKey k = true) (h : ∀ x ∈ l, x.Site ≠ zzB) (hat : ∀ x ∈ l, x.At < a) : ActsOK (l ++ [quitA a k]) := by
  refine ⟨by simp; omega, fun x hx => ?_, fun i x y hx hy => ?_, ?_⟩
  · rcases List.mem_append.1 hx with q | q
    · exact hl.ok x q
    · rw [List.mem_singleton.1 q]
      unfold actF quitA
      simp only [ha, hk]
      kernel_rfl
  · by_cases h1 : i + 1 < l.length
    · rw [List.getElem?_append_left h1] at hy
      rw [List.getElem?_append_left (by omega)] at hx
      exact hl.ord i x y hx hy
    · rw [List.getElem?_append_right (by omega)] at hy
      have h2 : i + 1 = l.length := by
        have := (List.getElem?_eq_some_iff.1 hy).1
        simp at this; omega
      rw [h2, Nat.sub_self] at hy
      simp at hy
      subst hy
      rw [List.getElem?_append_left (by omega)] at hx
      have hlt := hat x (List.mem_of_getElem? hx)
      have e : cI x.At (quitA a k).At < 0 := cI_neg.2 hlt
      unfold cmpA
      rw [show (cI x.At (quitA a k).At != 0) = true by rw [bne_iff_ne]; omega, cond_true]
      exact e
  · rw [List.map_append, List.nodup_append]
    refine ⟨hl.nd, by simp, fun u hu v hv e => ?_⟩
    obtain ⟨x, hx, rfl⟩ := List.mem_map.1 hu
    simp only [List.map_cons, List.map_nil, List.mem_singleton] at hv
    have : (own x).site = zzB := by rw [e, hv]; rfl
    exact h x hx this
/-! members behind it -/
theorem quitRow_last {r : List Tclub_stay} {s : Tclub_stay} (h : r.getLast? = some s) (a : Int) : ∃ r0, r = r0 ++ [s] ∧ quitRow r a = r0 ++ [⟨s.since, a, s.cents⟩] := by
  obtain ⟨r0, e⟩ := List.getLast?_eq_some_iff.1 h
  refine ⟨r0, e, ?_⟩
  unfold quitRow
  rw [h]
  simp only
  rw [e]
  simp
theorem memK_quit (st : Stays) (k : ByteArray) (a : Int) (ha : 0 ≤ a) (j : ByteArray) (hk : memK st k = true) : memK (putM st k (quitRow (rowOf st k) a)) j = (memK st j && decide (j ≠ k)) := by
  obtain ⟨s, h1, -⟩ := memK_row hk
  obtain ⟨r0, e1, e2⟩ := quitRow_last h1 a
  unfold memK
  rw [rowOf_put]
  by_cases hj : j = k
  · subst hj
    rw [if_pos rfl, e2, List.getLast?_concat, decide_eq_false (fun h : j ≠ j => h rfl), Bool.and_false]
    exact decide_eq_false (show ¬ a < 0 by omega)
  · rw [if_neg hj, decide_eq_true hj, Bool.and_true]
theorem members_quit (st : Stays) (k : ByteArray) (a : Int) (ha : 0 ≤ a) (hk : memK st k = true) : membersOf (putM st k (quitRow (rowOf st k) a)) = (membersOf st).filter fun j => decide (j ≠ k) := by
  obtain ⟨-, -, -, h1, -⟩ := memK_row hk
  unfold membersOf
  rw [putM_keys, if_pos h1, List.filter_filter]
  congr 1
  funext j
  rw [memK_quit st k a ha j hk, Bool.and_comm]
theorem members_nodup {st : Stays} (h : (st.map Prod.fst).Nodup) : (membersOf st).Nodup := by
  unfold membersOf
  exact ((sortK_perm _).nodup_iff.2 h).filter _
theorem members_mem {st : Stays} {k : ByteArray} (h : k ∈ membersOf st) : k ∈ st.map Prod.fst ∧ memK st k = true := by
  unfold membersOf at h
  obtain ⟨h1, h2⟩ := List.mem_filter.1 h
  exact ⟨(sortK_perm _).mem_iff.1 h1, h2⟩
theorem sortK_le (l : List ByteArray) : (sortK l).Pairwise fun x y => bytesOf x ≤ bytesOf y := by
  unfold sortK
  rw [List.pairwise_map]
  exact sortS_le (l.map bytesOf)
theorem members_lt {st : Stays} (h : (st.map Prod.fst).Nodup) : (membersOf st).Pairwise fun x y => bytesOf x < bytesOf y := by
  have h1 : (membersOf st).Pairwise fun x y => bytesOf x ≤ bytesOf y := by unfold membersOf; exact (sortK_le _).filter _
  refine (h1.and (members_nodup h)).imp fun {x y} hxy => ?_
  rcases bs_tri (bytesOf x) (bytesOf y) with h3 | h3 | h3
  · exact h3
  · exact (hxy.2 (bytes_inj' h3)).elim
  · exact (hxy.1 h3).elim
theorem filter_ne_len {k : ByteArray} : ∀ {m : List ByteArray}, m.Nodup → k ∈ m → (m.filter fun j => decide (j ≠ k)).length + 1 = m.length := by
  intro m
  induction m with
  | nil => intro _ h; cases h
  | cons x t ih =>
    intro h hk
    rw [List.nodup_cons] at h
    by_cases hx : x = k
    · subst hx
      have e : t.filter (fun j => decide (j ≠ x)) = t := List.filter_eq_self.2 fun y hy => decide_eq_true fun (e : y = x) => h.1 (e ▸ hy)
      rw [List.filter_cons, if_neg (by simp), e]; rfl
    · rw [List.filter_cons, if_pos (by simpa using hx), List.length_cons, List.length_cons, ih h.2 (by
        rcases List.mem_cons.1 hk with e | e
        · exact (hx e.symm).elim
        · exact e)]
/-! what is due -/
theorem dueL_app (a : Int) (r t : List Tclub_stay) : dueL a (r ++ t) = dueL a r + dueL a t := by
  induction r with
  | nil => simp [dueL]
  | cons x r ih => simp only [List.cons_append, dueL, ih]; omega
theorem months_51 {a : Int} {y : Tclub_stay} (h : StayOK a y) (ha : a ≤ 129600000001) : 0 ≤ monthsS a y ∧ monthsS a y ≤ 51 := by
  obtain ⟨h1, h2, h3, h4, h5⟩ := h
  unfold monthsS
  split <;> omega
theorem dueS_51 {a : Int} {y : Tclub_stay} (h : StayOK a y) (ha : a ≤ 129600000001) : 0 ≤ dueS a y ∧ dueS a y ≤ 51000000000 := by
  obtain ⟨h1, h2⟩ := months_51 h ha
  obtain ⟨-, -, -, h4, h5⟩ := h
  unfold dueS
  refine ⟨Int.mul_nonneg h1 h4, ?_⟩
  exact Int.le_trans (Int.mul_le_mul h2 h5 h4 (by omega)) (by omega)
theorem dueL_51 {a : Int} (ha : a ≤ 129600000001) : ∀ (r : List Tclub_stay), (∀ y ∈ r, StayOK a y) → dueL a r ≤ 51000000000 * (r.length : Int) := by
  intro r
  induction r with
  | nil => intro _; simp [dueL]
  | cons y r ih =>
    intro h
    have h1 := ih fun z hz => h z (List.mem_cons_of_mem _ hz)
    have h2 := dueS_51 (h y (List.mem_cons_self ..)) ha
    simp only [dueL, List.length_cons]
    omega
theorem dueL_mono {a : Int} : ∀ (r : List Tclub_stay), (∀ y ∈ r, StayOK a y) → dueL a r ≤ dueL (a + 1) r := by
  intro r
  induction r with
  | nil => intro _; simp [dueL]
  | cons y r ih =>
    intro h
    have h1 := ih fun z hz => h z (List.mem_cons_of_mem _ hz)
    obtain ⟨-, h2, -, h4, -⟩ := h y (List.mem_cons_self ..)
    have h3 : monthsS a y ≤ monthsS (a + 1) y := by unfold monthsS; split <;> omega
    have h5 : dueS a y ≤ dueS (a + 1) y := Int.mul_le_mul_of_nonneg_right h3 h4
    simp only [dueL]
    omega
theorem due_quit {a : Int} {r : List Tclub_stay} {s : Tclub_stay} (h : ∀ y ∈ r, StayOK a y) (hl : r.getLast? = some s) (hs : s.till < 0) : dueL a r ≤ dueL (a + 1) (quitRow r (a + 1)) := by
  obtain ⟨r0, e1, e2⟩ := quitRow_last hl (a + 1)
  rw [e2, e1, dueL_app, dueL_app]
  have h1 := dueL_mono r0 fun y hy => h y (by rw [e1]; simp [hy])
  obtain ⟨g1, g2, -, g4, -⟩ := h s (by rw [e1]; simp)
  have h2 : dueS a s = dueS (a + 1) ⟨s.since, a + 1, s.cents⟩ := by
    unfold dueS monthsS
    simp only
    rw [if_pos hs, if_neg (by omega)]
    congr 1
    omega
  simp only [dueL, h2]
  omega
/-! bounds -/
theorem books_pinvN (l : List TAct) (a : Int) (hok : ActsOK l) (hw : ∀ x ∈ l, x.Who ∈ whoL) (ha : 0 ≤ a) : PInv a l.length (booksOf l a) := by
  have hpw := ord_pw hok.ord
  have hlen := hok.len
  have key : ∀ (t : List Int) (s : Bk) (n : Nat) (T : Int), (∀ z ∈ t, ∃ (j : Nat) (x : TAct), z = (j : Int) ∧ l[j]? = some x ∧ x.At ≤ a ∧ T ≤ x.At) → t.Pairwise (· < ·) → PInv T n s → T ≤ a → n + t.length ≤ 2000 → ∃ T', T' ≤ a ∧ PInv T' (n + t.length) (t.foldl (stepB l) s) := by
    intro t
    induction t with
    | nil => intro s n T _ _ h hT _; exact ⟨T, hT, h⟩
    | cons z t ih =>
      intro s n T hz hp h hT hn
      simp only [List.length_cons] at hn
      obtain ⟨j, x, rfl, hx, hxa, hTx⟩ := hz z (List.mem_cons_self ..)
      rw [List.pairwise_cons] at hp
      have e1 : stepB l s (j : Int) = stepX s j x := by unfold stepB; rw [Int.toNat_natCast, hx]
      obtain ⟨T', g1, g2⟩ := ih (stepX s j x) (n + 1) x.At (fun z' hz' => by
        obtain ⟨j', x', rfl, hx', hxa', -⟩ := hz z' (List.mem_cons_of_mem _ hz')
        refine ⟨j', x', rfl, hx', hxa', ?_⟩
        have hlt := hp.1 _ hz'
        obtain ⟨h1, rfl⟩ := List.getElem?_eq_some_iff.1 hx
        obtain ⟨h2, rfl⟩ := List.getElem?_eq_some_iff.1 hx'
        exact List.pairwise_iff_getElem.1 hpw j j' h1 h2 (by omega)) hp.2 (h.step (by omega) j x (hok.ok x (List.mem_of_getElem? hx)) (hw x (List.mem_of_getElem? hx)) hTx) hxa (by omega)
      refine ⟨T', g1, ?_⟩
      rw [List.foldl_cons, e1, List.length_cons, show n + (t.length + 1) = n + 1 + t.length by omega]
      exact g2
  have hc := cntIx_len a l 0
  obtain ⟨T', g1, g2⟩ := key (cntIx a 0 l) ⟨[], [], [], []⟩ 0 0 (fun z hz => by
    obtain ⟨j, x, rfl, hx, hxa⟩ := cntIx_at a l 0 z hz
    obtain ⟨-, -, hat, -⟩ := actF_rng (hok.ok x (List.mem_of_getElem? hx))
    exact ⟨0 + j, x, rfl, by simpa using hx, hxa, hat.1⟩) (cntIx_lt a l 0) ⟨by simp, by simp, by simp, by simp, fun k y hy => by simp [rowOf, lkM] at hy⟩ ha (by omega)
  refine ⟨g2.pk, fun p hp => ?_, g2.sk, g2.sm, fun k y hy => ?_⟩
  · have := g2.pv p hp
    exact ⟨this.1, this.2.1, by omega⟩
  · have := g2.sr k y hy
    omega
theorem books_bokN (l : List TAct) (a : Int) : BOK l.length (booksOf l a) := by
  have key : ∀ (t : List Int) (s : Bk) (n : Nat), BOK n s → BOK (n + t.length) (t.foldl (stepB l) s) := by
    intro t
    induction t with
    | nil => intro s n h; exact h
    | cons z t ih =>
      intro s n h
      have h1 : BOK (n + 1) (stepB l s z) := by
        unfold stepB
        cases l[z.toNat]? with
        | none => exact ⟨fun k => Nat.le_succ_of_le (h.row k), Nat.le_succ_of_le h.len, Nat.le_succ_of_le h.rf⟩
        | some x => exact h.step z x
      have := ih _ _ h1
      rw [List.foldl_cons, List.length_cons, show n + (t.length + 1) = n + 1 + t.length by omega]
      exact this
  have hc := cntIx_len a l 0
  have := key (cntIx a 0 l) ⟨[], [], [], []⟩ 0 ⟨fun k => by simp [rowOf, lkM], by simp, by simp⟩
  unfold booksOf
  exact ⟨fun k => by have := this.row k; omega, by have := this.len; omega, by have := this.rf; omega⟩
theorem PInv.wide {a : Int} {n : Nat} {s : Bk} (h : PInv a n s) (hn : n ≤ 2000) : PInv a 2000 s := ⟨h.pk, fun p hp => by have := h.pv p hp; exact ⟨this.1, this.2.1, by omega⟩, h.sk, h.sm, h.sr⟩
theorem BOK.wide {n : Nat} {s : Bk} (h : BOK n s) (hn : n ≤ 2000) : BOK 2000 s := ⟨fun k => by have := h.row k; omega, by have := h.len; omega, by have := h.rf; omega⟩
theorem paid_N {a : Int} {n : Nat} {s : Bk} (h : PInv a n s) (k : ByteArray) : 0 ≤ paidOf s.pd k ∧ paidOf s.pd k ≤ 1000000000 * (n : Int) := by
  unfold paidOf
  cases hl : lkM s.pd k with
  | none => simp; omega
  | some v =>
    obtain ⟨p, hp, e⟩ : ∃ p ∈ s.pd, p.2 = v := by
      by_cases hh : ∃ p ∈ s.pd, p.2 = v
      · exact hh
      · exfalso
        have key : ∀ (l : List (ByteArray × Int)), (∀ p ∈ l, p.2 ≠ v) → lkM l k ≠ some v := by
          intro l
          induction l with
          | nil => intro _ e; cases e
          | cons q l ih =>
            intro hq
            rw [lkM_cons]
            split
            · intro e; exact hq q (List.mem_cons_self ..) (Option.some.inj e)
            · exact ih fun p hp => hq p (List.mem_cons_of_mem _ hp)
        exact key s.pd (fun p hp e => hh ⟨p, hp, e⟩) hl
    have := h.pv p hp
    simp only [Option.getD_some]
    omega
theorem Balance_spec (l : List TAct) (a : Int) (k : ByteArray) (hok : ActsOK l) (hw : ∀ x ∈ l, x.Who ∈ whoL) (hn : l.length ≤ 17) (ha : isAt a = true) (ha' : a ≤ 129600000001) (hk : isKey k = true) : m_club_Balance l k a = some (paidOf (booksOf l a).pd k - dueL a (rowOf (booksOf l a).st k), 0) := by
  have ha0 : 0 ≤ a := by
    unfold isAt inR at ha
    have := of_decide_eq_true ha
    omega
  have hp := books_pinvN l a hok hw ha0
  have hb := books_bokN l a
  have h0 : askF l a = 0 := askF_of hok ha
  have hf : nameF l k a = 0 := by
    unfold nameF
    rw [h0, show ((0 : Int) != 0) = false from rfl, cond_false, hk]; rfl
  have hs := balance_spec (hp.wide (by omega)) (hb.wide (by omega)) (show a ≤ 345686399999 by omega) k
  have h1 := paid_N hp k
  have h2 := dueL_51 ha' (rowOf (booksOf l a).st k) (hp.stays k)
  have h3 := hb.row k
  unfold m_club_Balance
  rw [named_spec, if_pos hf, Option.bind_some]
  simp only [optB_some]
  rw [show ((0 : Int) != 0) = false from rfl, ifB_false]
  unfold bookT
  simp only
  rw [hs, Option.bind_some]
  unfold balOf
  rw [if_neg (by omega)]
/-! all members can sing -/
def singA (k : ByteArray) : TSings := TSings.mk k (ByteArray.mk [103, 108, 111, 114, 105, 97].toArray) (ByteArray.mk [97, 108, 116, 111].toArray)
def slotA : TSlot := TSlot.mk (ByteArray.mk [115].toArray) (ByteArray.mk [104, 97, 108, 108].toArray) (ByteArray.mk [103, 108, 111, 114, 105, 97].toArray) [] (TWindow.mk 0 10)
theorem cb_lt {a b : ByteArray} (h : bytesOf a < bytesOf b) : m_strings_Compare a b = some (-1) := by
  have : Lib.compareBytes (bytesOf a) (bytesOf b) = -1 := by
    rcases cb_spec (bytesOf a) (bytesOf b) with ⟨h1, h2⟩ | ⟨h1, h2⟩ | ⟨h1, h2⟩
    · exact h1
    · exact (bs_asym h (by rw [h2] at h ⊢; exact h)).elim
    · exact (bs_asym h h2).elim
  unfold m_strings_Compare
  exact congrArg some this
theorem keys3 : ∀ k ∈ who3, isKey k = true := by
  intro k hk
  unfold who3 at hk
  simp only [List.mem_cons, List.not_mem_nil, or_false] at hk
  rcases hk with rfl | rfl | rfl <;> kernel_rfl
theorem CheckSings_ok (m : List ByteArray) (hm : m.Pairwise fun x y => bytesOf x < bytesOf y) (hk : ∀ k ∈ m, isKey k = true) (hl : m.length ≤ 2000) : m_rehearse_CheckSings (m.map singA) = some 0 := by
  unfold m_rehearse_CheckSings
  rw [decide_eq_false (by simp; omega), ifB_false]
  obtain ⟨s, h1, -⟩ := rangeM_invx (m_rehearse_CheckSings_l1 (m.map singA)) (m.map singA) (fun _ _ => True) (by
    intro i x s hx _
    rw [List.getElem?_map] at hx
    obtain ⟨k, hki, rfl⟩ := Option.map_eq_some_iff.1 hx
    unfold m_rehearse_CheckSings_l1
    rw [isKey_prog, isKey_prog, isKey_prog, show isKey (singA k).Singer = true from hk k (List.mem_of_getElem? hki), show isKey (singA k).Piece = true by kernel_rfl, show isKey (singA k).Part = true by kernel_rfl]
    simp only [Option.bind_some, Bool.not_true, ifB_false, fin_inl]
    by_cases h0 : i = 0
    · subst h0
      exact ⟨(), rfl, trivial⟩
    · have hi := (List.getElem?_eq_some_iff.1 hki).1
      have hg : m[i - 1]? = some (m[i - 1]'(by omega)) := List.getElem?_eq_getElem (by omega)
      have hlt : bytesOf (m[i - 1]'(by omega)) < bytesOf k := by
        obtain ⟨h2, e⟩ := List.getElem?_eq_some_iff.1 hki
        have := List.pairwise_iff_getElem.1 hm (i - 1) i (by omega) h2 (by omega)
        rwa [e] at this
      rw [show ((i : Int) == 0) = false by simpa using h0, ifB_false, w64_id (by omega), getI_of (n := i - 1) (by omega) (show (m.map singA)[i - 1]? = some (singA (m[i - 1]'(by omega))) by rw [List.getElem?_map, hg]; rfl)]
      simp only [Option.bind_some]
      rw [show m_strings_Compare (singA (m[i - 1]'(by omega))).Singer (singA k).Singer = some (-1) from cb_lt hlt, Option.bind_some, show m_strings_Compare (singA (m[i - 1]'(by omega))).Piece (singA k).Piece = some 0 by kernel_rfl, Option.bind_some]
      exact ⟨(), rfl, trivial⟩) () trivial
  rw [h1]; rfl
theorem asked_all (m : List ByteArray) (hl : m.length ≤ 2000) : m_rehearse_asked slotA (m.map singA) = some m := by
  unfold m_rehearse_asked
  obtain ⟨s, h1, h2⟩ := rangeM_invx (m_rehearse_asked_l1 slotA) (m.map singA) (fun i u => u = m.take i) (by
    rintro i x s hx rfl
    rw [List.getElem?_map] at hx
    obtain ⟨k, hki, rfl⟩ := Option.map_eq_some_iff.1 hx
    unfold m_rehearse_asked_l1
    rw [show m_rehearse_isAsked slotA (singA k) = some true by kernel_rfl, Option.bind_some, ifB_true, appM_of (by simp; omega) (by omega), Option.bind_some]
    refine ⟨_, rfl, ?_⟩
    rw [List.take_add_one, hki]; rfl) [] rfl
  rw [h1, Option.bind_some, fin_brk, h2, List.length_map, List.take_length]
theorem aways_nil : m_rehearse_aways [] = some [] := by
  unfold m_rehearse_aways
  rw [rangeM_nil, Option.bind_some, fin_brk, List.map_nil, anyOrd_nil, rangeM_nil]; rfl
theorem Can_all (m : List ByteArray) (hm : m.Pairwise fun x y => bytesOf x < bytesOf y) (hk : ∀ k ∈ m, isKey k = true) (hl : m.length ≤ 2000) : m_rehearse_Can [slotA] (m.map singA) [] (ByteArray.mk [115].toArray) = some (m, 0) := by
  unfold m_rehearse_Can m_rehearse_slotsFault
  rw [show m_rehearse_CheckSlots [slotA] = some 0 by kernel_rfl, Option.bind_some, show ((0 : Int) != 0) = false from rfl, ifB_false, CheckSings_ok m hm hk hl, Option.bind_some, Option.bind_some, show ((0 : Int) != 0) = false from rfl, ifB_false, show m_rehearse_CheckAway [] = some 0 by kernel_rfl, Option.bind_some, show ((0 : Int) != 0) = false from rfl, ifB_false, show m_rehearse_slotAt [slotA] (ByteArray.mk [115].toArray) = some 0 by kernel_rfl, Option.bind_some, show (decide ((0 : Int) < 0)) = false from rfl, ifB_false, aways_nil, Option.bind_some, show getI [slotA] 0 = some slotA from rfl, Option.bind_some, asked_all m hl, Option.bind_some]
  obtain ⟨s, h1, h2⟩ := rangeM_invx (m_rehearse_Can_l1 [slotA] 0 []) m (fun i u => u = m.take i) (by
    rintro i k s hki rfl
    unfold m_rehearse_Can_l1
    rw [show getI [slotA] 0 = some slotA from rfl, Option.bind_some, show m_rehearse_within ((lkM ([] : List (ByteArray × List TWindow)) k).getD []) slotA.Time = some [] from rfl, Option.bind_some, show ((([] : List TWindow).length : Int) == 0) = true from rfl, ifB_true, appM_of (by simp; omega) (by omega), Option.bind_some]
    refine ⟨_, rfl, ?_⟩
    rw [List.take_add_one, hki]; rfl) [] rfl
  rw [h1, Option.bind_some, fin_brk, h2, List.take_length]
theorem EqualS_refl (a : List ByteArray) : m_slices_Equal_string_string a a = some true := by
  unfold m_slices_Equal_string_string
  rw [show ((a.length : Int) != (a.length : Int)) = false by simp, ifB_false]
  obtain ⟨s, h1, -⟩ := rangeM_invx (m_slices_Equal_string_string_l1 a) a (fun _ _ => True) (by
    intro i x s hx _
    unfold m_slices_Equal_string_string_l1
    rw [getI_of rfl hx, Option.bind_some, show (!(x.toList == x.toList)) = false by simp, ifB_false]
    exact ⟨_, rfl, trivial⟩) () trivial
  rw [h1]; rfl
theorem CloneA (l : List TAct) (h : l.length ≤ 1000) : m_slices_Clone_api_Act_api_Act l = some l := by
  unfold m_slices_Clone_api_Act_api_Act
  rw [appM_of (by simp; omega) (by omega)]; rfl
theorem ContainsS_no (a : List ByteArray) (k : ByteArray) (h : k ∉ a) : m_slices_Contains_string_string a k = some false := by
  unfold m_slices_Contains_string_string m_slices_Index_string_string
  obtain ⟨s, h1, -⟩ := rangeM_invx (m_slices_Index_string_string_l1 k) a (fun _ _ => True) (by
    intro i x s hx _
    unfold m_slices_Index_string_string_l1
    rw [show (k.toList == x.toList) = false by
      rw [beq_eq_false_iff_ne]
      intro e
      exact h ((ba_toList_inj.1 e) ▸ List.mem_of_getElem? hx), ifB_false]
    exact ⟨_, rfl, trivial⟩) () trivial
  rw [h1]; rfl
theorem h10facts_true : m_gleetop_h10facts = some true := by
  unfold m_gleetop_h10facts
  rw [ready_order, Option.bind_some, ready_name, Option.bind_some, show (TCame.mk 5 (ByteArray.mk [97, 110, 110].toArray) false) = TCame.mk 5 annB false from rfl, ready_there, Option.bind_some,
    show m_club_Members [(TAct.mk (ByteArray.mk [97].toArray) 1 0 1 (ByteArray.mk [97, 110, 110].toArray) ByteArray.empty 0 false ByteArray.empty 0)] 0 = some ([annA], 0) from one_member, Option.bind_some]
  simp only
  rw [show ∀ z : ByteArray, (z.toList == z.toList) = true from fun z => by simp]
  rfl
theorem who3_whoL {k : ByteArray} (h : k ∈ who3) : k ∈ whoL := by
  unfold who3 at h
  unfold whoL
  simp only [List.mem_cons, List.not_mem_nil, or_false] at h ⊢
  rcases h with rfl | rfl | rfl
  · exact .inl rfl
  · exact .inr (.inl rfl)
  · exact .inr (.inr (.inl rfl))
theorem TopClubSings_true (L : List Int) : m_gleetop_TopClubSings L = some true := by
  unfold m_gleetop_TopClubSings
  obtain ⟨n, h1, hn1, hn2⟩ := Range_spec L (p := 0) (a := 0) (b := 16) (by omega) (by omega) (by omega) (by omega) (by omega)
  rw [h1, Option.bind_some]
  obtain ⟨x, q, h2, hq1, hq2, hok, hlen, hx⟩ := RightActs_spec L (p := 0 + 1) (n := n) (by omega) (by omega) hn1 (by omega)
  simp only
  rw [h2, Option.bind_some]
  simp only
  have hat : isAt 129600000000 = true := by kernel_rfl
  have hat1 : isAt 129600000001 = true := by kernel_rfl
  have hsite : ∀ y ∈ x, y.Site ≠ zzB := fun y hy => (hx y hy).2.1
  have hwho : ∀ y ∈ x, y.Who ∈ whoL := fun y hy => (hx y hy).2.2
  have hlate : ∀ y ∈ x, y.At ≤ 129600000000 := fun y hy => by have := (hx y hy).1; omega
  have hp := books_pinvN x 129600000000 hok hwho (by omega)
  have hb := books_bokN x 129600000000
  have ax := askF_of hok hat
  rw [Members_spec, if_pos ax, Option.bind_some]
  simp only
  rw [show ((0 : Int) != 0) = false from rfl, ifB_false]
  have hmm : ∀ k ∈ membersOf (booksOf x 129600000000).st, k ∈ who3 ∧ memK (booksOf x 129600000000).st k = true := fun k hk => by
    obtain ⟨g1, g2⟩ := members_mem hk
    obtain ⟨p, hp1, rfl⟩ := List.mem_map.1 g1
    exact ⟨hp.sm p hp1, g2⟩
  have hnd := members_nodup hp.sk
  have hlt := members_lt hp.sk
  have hml : (membersOf (booksOf x 129600000000).st).length ≤ 2000 := by
    have := hnd.length_le_of_subset (l₂ := who3) fun k hk => (hmm k hk).1
    have e : who3.length = 3 := rfl
    omega
  have hmk := hmm
  generalize hM : membersOf (booksOf x 129600000000).st = m at hmm hnd hlt hml
  obtain ⟨g, g1, g2⟩ := rangeM_invx m_gleetop_TopClubSings_l1 m (fun i u => u = (m.take i).map singA) (by
    rintro i k s hki rfl
    have hi := (List.getElem?_eq_some_iff.1 hki).1
    unfold m_gleetop_TopClubSings_l1
    rw [appM_of (by simp; omega) (by omega), Option.bind_some]
    refine ⟨_, rfl, ?_⟩
    rw [List.take_add_one, hki]
    simp [singA]) [] rfl
  rw [List.take_length] at g2
  rw [g1, Option.bind_some, fin_brk, g2]
  rw [show [(TSlot.mk (ByteArray.mk [115].toArray) (ByteArray.mk [104, 97, 108, 108].toArray) (ByteArray.mk [103, 108, 111, 114, 105, 97].toArray) [] (TWindow.mk 0 10))] = [slotA] from rfl, Can_all m hlt (fun k hk => keys3 k (hmm k hk).1) hml, Option.bind_some]
  simp only
  rw [show ((0 : Int) != 0) = false from rfl, ifB_false, EqualS_refl, Option.bind_some, Option.bind_some, fin_inl, Bool.not_true, ifB_false]
  obtain ⟨u, k1, -⟩ := rangeM_invx (m_gleetop_TopClubSings_l2 (x, q) (m, 0)) m (fun _ _ => True) (by
    intro i k s hki _
    have hkm := List.mem_of_getElem? hki
    obtain ⟨hk3, hkM⟩ := hmm k hkm
    have hkey := keys3 k hk3
    have hy : ActsOK (x ++ [quitA 129600000001 k]) := ok_quit 129600000001 k x hok (by omega) hat1 hkey hsite fun y hy => by have := hlate y hy; omega
    have hyw : ∀ y ∈ x ++ [quitA 129600000001 k], y.Who ∈ whoL := fun y hy => by
      rcases List.mem_append.1 hy with g | g
      · exact hwho y g
      · rw [List.mem_singleton.1 g]; exact who3_whoL hk3
    have ay := askF_of hy hat1
    have eb : booksOf (x ++ [quitA 129600000001 k]) 129600000001 = stepX (booksOf x 129600000000) (x.length : Int) (quitA 129600000001 k) := books_snoc x 129600000000 (quitA 129600000001 k) rfl rfl hlate
    have ep : perm (booksOf x 129600000000).st (booksOf x 129600000000).mo (quitA 129600000001 k) = true := hkM
    have est : (booksOf (x ++ [quitA 129600000001 k]) 129600000001).st = putM (booksOf x 129600000000).st k (quitRow (rowOf (booksOf x 129600000000).st k) 129600000001) := by
      rw [eb]
      unfold stepX
      rw [if_pos ep]
      unfold actB
      rfl
    have epd : (booksOf (x ++ [quitA 129600000001 k]) 129600000001).pd = (booksOf x 129600000000).pd := by
      rw [eb]
      unfold stepX
      rw [if_pos ep]
      unfold actB
      rfl
    unfold m_gleetop_TopClubSings_l2
    simp only
    rw [CloneA x (by omega), Option.bind_some, show w64 (129600000000 + 1) = 129600000001 from rfl, appM_of (by simp; omega) (by omega), Option.bind_some]
    rw [show x ++ [(TAct.mk (ByteArray.mk [122, 122].toArray) 1 129600000001 2 k ByteArray.empty 0 false ByteArray.empty 0)] = x ++ [quitA 129600000001 k] from rfl]
    rw [Members_spec, if_pos ay, Option.bind_some, Balance_spec x 129600000000 k hok hwho (by omega) hat (by omega) hkey, Option.bind_some, Balance_spec (x ++ [quitA 129600000001 k]) 129600000001 k hy hyw (by simp; omega) hat1 (by omega) hkey, Option.bind_some]
    simp only
    rw [show ((0 : Int) != 0) = false from rfl, ifB_false, ifB_false, est, epd, members_quit _ k _ (by omega) hkM, hM, ContainsS_no _ k (by simp), Option.bind_some, ifB_false]
    have hfl : (m.filter fun j => decide (j ≠ k)).length = m.length - 1 := by
      have := filter_ne_len hnd hkm
      omega
    have hpos : 0 < m.length := List.length_pos_of_mem hkm
    rw [hfl, show ((((m.length - 1 : Nat) : Int)) != (w64 ((m.length : Int) - 1))) = false by
      rw [w64_id (by omega), bne_eq_false_iff_eq]; omega, ifB_false, rowOf_put, if_pos rfl]
    obtain ⟨s', l1, l2, -⟩ := memK_row hkM
    have hdue := due_quit (a := 129600000000) (hp.stays k) l1 l2
    rw [show (129600000000 : Int) + 1 = 129600000001 from rfl] at hdue
    rw [decide_eq_false (by omega)]
    exact ⟨(), rfl, trivial⟩) () trivial
  rw [k1, Option.bind_some, fin_brk, h10facts_true]; rfl
end Go.G
