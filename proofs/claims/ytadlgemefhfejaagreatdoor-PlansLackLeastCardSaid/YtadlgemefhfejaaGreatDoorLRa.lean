/- LRa: who is away, wishes, windows for rehearsals: what is wrong with them; when all are away; what is wished. In plain Lean, no program in sight. -/
import Derived.Test.YtadlgemefhfejaaGreatDoorLRw
import Derived.Test.YtadlgemefhfejaaGreatDoorLM
namespace Go.G
open Go Go.J
set_option linter.unusedSimpArgs false
set_option linter.unusedVariables false
/-! loops that end at the first fault -/
theorem loop_out {α : Type} (step : Nat → α → Unit → Option (Flow Unit Int)) (f : Nat → α → Int) (xs : List α) (h : ∀ (i : Nat) x, xs[i]? = some x → step i x () = some (out1S (f i x))) :
    ∃ e, ((rangeM step 0 xs ()).bind fun f7 => Flow.fin f7 fun _ => some 0) = some e ∧ (e = 0 ↔ ∀ (i : Nat) x, xs[i]? = some x → f i x = 0) := by
  have key : ∀ (t : List α) (i : Nat), xs.drop i = t → ∃ e, ((rangeM step i t ()).bind fun f7 => Flow.fin f7 fun _ => some 0) = some e ∧ (e = 0 ↔ ∀ (j : Nat) x, i ≤ j → xs[j]? = some x → f j x = 0) := by
    intro t
    induction t with
    | nil =>
      intro i hd
      refine ⟨0, rfl, fun _ j x hj hx => ?_, fun _ => rfl⟩
      have := (List.getElem?_eq_some_iff.1 hx).1
      have := List.drop_eq_nil_iff.1 hd
      omega
    | cons x t ih =>
      intro i hd
      have hx : xs[i]? = some x := by
        have := congrArg (fun l => l[0]?) hd
        simpa using this
      have ht : xs.drop (i + 1) = t := by
        have := congrArg List.tail hd
        simpa [List.tail_drop] using this
      rw [rangeM_cons, h i x hx]
      unfold out1S
      cases hf : (f i x != 0) with
      | true =>
        rw [cond_true, Option.bind_some, run_ret]
        refine ⟨f i x, rfl, fun e => absurd e (by simpa using hf), fun g => g i x (Nat.le_refl _) hx⟩
      | false =>
        rw [cond_false, Option.bind_some, run_nxt]
        obtain ⟨e, h1, h2⟩ := ih (i + 1) ht
        refine ⟨e, h1, fun he j y hj hy => ?_, fun g => h2.2 fun j y hj hy => g j y (by omega) hy⟩
        by_cases hji : j = i
        · subst hji
          rw [hx] at hy; cases hy
          simpa using hf
        · exact h2.1 he j y (by omega) hy
  obtain ⟨e, h1, h2⟩ := key xs 0 rfl
  exact ⟨e, h1, h2.trans ⟨fun g i x hx => g i x (Nat.zero_le _) hx, fun g i x _ hx => g i x hx⟩⟩
theorem isT_iff {w : TWindow} : isT w = true ↔ 0 ≤ w.From ∧ w.From < w.To ∧ w.To ≤ EndI := by unfold isT EndI; simp only [decide_eq_true_eq]
/-! who is away -/
def ordA (p x : TAway) : Bool := decide (bytesOf x.Singer < bytesOf p.Singer) || (sameB p.Singer x.Singer && decide (x.Time.From ≤ p.Time.From))
def awF (a : List TAway) (i : Nat) (x : TAway) : Int :=
  bif !isKey x.Singer then 5 else bif !isT x.Time then 1 else bif (if i = 0 then false else match a[i - 1]? with | some p => ordA p x | none => false) then 7 else 0
theorem aw_prog (a : List TAway) (hl : a.length ≤ 1000000) (i : Nat) (x : TAway) (hx : a[i]? = some x) : m_rehearse_CheckAway_l1 a i x () = some (out1S (awF a i x)) := by
  have hi := (List.getElem?_eq_some_iff.1 hx).1
  unfold m_rehearse_CheckAway_l1 awF out1S
  rw [isKey_prog, IsTime_T]
  cases isKey x.Singer
  · rfl
  cases isT x.Time
  · rfl
  simp only [Option.bind_some, Bool.not_true, ifB_false, cond_false]
  by_cases h0 : i = 0
  · rw [if_pos h0, decide_eq_false (by omega)]; rfl
  · have hg : a[i - 1]? = some (a[i - 1]'(by omega)) := List.getElem?_eq_getElem (by omega)
    rw [if_neg h0, decide_eq_true (by omega), ifB_true, w64_id (by omega), getI_of (n := i - 1) (by omega) hg, hg]
    generalize (a[i - 1]'(by omega)) = p
    simp only [Option.bind_some]
    rw [show m_strings_Compare p.Singer x.Singer = some (Lib.compareBytes (bytesOf p.Singer) (bytesOf x.Singer)) from rfl, Option.bind_some, cI_s, Option.bind_some, Or_two, Option.bind_some, Option.bind_some, fin_inl]
    have e : decide ((bif Lib.compareBytes (bytesOf p.Singer) (bytesOf x.Singer) != 0 then Lib.compareBytes (bytesOf p.Singer) (bytesOf x.Singer) else bif decide (p.Time.From < x.Time.From) then -1 else bif decide (p.Time.From > x.Time.From) then 1 else 0) ≥ 0) = ordA p x := by
      unfold ordA
      rcases cb_spec (bytesOf p.Singer) (bytesOf x.Singer) with ⟨g1, g2⟩ | ⟨g1, g2⟩ | ⟨g1, g2⟩
      · rw [g1, decide_eq_false (show ¬ bytesOf x.Singer < bytesOf p.Singer from bs_asym g2), show sameB p.Singer x.Singer = false from Bool.eq_false_iff.2 fun g => by rw [sameB_iff.1 g] at g2; exact bs_irr _ g2]; rfl
      · rw [g1, show sameB p.Singer x.Singer = true from sameB_iff.2 (ba_toList_inj.1 (by rw [ByteArray.toList_eq, ByteArray.toList_eq]; exact g2)), decide_eq_false (show ¬ bytesOf x.Singer < bytesOf p.Singer from fun g => by rw [g2] at g; exact bs_irr _ g)]
        by_cases k1 : p.Time.From < x.Time.From
        · rw [decide_eq_true k1, decide_eq_false (show ¬ x.Time.From ≤ p.Time.From by omega)]; rfl
        · by_cases k2 : p.Time.From > x.Time.From
          · rw [decide_eq_false k1, decide_eq_true k2, decide_eq_true (show x.Time.From ≤ p.Time.From by omega)]; rfl
          · rw [decide_eq_false k1, decide_eq_false k2, decide_eq_true (show x.Time.From ≤ p.Time.From by omega)]; rfl
      · rw [g1, decide_eq_true g2]; rfl
    rw [e]
    cases ordA p x <;> rfl
theorem aw_ref (a : List TAway) (hl : a.length ≤ 1000000) (i : Nat) (x : TAway) (hx : a[i]? = some x) : m_gleeref2_AwayFault_l1 a i x () = some (out1S (awF a i x)) := by
  have hi := (List.getElem?_eq_some_iff.1 hx).1
  unfold m_gleeref2_AwayFault_l1 awF out1S
  rw [isKey_ref, timeFault_T]
  cases isKey x.Singer
  · rfl
  cases isT x.Time
  · rfl
  simp only [Option.bind_some, Bool.not_true, ifB_false, cond_false, cond_true, bne_self_eq_false]
  by_cases h0 : i = 0
  · rw [if_pos h0, decide_eq_false (by omega)]; rfl
  · have hg : a[i - 1]? = some (a[i - 1]'(by omega)) := List.getElem?_eq_getElem (by omega)
    rw [if_neg h0, decide_eq_true (by omega), ifB_true, w64_id (by omega), getI_of (n := i - 1) (by omega) hg, hg]
    generalize (a[i - 1]'(by omega)) = p
    simp only [Option.bind_some]
    rw [Go.Proofs.bytesLess_eq, ByteArray.toList_eq x.Singer, ByteArray.toList_eq p.Singer]
    unfold ordA
    have e : (bytesOf x.Singer == bytesOf p.Singer) = sameB p.Singer x.Singer := by
      unfold sameB
      rw [ByteArray.toList_eq, ByteArray.toList_eq]
      exact BEq.comm
    change ifB (decide (bytesOf x.Singer < bytesOf p.Singer)) _ (ifB (bytesOf x.Singer == bytesOf p.Singer) _ _) = _
    rw [e]
    cases decide (bytesOf x.Singer < bytesOf p.Singer)
    · cases sameB p.Singer x.Singer
      · rfl
      · cases decide (x.Time.From ≤ p.Time.From) <;> rfl
    · rfl
def AwOK (a : List TAway) : Prop := a.length ≤ 1000 ∧ ∀ (i : Nat) x, a[i]? = some x → awF a i x = 0
theorem Away_zero (a : List TAway) : ∃ e, m_gleeref2_AwayFault a = some e ∧ (e = 0 → AwOK a) := by
  unfold m_gleeref2_AwayFault
  by_cases h : (a.length : Int) > 1000
  · rw [decide_eq_true h, ifB_true]; exact ⟨2, rfl, fun g => by cases g⟩
  · rw [decide_eq_false h, ifB_false]
    obtain ⟨e, h1, h2⟩ := loop_out _ (awF a) a (aw_ref a (by omega))
    exact ⟨e, h1, fun g => ⟨by omega, h2.1 g⟩⟩
theorem Away_ok {a : List TAway} (h : AwOK a) : m_rehearse_CheckAway a = some 0 := by
  unfold m_rehearse_CheckAway
  rw [decide_eq_false (by have := h.1; omega), ifB_false]
  obtain ⟨e, h1, h2⟩ := loop_out _ (awF a) a (aw_prog a (by have := h.1; omega))
  rw [h1, h2.2 h.2]
def timesOf (a : List TAway) (s : ByteArray) : List TWindow := (a.filter fun x => decide (x.Singer = s)).map (·.Time)
/-- the list is in order -/
theorem aw_pw {a : List TAway} (h : AwOK a) : a.Pairwise fun p x => bytesOf p.Singer < bytesOf x.Singer ∨ (p.Singer = x.Singer ∧ p.Time.From < x.Time.From) := by
  have hs : ∀ i : Nat, ∀ (h1 : i + 1 < a.length), bytesOf (a[i]'(by omega)).Singer < bytesOf a[i + 1].Singer ∨ ((a[i]'(by omega)).Singer = a[i + 1].Singer ∧ (a[i]'(by omega)).Time.From < a[i + 1].Time.From) := by
    intro i h1
    have := h.2 (i + 1) a[i + 1] (List.getElem?_eq_getElem h1)
    unfold awF at this
    rw [if_neg (by omega), Nat.add_sub_cancel, List.getElem?_eq_getElem (by omega)] at this
    simp only at this
    cases hk : isKey a[i + 1].Singer <;> rw [hk] at this
    · cases this
    cases ht : isT a[i + 1].Time <;> rw [ht] at this
    · cases this
    cases ho : ordA (a[i]'(by omega)) a[i + 1] <;> rw [ho] at this
    · unfold ordA at ho
      rw [Bool.or_eq_false_iff, decide_eq_false_iff_not] at ho
      rcases bs_tri (bytesOf (a[i]'(by omega)).Singer) (bytesOf a[i + 1].Singer) with g | g | g
      · exact .inl g
      · have e : (a[i]'(by omega)).Singer = a[i + 1].Singer := ba_toList_inj.1 (by rw [ByteArray.toList_eq, ByteArray.toList_eq]; exact g)
        refine .inr ⟨e, ?_⟩
        have h2 := ho.2
        rw [sameB_iff.2 e, Bool.true_and, decide_eq_false_iff_not] at h2
        omega
      · exact absurd g ho.1
    · cases this
  have key : ∀ (n i : Nat) (hi : i + n + 1 < a.length), bytesOf (a[i]'(by omega)).Singer < bytesOf a[i + n + 1].Singer ∨ ((a[i]'(by omega)).Singer = a[i + n + 1].Singer ∧ (a[i]'(by omega)).Time.From < a[i + n + 1].Time.From) := by
    intro n
    induction n with
    | zero => intro i hi; exact hs i hi
    | succ n ih =>
      intro i hi
      have h1 := ih i (by omega)
      have h2 := hs (i + n + 1) (by omega)
      rcases h1 with h1 | ⟨h1, h1'⟩ <;> rcases h2 with h2 | ⟨h2, h2'⟩
      · exact .inl (List.lt_trans h1 h2)
      · exact .inl (by rw [h2] at h1; exact h1)
      · exact .inl (by rw [← h1] at h2; exact h2)
      · refine .inr ⟨h1.trans h2, ?_⟩
        have : i + n + 1 + 1 = i + (n + 1) + 1 := by omega
        simp only [this] at h2'
        omega
  rw [List.pairwise_iff_getElem]
  intro i j hi hj hij
  have := key (j - i - 1) i (by omega)
  have e : i + (j - i - 1) + 1 = j := by omega
  simp only [e] at this
  exact this
theorem times_rise {a : List TAway} (h : AwOK a) (s : ByteArray) : RiseW (timesOf a s) := by
  constructor
  · unfold timesOf
    rw [List.pairwise_map]
    refine ((aw_pw h).filter _).imp_of_mem ?_
    intro p x hp hx hpx
    have h1 := of_decide_eq_true (List.mem_filter.1 hp).2
    have h2 := of_decide_eq_true (List.mem_filter.1 hx).2
    rcases hpx with g | g
    · rw [h1, h2] at g; exact absurd g (bs_irr _)
    · omega
  · intro w hw
    obtain ⟨x, hx, rfl⟩ := List.mem_map.1 hw
    have hxa := (List.mem_filter.1 hx).1
    obtain ⟨i, hi, rfl⟩ := List.getElem_of_mem hxa
    have := h.2 i a[i] (List.getElem?_eq_getElem hi)
    unfold awF at this
    cases hk : isKey a[i].Singer <;> rw [hk] at this
    · cases this
    cases ht : isT a[i].Time <;> rw [ht] at this
    · cases this
    exact isT_iff.1 ht
/-! maps that are turned all over -/
section
variable {K V : Type} [DecidableEq K]
theorem keys_put (L : List (K × V)) (k : K) (v : V) (h : (L.map Prod.fst).Nodup) : ((putM L k v).map Prod.fst).Nodup := by
  unfold putM
  by_cases hk : hasM L k = true
  · rw [if_pos hk, List.map_map]
    have : L.map (Prod.fst ∘ fun p => if p.1 = k then (k, v) else p) = L.map Prod.fst := List.map_congr_left fun p _ => by
      by_cases e : p.1 = k <;> simp [e]
    rw [this]; exact h
  · rw [if_neg hk, List.map_append]
    have hn : k ∉ L.map Prod.fst := fun g => hk ((hasM_iff L k).2 g)
    exact List.nodup_append.2 ⟨h, by simp, fun a ha b hb => by
      simp only [List.map_cons, List.map_nil, List.mem_singleton] at hb
      subst hb
      exact fun e => hn (e ▸ ha)⟩
theorem lkM_mem {L : List (K × V)} (h : (L.map Prod.fst).Nodup) {p : K × V} (hp : p ∈ L) : lkM L p.1 = some p.2 := by
  induction L with
  | nil => cases hp
  | cons q L ih =>
    rw [List.map_cons, List.nodup_cons] at h
    unfold lkM at ih ⊢
    rw [List.find?_cons]
    rcases List.mem_cons.1 hp with rfl | hp
    · rw [decide_eq_true rfl]; rfl
    · have : q.1 ≠ p.1 := fun e => h.1 (e ▸ List.mem_map.2 ⟨p, hp, rfl⟩)
      rw [decide_eq_false this]
      exact ih h.2 hp
theorem lkM_map {W : Type} (F : V → W) (L : List (K × V)) (k : K) : lkM (L.map fun p => (p.1, F p.2)) k = (lkM L k).map F := by
  unfold lkM
  induction L with
  | nil => rfl
  | cons q L ih =>
    rw [List.map_cons, List.find?_cons, List.find?_cons]
    cases decide (q.1 = k) with
    | true => rfl
    | false => exact ih
/-- every row is turned once, in whatever order -/
theorem putAll {ρ : Type} (F : V → V) (z : V) (step : Nat → K → List (K × V) → Option (Flow (List (K × V)) ρ)) (u0 : List (K × V)) (hn : (u0.map Prod.fst).Nodup)
    (h : ∀ i k u, k ∈ u0.map Prod.fst → lkM u k = lkM u0 k → step i k u = some (.nxt (putM u k (F ((lkM u0 k).getD z))))) (L : List K) (hL : L.Perm (u0.map Prod.fst)) : rangeM step 0 L u0 = some (.brk (u0.map fun p => (p.1, F p.2))) := by
  have hLn : L.Nodup := hL.nodup_iff.2 hn
  have key : ∀ (t done : List K) (i : Nat), done ++ t = L → rangeM step i t (u0.map fun p => if p.1 ∈ done then (p.1, F p.2) else p) = some (.brk (u0.map fun p => (p.1, F p.2))) := by
    intro t
    induction t with
    | nil =>
      intro done i hd
      rw [rangeM_nil]
      congr 2
      refine List.map_congr_left fun p hp => ?_
      rw [if_pos]
      rw [List.append_nil] at hd
      rw [hd]
      exact hL.symm.subset (List.mem_map.2 ⟨p, hp, rfl⟩)
    | cons k t ih =>
      intro done i hd
      have hk : k ∈ u0.map Prod.fst := hL.subset (by rw [← hd]; simp)
      have hkd : k ∉ done := by
        rw [← hd] at hLn
        have := (List.nodup_append.1 hLn).2.2
        exact fun g => this k g k (List.mem_cons_self ..) rfl
      have hlk : lkM (u0.map fun p => if p.1 ∈ done then (p.1, F p.2) else p) k = lkM u0 k := by
        unfold lkM
        clear hn h ih hk hd hL hLn
        induction u0 with
        | nil => rfl
        | cons q u0 ihu =>
          rw [List.map_cons, List.find?_cons, List.find?_cons]
          have hq1 : (if q.1 ∈ done then (q.1, F q.2) else q).1 = q.1 := by by_cases g : q.1 ∈ done <;> simp [g]
          rw [hq1]
          by_cases hqk : q.1 = k
          · rw [decide_eq_true hqk]
            simp only
            rw [if_neg (by rw [hqk]; exact hkd)]
          · rw [decide_eq_false hqk]
            exact ihu
      rw [rangeM_cons, h i k _ hk hlk, Option.bind_some, run_nxt]
      have e : putM (u0.map fun p => if p.1 ∈ done then (p.1, F p.2) else p) k (F ((lkM u0 k).getD z)) = u0.map fun p => if p.1 ∈ done ++ [k] then (p.1, F p.2) else p := by
        unfold putM
        have hh : hasM (u0.map fun p => if p.1 ∈ done then (p.1, F p.2) else p) k = true := by
          rw [hasM_iff, List.map_map]
          obtain ⟨p, hp, rfl⟩ := List.mem_map.1 hk
          refine List.mem_map.2 ⟨p, hp, ?_⟩
          simp only [Function.comp]
          by_cases g : p.1 ∈ done <;> simp [g]
        rw [if_pos hh, List.map_map]
        refine List.map_congr_left fun p hp => ?_
        simp only [Function.comp]
        by_cases g : p.1 ∈ done
        · have : p.1 ≠ k := fun e => hkd (e ▸ g)
          simp [g, this]
        · by_cases e : p.1 = k
          · rw [if_neg g, if_pos e, if_pos (by simp [e]), ← e, lkM_mem hn hp]; rfl
          · simp [g, e]
      rw [e]
      exact ih (done ++ [k]) (i + 1) (by rw [List.append_assoc]; exact hd)
  have := key L [] 0 rfl
  simpa using this
end
theorem timesOf_snoc (a : List TAway) (x : TAway) (s : ByteArray) : timesOf (a ++ [x]) s = if s = x.Singer then timesOf a s ++ [x.Time] else timesOf a s := by
  unfold timesOf
  rw [List.filter_append, List.map_append]
  by_cases h : s = x.Singer
  · subst h; simp
  · rw [if_neg h, List.filter_cons_of_neg (by simpa using fun e => h e.symm)]; simp
theorem timesOf_len (a : List TAway) (s : ByteArray) : (timesOf a s).length ≤ a.length := by
  unfold timesOf; rw [List.length_map]; exact List.length_filter_le _ _
theorem aways_spec (a : List TAway) (hl : a.length ≤ 1000) : ∃ A, m_rehearse_aways a = some A ∧ ∀ s, (lkM A s).getD [] = joinF (timesOf a s) := by
  unfold m_rehearse_aways
  obtain ⟨u, h1, h2, h3⟩ := rangeM_invx m_rehearse_aways_l1 a (fun n u => (u.map Prod.fst).Nodup ∧ ∀ s, (lkM u s).getD [] = timesOf (a.take n) s) (by
    intro i x u hx hI
    have hi := (List.getElem?_eq_some_iff.1 hx).1
    have hr : ((lkM u x.Singer).getD []).length ≤ i := by
      rw [hI.2]
      have := timesOf_len (a.take i) x.Singer
      rw [List.length_take] at this
      omega
    refine ⟨putM u x.Singer ((lkM u x.Singer).getD [] ++ [x.Time]), ?_, keys_put _ _ _ hI.1, fun s => ?_⟩
    · unfold m_rehearse_aways_l1
      rw [appM_of (by rw [List.length_singleton]; omega) (by omega)]; rfl
    · rw [lkM_put, List.take_add_one, hx, Option.toList_some, timesOf_snoc]
      by_cases e : s = x.Singer
      · rw [if_pos e, if_pos e, e, ← hI.2]; rfl
      · rw [if_neg e, if_neg e, hI.2]) [] ⟨List.nodup_nil, fun s => rfl⟩
  rw [h1, Option.bind_some, fin_brk]
  rw [List.take_length] at h3
  refine ⟨u.map fun p => (p.1, joinF p.2), anyOrd_of fun L' hL' => ?_, fun s => ?_⟩
  · rw [putAll joinF [] m_rehearse_aways_l2 u h2 (fun i k u' hk e => ?_) L' hL']
    · rfl
    · unfold m_rehearse_aways_l2
      rw [e, joined_spec _ (by rw [h3]; have := timesOf_len a k; omega)]; rfl
  · rw [lkM_map, ← h3]
    cases lkM u s with
    | none => rfl
    | some l => rfl
end Go.G
