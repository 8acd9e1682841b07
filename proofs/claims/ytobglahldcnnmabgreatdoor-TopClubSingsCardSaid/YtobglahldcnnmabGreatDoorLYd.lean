/- LYd: what is due and what was paid: bounds that the books keep. In plain Lean, no program in sight. -/
import Derived.Test.YtobglahldcnnmabGreatDoorLY6
import Derived.Test.YtobglahldcnnmabGreatDoorLAc
import Derived.Test.YtobglahldcnnmabGreatDoorLYq
namespace Go.G
open Go Go.J
set_option linter.unusedSimpArgs false
set_option linter.unusedVariables false
def bobA : ByteArray := ByteArray.mk [98, 111, 98].toArray
def cidA : ByteArray := ByteArray.mk [99, 105, 100].toArray
def who3 : List ByteArray := [annA, bobA, cidA]
theorem who3_of {k : ByteArray} (h : k ∈ whoL) (hk : isKey k = true) : k ∈ who3 := by
  unfold whoL at h
  simp only [List.mem_cons, List.not_mem_nil, or_false] at h
  unfold who3
  rcases h with rfl | rfl | rfl | rfl
  · exact List.mem_cons_self ..
  · exact List.mem_cons_of_mem _ (List.mem_cons_self ..)
  · exact List.mem_cons_of_mem _ (List.mem_cons_of_mem _ (List.mem_cons_self ..))
  · exact absurd hk (by rw [show isKey ByteArray.empty = false from rfl]; simp)
structure PInv (T : Int) (n : Nat) (s : Bk) : Prop where
  pk : (s.pd.map Prod.fst).Nodup
  pv : ∀ p ∈ s.pd, p.1 ∈ who3 ∧ 0 ≤ p.2 ∧ p.2 ≤ 1000000000 * (n : Int)
  sk : (s.st.map Prod.fst).Nodup
  sm : ∀ p ∈ s.st, p.1 ∈ who3
  sr : ∀ k, ∀ y ∈ rowOf s.st k, 0 ≤ y.since ∧ y.since ≤ T ∧ (y.till = -1 ∨ y.since ≤ y.till ∧ y.till ≤ T) ∧ 0 ≤ y.cents ∧ y.cents ≤ 1000000000
theorem putM_mem' {K V : Type} [DecidableEq K] {l : List (K × V)} {k : K} {v : V} {p : K × V} (h : p ∈ putM l k v) : p = (k, v) ∨ p ∈ l := by
  unfold putM at h
  split at h
  · obtain ⟨q, hq, e⟩ := List.mem_map.1 h
    split at e
    · left; rw [← e]
    · right; rw [← e]; exact hq
  · rcases List.mem_append.1 h with h | h
    · exact .inr h
    · simp only [List.mem_singleton] at h; left; exact h
theorem bif0 {b : Bool} {n e : Int} (hn : n ≠ 0) (h : (bif b then n else e) = 0) : b = false ∧ e = 0 := by
  cases b
  · exact ⟨rfl, h⟩
  · exact absurd h hn
theorem actF_who {x : TAct} (h : actF x = 0) (hk : useWho x.Kind = true) : isKey x.Who = true := by
  unfold actF at h
  obtain ⟨-, h⟩ := bif0 (by omega) h
  obtain ⟨-, h⟩ := bif0 (by omega) h
  obtain ⟨-, h⟩ := bif0 (by omega) h
  obtain ⟨c, h⟩ := bif0 (by omega) h
  rw [hk] at c
  cases h5 : isKey x.Who
  · rw [h5] at c; simp at c
  · rfl
theorem actF_cents {x : TAct} (h : actF x = 0) (hk : useCts x.Kind = true) : 0 ≤ x.Cents ∧ x.Cents ≤ 1000000000 := by
  unfold actF at h
  obtain ⟨-, h⟩ := bif0 (by omega) h
  obtain ⟨-, h⟩ := bif0 (by omega) h
  obtain ⟨-, h⟩ := bif0 (by omega) h
  obtain ⟨-, h⟩ := bif0 (by omega) h
  obtain ⟨c, h⟩ := bif0 (by omega) h
  rw [hk] at c
  have hc : inR x.Cents (bif x.Kind == 3 then 1 else 0) 1000000000 = true := by
    cases h5 : inR x.Cents (bif x.Kind == 3 then 1 else 0) 1000000000
    · rw [h5] at c; simp at c
    · rfl
  unfold inR at hc
  have := of_decide_eq_true hc
  cases h3 : (x.Kind == 3) <;> rw [h3] at this <;> simp only [cond_true, cond_false] at this <;> omega
theorem PInv.step {T : Int} {n : Nat} {s : Bk} (h : PInv T n s) (hn : n ≤ 2000) (z : Int) (x : TAct) (hx : actF x = 0) (hw : x.Who ∈ whoL) (hT : T ≤ x.At) : PInv x.At (n + 1) (stepX s z x) := by
  obtain ⟨-, -, hat, -⟩ := actF_rng hx
  have hup : ∀ y : Tclub_stay, (0 ≤ y.since ∧ y.since ≤ T ∧ (y.till = -1 ∨ y.since ≤ y.till ∧ y.till ≤ T) ∧ 0 ≤ y.cents ∧ y.cents ≤ 1000000000) → 0 ≤ y.since ∧ y.since ≤ x.At ∧ (y.till = -1 ∨ y.since ≤ y.till ∧ y.till ≤ x.At) ∧ 0 ≤ y.cents ∧ y.cents ≤ 1000000000 := fun y hy => by omega
  have hpv : ∀ p ∈ s.pd, p.1 ∈ who3 ∧ 0 ≤ p.2 ∧ p.2 ≤ 1000000000 * ((n + 1 : Nat) : Int) := fun p hp => by
    have := h.pv p hp
    exact ⟨this.1, this.2.1, by omega⟩
  have hsr : ∀ k, ∀ y ∈ rowOf s.st k, 0 ≤ y.since ∧ y.since ≤ x.At ∧ (y.till = -1 ∨ y.since ≤ y.till ∧ y.till ≤ x.At) ∧ 0 ≤ y.cents ∧ y.cents ≤ 1000000000 := fun k y hy => hup y (h.sr k y hy)
  have base : ∀ mo rf, PInv x.At (n + 1) ⟨s.st, s.pd, mo, rf⟩ := fun mo rf => ⟨h.pk, hpv, h.sk, h.sm, hsr⟩
  unfold stepX
  split
  · rename_i hp
    unfold actB
    cases h1 : x.Kind == 1
    case true =>
      have hk : x.Who ∈ who3 := who3_of hw (actF_who hx (by unfold useWho; rw [h1]; rfl))
      have hc := actF_cents hx (by unfold useCts; rw [h1]; rfl)
      simp only [cond_true]
      refine ⟨h.pk, hpv, putM_nodup h.sk _ _, fun p hp => ?_, fun k y hy => ?_⟩
      · rcases putM_mem' hp with e | hp
        · rw [e]; exact hk
        · exact h.sm p hp
      · rw [rowOf_put] at hy
        split at hy
        · rcases List.mem_append.1 hy with hy | hy
          · exact hsr _ y hy
          · simp only [List.mem_singleton] at hy
            rw [hy]
            exact ⟨hat.1, Int.le_refl _, .inl rfl, hc⟩
        · exact hsr _ y hy
    simp only [cond_false]
    cases h2 : x.Kind == 2
    case true =>
      have hk : x.Who ∈ who3 := who3_of hw (actF_who hx (by unfold useWho; rw [h2]; simp))
      simp only [cond_true]
      refine ⟨h.pk, hpv, putM_nodup h.sk _ _, fun p hp => ?_, fun k y hy => ?_⟩
      · rcases putM_mem' hp with e | hp
        · rw [e]; exact hk
        · exact h.sm p hp
      · rw [rowOf_put] at hy
        split at hy
        · unfold quitRow at hy
          split at hy
          · rename_i s' hs'
            have hs2 := h.sr _ s' (List.mem_of_getLast? hs')
            rcases List.mem_or_eq_of_mem_set hy with hy | hy
            · exact hsr _ y hy
            · rw [hy]
              exact ⟨hs2.1, by simp only; omega, .inr ⟨by simp only; omega, Int.le_refl _⟩, hs2.2.2.2⟩
          · exact hsr _ y hy
        · exact hsr _ y hy
    simp only [cond_false]
    cases h3 : x.Kind == 3
    case true =>
      have hk : x.Who ∈ who3 := who3_of hw (actF_who hx (by unfold useWho; rw [h3]; simp))
      have hc := actF_cents hx (by unfold useCts; rw [h3]; simp)
      simp only [cond_true]
      refine ⟨putM_nodup h.pk _ _, fun p hp => ?_, h.sk, h.sm, hsr⟩
      rcases putM_mem' hp with e | hp
      · rw [e]
        have ho : 0 ≤ (lkM s.pd x.Who).getD 0 ∧ (lkM s.pd x.Who).getD 0 ≤ 1000000000 * (n : Int) := by
          cases hl : lkM s.pd x.Who with
          | none => simp only [Option.getD_none]; omega
          | some v => exact (h.pv _ (lkM_mem hl)).2
        refine ⟨hk, ?_, ?_⟩ <;> simp only <;> rw [w64_id (by omega)] <;> omega
      · exact hpv p hp
    simp only [cond_false]
    cases h4 : x.Kind == 4
    case true => exact base _ _
    simp only [cond_false]
    cases hl : lkM s.mo x.Motion with
    | none => exact base _ _
    | some t =>
      simp only
      cases h5 : x.Kind == 5
      case true => exact base _ _
      simp only [cond_false]
      cases h6 : x.Kind == 6
      case true => exact base _ _
      exact base _ _
  · exact base _ _
theorem cntIx_lt (a : Int) : ∀ (t : List TAct) (i : Nat), (cntIx a i t).Pairwise (· < ·) := by
  intro t
  induction t with
  | nil => intro i; exact .nil
  | cons x t ih =>
    intro i
    unfold cntIx
    cases cnt a x t
    · exact ih (i + 1)
    · simp only [cond_true, List.cons_append, List.nil_append, List.pairwise_cons]
      refine ⟨fun z hz => ?_, ih (i + 1)⟩
      obtain ⟨j, rfl, -⟩ := cntIx_mem a t (i + 1) z hz
      omega
theorem cntIx_at (a : Int) : ∀ (t : List TAct) (i : Nat) (z : Int), z ∈ cntIx a i t → ∃ (j : Nat) (x : TAct), z = (i + j : Nat) ∧ t[j]? = some x ∧ x.At ≤ a := by
  intro t
  induction t with
  | nil => intro i z hz; cases hz
  | cons x t ih =>
    intro i z hz
    unfold cntIx at hz
    rcases List.mem_append.1 hz with h | h
    · cases hc : cnt a x t
      · rw [hc] at h; cases h
      · rw [hc] at h
        simp only [cond_true, List.mem_singleton] at h
        unfold cnt at hc
        rw [Bool.and_eq_true, decide_eq_true_eq] at hc
        exact ⟨0, x, by simpa using h, rfl, hc.1⟩
    · obtain ⟨j, y, rfl, hj, hy⟩ := ih (i + 1) z h
      exact ⟨j + 1, y, by congr 1; omega, by simpa using hj, hy⟩
end Go.G
