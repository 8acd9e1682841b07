/- LRa: who is away, wishes, windows for rehearsals: what is wrong with them; when all are away; what is wished. In plain Lean, no program in sight. -/
import Derived.Test.YtkeieikpobfapabGreatDoorLRw
import Derived.Test.YtkeieikpobfapabGreatDoorLM
namespace Go.G
open Go Go.J
set_option linter.unusedSimpArgs false
set_option linter.unusedVariables false
theorem loop_out {α : Type} (step : Nat → α → Unit → Option (Flow Unit Int)) (f : Nat → α → Int) (xs : List α) (h : ∀ (i : Nat) x, xs[i]? = some x → step i x () = some (out1S (f i x))) :
  ∃ e, ((rangeM step 0 xs ()).bind fun f7 => Flow.fin f7 fun _ => some 0) = some e ∧ (e = 0 ↔ ∀ (i : Nat) x, xs[i]? = some x → f i x = 0) := by
 have key : ∀ (t : List α) (i : Nat), xs.drop i = t → ∃ e, ((rangeM step i t ()).bind fun f7 => Flow.fin f7 fun _ => some 0) = some e ∧ (e = 0 ↔ ∀ (j : Nat) x, i ≤ j → xs[j]? = some x → f j x = 0) := by
  intro t
  induction t with
  | nil =>
   intro i hd
   refine ⟨0, rfl, fun _ j x hj hx => ?_, fun _ => rfl⟩
   have := (List.getElem?_eq_some_iff.1 hx).1
   have := List.drop_eq_nil_iff.1 hd
   omega
  | cons x t ih =>
   intro i hd
   have hx : xs[i]? = some x := by
    have := congrArg (fun l => l[0]?) hd
    simpa using this
   have ht : xs.drop (i + 1) = t := by
    have := congrArg List.tail hd
    simpa [List.tail_drop] using this
   rw [rangeM_cons, h i x hx]
   unfold out1S
   cases hf : (f i x != 0) with
   | true =>
    rw [cond_true, Option.bind_some, run_ret]
    refine ⟨f i x, rfl, fun e => absurd e (by simpa using hf), fun g => g i x (Nat.le_refl _) hx⟩
   | false =>
    rw [cond_false, Option.bind_some, run_nxt]
    obtain ⟨e, h1, h2⟩ := ih (i + 1) ht
    refine ⟨e, h1, fun he j y hj hy => ?_, fun g => h2.2 fun j y hj hy => g j y (by omega) hy⟩
    by_cases hji : j = i
    ·subst hji
     rw [hx] at hy; cases hy
     simpa using hf
    ·exact h2.1 he j y (by omega) hy
 obtain ⟨e, h1, h2⟩ := key xs 0 rfl
 exact ⟨e, h1, h2.trans ⟨fun g i x hx => g i x (Nat.zero_le _) hx, fun g i x _ hx => g i x hx⟩⟩
def ordA (p x : TAway) : Bool := decide (bytesOf x.Singer < bytesOf p.Singer) || (sameB p.Singer x.Singer && decide (x.Time.From ≤ p.Time.From))
def awF (a : List TAway) (i : Nat) (x : TAway) : Int :=
 bif !isKey x.Singer then 5 else bif !isT x.Time then 1 else bif (if i = 0 then false else match a[i - 1]? with | some p => ordA p x | none => false) then 7 else 0
def AwOK (a : List TAway) : Prop := a.length ≤ 1000 ∧ ∀ (i : Nat) x, a[i]? = some x → awF a i x = 0
def timesOf (a : List TAway) (s : ByteArray) : List TWindow := (a.filter fun x => decide (x.Singer = s)).map (·.Time)
section
variable {K V : Type} [DecidableEq K]
theorem keys_put (L : List (K × V)) (k : K) (v : V) (h : (L.map Prod.fst).Nodup) : ((putM L k v).map Prod.fst).Nodup := by
 unfold putM
 by_cases hk : hasM L k = true
 ·rw [if_pos hk, List.map_map]
  have : L.map (Prod.fst ∘ fun p => if p.1 = k then (k, v) else p) = L.map Prod.fst := List.map_congr_left fun p _ => by
   by_cases e : p.1 = k <;> simp [e]
  rw [this]; exact h
 ·rw [if_neg hk, List.map_append]
  have hn : k ∉ L.map Prod.fst := fun g => hk ((hasM_iff L k).2 g)
  exact List.nodup_append.2 ⟨h, by simp, fun a ha b hb => by
   simp only [List.map_cons, List.map_nil, List.mem_singleton] at hb
   subst hb
   exact fun e => hn (e ▸ ha)⟩
theorem lkM_mem {L : List (K × V)} (h : (L.map Prod.fst).Nodup) {p : K × V} (hp : p ∈ L) : lkM L p.1 = some p.2 := by
 induction L with
 | nil => cases hp
 | cons q L ih =>
  rw [List.map_cons, List.nodup_cons] at h
  unfold lkM at ih ⊢
  rw [List.find?_cons]
  rcases List.mem_cons.1 hp with rfl | hp
  ·rw [decide_eq_true rfl]; rfl
  ·have : q.1 ≠ p.1 := fun e => h.1 (e ▸ List.mem_map.2 ⟨p, hp, rfl⟩)
   rw [decide_eq_false this]
   exact ih h.2 hp
theorem lkM_map {W : Type} (F : V → W) (L : List (K × V)) (k : K) : lkM (L.map fun p => (p.1, F p.2)) k = (lkM L k).map F := by
 unfold lkM
 induction L with
 | nil => rfl
 | cons q L ih =>
  rw [List.map_cons, List.find?_cons, List.find?_cons]
  cases decide (q.1 = k) with
  | true => rfl
  | false => exact ih
theorem putAll {ρ : Type} (F : V → V) (z : V) (step : Nat → K → List (K × V) → Option (Flow (List (K × V)) ρ)) (u0 : List (K × V)) (hn : (u0.map Prod.fst).Nodup)
  (h : ∀ i k u, k ∈ u0.map Prod.fst → lkM u k = lkM u0 k → step i k u = some (.nxt (putM u k (F ((lkM u0 k).getD z))))) (L : List K) (hL : L.Perm (u0.map Prod.fst)) : rangeM step 0 L u0 = some (.brk (u0.map fun p => (p.1, F p.2))) := by
 have hLn : L.Nodup := hL.nodup_iff.2 hn
 have key : ∀ (t done : List K) (i : Nat), done ++ t = L → rangeM step i t (u0.map fun p => if p.1 ∈ done then (p.1, F p.2) else p) = some (.brk (u0.map fun p => (p.1, F p.2))) := by
  intro t
  induction t with
  | nil =>
   intro done i hd
   rw [rangeM_nil]
   congr 2
   refine List.map_congr_left fun p hp => ?_
   rw [if_pos]
   rw [List.append_nil] at hd
   rw [hd]
   exact hL.symm.subset (List.mem_map.2 ⟨p, hp, rfl⟩)
  | cons k t ih =>
   intro done i hd
   have hk : k ∈ u0.map Prod.fst := hL.subset (by rw [← hd]; simp)
   have hkd : k ∉ done := by
    rw [← hd] at hLn
    have := (List.nodup_append.1 hLn).2.2
    exact fun g => this k g k (List.mem_cons_self ..) rfl
   have hlk : lkM (u0.map fun p => if p.1 ∈ done then (p.1, F p.2) else p) k = lkM u0 k := by
    unfold lkM
    clear hn h ih hk hd hL hLn
    induction u0 with
    | nil => rfl
    | cons q u0 ihu =>
     rw [List.map_cons, List.find?_cons, List.find?_cons]
     have hq1 : (if q.1 ∈ done then (q.1, F q.2) else q).1 = q.1 := by by_cases g : q.1 ∈ done <;> simp [g]
     rw [hq1]
     by_cases hqk : q.1 = k
     ·rw [decide_eq_true hqk]
      simp only
      rw [if_neg (by rw [hqk]; exact hkd)]
     ·rw [decide_eq_false hqk]
      exact ihu
   rw [rangeM_cons, h i k _ hk hlk, Option.bind_some, run_nxt]
   have e : putM (u0.map fun p => if p.1 ∈ done then (p.1, F p.2) else p) k (F ((lkM u0 k).getD z)) = u0.map fun p => if p.1 ∈ done ++ [k] then (p.1, F p.2) else p := by
    unfold putM
    have hh : hasM (u0.map fun p => if p.1 ∈ done then (p.1, F p.2) else p) k = true := by
     rw [hasM_iff, List.map_map]
     obtain ⟨p, hp, rfl⟩ := List.mem_map.1 hk
     refine List.mem_map.2 ⟨p, hp, ?_⟩
     simp only [Function.comp]
     by_cases g : p.1 ∈ done <;> simp [g]
    rw [if_pos hh, List.map_map]
    refine List.map_congr_left fun p hp => ?_
    simp only [Function.comp]
    by_cases g : p.1 ∈ done
    ·have : p.1 ≠ k := fun e => hkd (e ▸ g)
     simp [g, this]
    ·by_cases e : p.1 = k
     ·rw [if_neg g, if_pos e, if_pos (by simp [e]), ← e, lkM_mem hn hp]; rfl
     ·simp [g, e]
   rw [e]
   exact ih (done ++ [k]) (i + 1) (by rw [List.append_assoc]; exact hd)
 have := key L [] 0 rfl
 simpa using this
end
end Go.G
