/- LPl: PlansLackLeast. In plain Lean, no program in sight. -/
import Derived.Test.YtadlgemefhfejaaGreatDoorLRq
import Derived.Test.YtadlgemefhfejaaGreatDoorLRd
import Derived.Test.YtadlgemefhfejaaGreatDoorLR1g
namespace Go.G
open Go Go.J
set_option linter.unusedSimpArgs false
set_option linter.unusedVariables false
theorem addB_snoc (j : Nat) : ∀ (c : List Nat) (k : Nat) (S : List Nat), addB k S (c ++ [j]) = (addB k S c).set j (((addB k S c)[j]?).getD 0 + 2 ^ (k + c.length)) := by
  intro c
  induction c with
  | nil => intro k S; rfl
  | cons i c ih =>
    intro k S
    show addB (k + 1) _ (c ++ [j]) = _
    rw [ih]
    have e : k + 1 + c.length = k + (i :: c).length := by rw [List.length_cons]; omega
    rw [e]; rfl
theorem addB_lt : ∀ (c : List Nat) (k : Nat) (S : List Nat), (∀ s ∈ S, s < 2 ^ k) → (∀ s ∈ addB k S c, s < 2 ^ (k + c.length)) ∧ (addB k S c).length = S.length := by
  intro c
  induction c with
  | nil => intro k S h; exact ⟨h, rfl⟩
  | cons i c ih =>
    intro k S h
    have h2 := ih (k + 1) (S.set i ((S[i]?).getD 0 + 2 ^ k)) (by
      intro s hs
      rw [Nat.pow_succ]
      rcases List.mem_or_eq_of_mem_set hs with g | g
      · have := h s g; omega
      · have : (S[i]?).getD 0 < 2 ^ k := by
          cases hi : S[i]? with
          | none => exact Nat.pow_pos (by omega)
          | some y => exact h y (List.mem_of_getElem? hi)
        omega)
    rw [List.length_set] at h2
    have e : k + 1 + c.length = k + (i :: c).length := by rw [List.length_cons]; omega
    rw [← e]
    exact h2
theorem lackG_take {free : List TWindow} {p : ByteArray} {A : List (ByteArray × List TWindow)} {need : Int} {s n : Nat} (hs : s < 2 ^ n) : ∀ g : List TSings, lackG (free.take n) p A need g s = lackG free p A need g s := by
  intro g
  induction g with
  | nil => rfl
  | cons x g ih =>
    have e1 : ∀ fr : List TWindow, lackG fr p A need (x :: g) s = (if x.Piece = p then lackX need (fr.map (canF A x.Singer)) s else 0) + lackG fr p A need g s := fun _ => rfl
    rw [e1, e1, ih]
    congr 1
    unfold lackX
    rw [List.map_take, bitA_take _ 0 n (by rwa [Nat.zero_add])]
theorem lackP_take {free : List TWindow} {p : ByteArray} {A : List (ByteArray × List TWindow)} {g : List TSings} {w : List TWish} {s n : Nat} (hs : s < 2 ^ n) : lackP (free.take n) p g A w s = lackP free p g A w s := by
  unfold lackP
  cases wishOf w p with
  | none => rfl
  | some need => exact lackG_take hs g
theorem lackG_add {free : List TWindow} {p : ByteArray} {A : List (ByteArray × List TWindow)} {need : Int} {s k : Nat} (hs : s < 2 ^ k) (hA : SepM A) (hf : ∀ f ∈ free, isT f = true) : ∀ g : List TSings, lackG free p A need g (s + 2 ^ k) ≤ lackG free p A need g s := by
  intro g
  induction g with
  | nil => exact Int.le_refl _
  | cons x g ih =>
    have e1 : ∀ z, lackG free p A need (x :: g) z = (if x.Piece = p then lackX need (free.map (canF A x.Singer)) z else 0) + lackG free p A need g z := fun _ => rfl
    rw [e1, e1]
    have : lackX need (free.map (canF A x.Singer)) (s + 2 ^ k) ≤ lackX need (free.map (canF A x.Singer)) s := by
      unfold lackX
      rw [bitA_add hs, if_pos (Nat.zero_le _)]
      have : 0 ≤ ((free.map (canF A x.Singer))[k - 0]?).getD 0 := by
        cases hg : (free.map (canF A x.Singer))[k - 0]? with
        | none => exact Int.le_refl _
        | some c =>
          obtain ⟨f, hfm, rfl⟩ := List.mem_map.1 (List.mem_of_getElem? hg)
          exact (can_bd hA _ (hf f hfm)).1
      omega
    split <;> omega
theorem lackP_add {free : List TWindow} {p : ByteArray} {A : List (ByteArray × List TWindow)} {g : List TSings} {w : List TWish} {s k : Nat} (hs : s < 2 ^ k) (hA : SepM A) (hf : ∀ f ∈ free, isT f = true) : lackP free p g A w (s + 2 ^ k) ≤ lackP free p g A w s := by
  unfold lackP
  cases wishOf w p with
  | none => exact Int.le_refl _
  | some need => exact lackG_add hs hA hf g
theorem totS_cg (f f' : ByteArray → Nat → Int) : ∀ (ps : List ByteArray) (S : List Nat), (∀ s ∈ S, ∀ p, f p s = f' p s) → totS (ps.map fun p => f p) S = totS (ps.map fun p => f' p) S := by
  intro ps
  induction ps with
  | nil => intro S _; rfl
  | cons p ps ih =>
    intro S h
    cases S with
    | nil => rfl
    | cons s S =>
      show f p s + totS _ S = f' p s + totS _ S
      rw [h s (List.mem_cons_self ..) p, ih S fun x hx => h x (List.mem_cons_of_mem _ hx)]
theorem Rising_one (e : ByteArray) (h : isKey e = true) : m_gleeref2_Rising [e] = some 0 := by
  unfold m_gleeref2_Rising
  rw [rangeM_cons]
  have : m_gleeref2_Rising_l1 [e] 0 e () = some (.nxt ()) := by
    unfold m_gleeref2_Rising_l1
    rw [isKey_ref, h]; rfl
  rw [this]; rfl
theorem errs_two : m_gleekeep2_errs [0, 0] = some 0 := by kernel_rfl
theorem WiOK_nil : WiOK [] := ⟨by simp, fun i x h => by simp at h⟩
theorem plan_less {free : List TWindow} {pieces : List ByteArray} {g : List TSings} {A : List (ByteArray × List TWindow)} {w : List TWish} (hA : SepM A) (hf : ∀ f ∈ free, isT f = true) (hp : 1 ≤ pieces.length) {n : Nat} (hn : free.length = n + 1) {c : List Nat} (hc : Ch pieces.length n c) :
    totS (facL free pieces g A w) (addB 0 (List.replicate pieces.length 0) (c ++ [0])) ≤ totS (facL (free.take n) pieces g A w) (addB 0 (List.replicate pieces.length 0) c) := by
  rw [addB_snoc, Nat.zero_add, hc.1]
  have hlt := addB_lt c 0 (List.replicate pieces.length 0) (fun s h => by rw [List.eq_of_mem_replicate h]; decide)
  rw [Nat.zero_add, hc.1, List.length_replicate] at hlt
  generalize addB 0 (List.replicate pieces.length 0) c = Z at hlt ⊢
  have h1 : totS (facL (free.take n) pieces g A w) Z = totS (facL free pieces g A w) Z := totS_cg (fun p => lackP (free.take n) p g A w) (fun p => lackP free p g A w) pieces Z fun s hs p => lackP_take (hlt.1 s hs)
  rw [h1]
  unfold facL
  cases pieces with
  | nil => simp at hp
  | cons p ps =>
    cases Z with
    | nil => simp at hlt
    | cons z Z =>
      show lackP free p g A w (z + 2 ^ n) + totS _ Z ≤ lackP free p g A w z + totS _ Z
      have := lackP_add (p := p) (g := g) (w := w) (hlt.1 z (List.mem_cons_self ..)) hA hf
      omega
theorem PlansLackLeast_true (L : List Int) : m_gleekeep2_PlansLackLeast L = some true := by
  unfold m_gleekeep2_PlansLackLeast
  obtain ⟨free, p1, e1, a1, b1, c1, -⟩ := Frees_spec L (p := 0) (by omega) (by omega)
  obtain ⟨g, p2, e2, a2, b2, c2, d2⟩ := RightSings_spec L (p := p1) a1 (by omega)
  obtain ⟨a, p3, e3, a3, b3⟩ := Aways_spec L (p := p2) a2 (by omega)
  obtain ⟨w, p4, e4, a4, b4, -⟩ := Wishes_spec L (p := p3) a3 (by omega)
  obtain ⟨n, e5, n1, n2⟩ := Range_spec L (p := p4) (a := 1) (b := 3) a4 (by omega) (by omega) (by omega) (by omega)
  rw [e1, Option.bind_some]
  simp only
  rw [e2, Option.bind_some]
  simp only
  rw [e3, Option.bind_some]
  simp only
  rw [e4, Option.bind_some]
  simp only
  rw [e5, Option.bind_some]
  simp only
  obtain ⟨m, rfl⟩ : ∃ m : Nat, n = m := ⟨n.toNat, by omega⟩
  change ((sliceI [gloB, kyrB, sncB] 0 (m : Int)).bind _) = _
  rw [sliceI_of (lo := 0) (a := 0) (b := m) rfl rfl (Nat.zero_le _) (by simp; omega), Option.bind_some, List.drop_zero, Nat.sub_zero]
  obtain ⟨pieces, hpe⟩ : ∃ ps, ps = [gloB, kyrB, sncB].take m := ⟨_, rfl⟩
  have hpl : pieces.length = m := by rw [hpe, List.length_take]; simp; omega
  have hpk : ∀ k ∈ pieces, isKey k = true := by
    intro k hk
    rw [hpe] at hk
    have := List.mem_of_mem_take hk
    simp only [List.mem_cons, List.not_mem_nil, or_false] at this
    rcases this with rfl | rfl | rfl
    · exact gk_key.1
    · exact gk_key.2.1
    · exact gk_key.2.2
  rw [← hpe]
  obtain ⟨f1, h1, k1⟩ := Plan_zero free pieces (by omega)
  obtain ⟨f2, h2, k2⟩ := Away_zero a
  obtain ⟨f3, h3, k3⟩ := Wishes_zero w
  rw [h1, Option.bind_some, h2, h3]
  by_cases z1 : f1 = 0
  case neg => rw [show (f1 != 0) = true by simpa using z1, ifB_true, Option.bind_some, fin_inl, ifB_true, ready_true]; rfl
  rw [show (f1 != 0) = false by simpa using z1, ifB_false, Option.bind_some]
  by_cases z2 : f2 = 0
  case neg => rw [show (f2 != 0) = true by simpa using z2, ifB_true, Option.bind_some, fin_inl, ifB_true, ready_true]; rfl
  rw [show (f2 != 0) = false by simpa using z2, ifB_false, Option.bind_some]
  by_cases z3 : f3 = 0
  case neg => rw [show (f3 != 0) = true by simpa using z3, Option.bind_some, fin_inl, ifB_true, ready_true]; rfl
  rw [show (f3 != 0) = false by simpa using z3, Option.bind_some, fin_inl, ifB_false]
  have hF := k1 z1
  have hA := k2 z2
  have hW := k3 z3
  have hS := Sings_ok d2 (by omega)
  obtain ⟨A, hA1, hA2⟩ := aways_sep hA
  have hfT : ∀ f ∈ free, isT f = true := fun f h => fr_isT hF.ok h
  obtain ⟨c, l, hc, hr, hl, hlow⟩ := Plan_spec hS (by omega) hA hA1 hA2 hW hF (by omega)
  rw [hr, Option.bind_some]
  simp only
  rw [show ((0 : Int) != 0) = false from rfl, ifB_false, Option.bind_some, fin_inl, pickP_len hc.2, hc.1, show ((free.length : Int) != (free.length : Int)) = false from bne_self_eq_false _, ifB_false]
  by_cases h0 : free.length = 0
  · rw [show ((free.length : Int) == 0) = true by rw [h0]; rfl, ifB_true, ready_true]; rfl
  rw [show ((free.length : Int) == 0) = false by rw [beq_eq_false_iff_ne]; omega, ifB_false]
  obtain ⟨N, hN⟩ : ∃ N, free.length = N + 1 := ⟨free.length - 1, by omega⟩
  have hw : w64 ((free.length : Int) - 1) = (N : Int) := by rw [w64_id (by omega)]; omega
  rw [hw, sliceI_of (lo := 0) (a := 0) (b := N) rfl rfl (Nat.zero_le _) (by omega), Option.bind_some, List.drop_zero, Nat.sub_zero]
  have hF2 : FrOK (free.take N) pieces := ⟨by rw [List.length_take]; have := hF.len; omega, fr_take hF.ok N, .inr (by omega), hF.pl, hF.rise⟩
  obtain ⟨c2, l2, hc2, hr2, hl2, -⟩ := Plan_spec hS (by omega) hA hA1 hA2 hW hF2 (by omega)
  have htl : (free.take N).length = N := by rw [List.length_take]; omega
  rw [htl] at hc2
  rw [hr2, Option.bind_some]
  obtain ⟨v, h5, v1, v2⟩ := Next_spec L (p := p4 + 1) (n := (pieces.length : Int)) (by omega) (by omega) (by omega)
  rw [h5, Option.bind_some]
  simp only
  have v3 := v2 (by omega)
  obtain ⟨vm, rfl⟩ : ∃ vm : Nat, v = vm := ⟨v.toNat, by omega⟩
  have hvl : vm < pieces.length := by omega
  rw [getI_of rfl (List.getElem?_eq_getElem hvl), Option.bind_some]
  have hF3 : FrOK free [pieces[vm]] := ⟨hF.len, hF.ok, .inr (by simp), by simp, Rising_one _ (hpk _ (List.getElem_mem ..))⟩
  obtain ⟨c3, l3, hc3, hr3, hl3, -⟩ := Plan_spec hS (by omega) hA hA1 hA2 WiOK_nil hF3 (by simp)
  rw [hr3, Option.bind_some, errs_two, Option.bind_some]
  have hz3 : l3 = 0 := by
    rw [hl3]
    have hZ := (addB_lt c3 0 (List.replicate [pieces[vm]].length 0) (fun s h => by rw [List.eq_of_mem_replicate h]; decide)).2
    generalize addB 0 (List.replicate [pieces[vm]].length 0) c3 = Z at hZ
    cases Z with
    | nil => rfl
    | cons z Z =>
      show (0 : Int) + totS [] Z = 0
      cases Z <;> rfl
  have hle : l ≤ l2 := by
    rw [hl2]
    have h7 : Ch pieces.length free.length (c2 ++ [0]) := ⟨by rw [List.length_append, List.length_singleton, hc2.1, hN], fun i hi => by
      rcases List.mem_append.1 hi with hi | hi
      · exact hc2.2 i hi
      · rw [List.mem_singleton.1 hi]; omega⟩
    exact Int.le_trans (hlow _ h7) (plan_less hA2 hfT (by omega) hN hc2)
  rw [show ((0 : Int) == 0) = true from rfl, ifB_true, pickP_len hc2.2, hc2.1, show ((N : Int) == (N : Int)) = true from beq_self_eq_true _, ifB_true, decide_eq_true (show l2 ≥ l from hle), ifB_true, pickP_len hc3.2, hc3.1, show ((free.length : Int) == (free.length : Int)) = true from beq_self_eq_true _, ifB_true, hz3]
  rw [show ((0 : Int) == 0) = true from rfl, ifB_true, ready_true]; rfl
end Go.G
