/- LN0: numerals: which rows of digits are written as they are read. In plain Lean, no program in sight. -/
import Derived.Test.YtlhfimbpjdfdgabGreatDoorLS1
import Derived.Lib.Atoi
import Derived.Lib.ItoaMem
namespace Go.G
open Go Go.J
theorem digitVal_of {b : UInt8} (h : 48 ≤ b.toNat ∧ b.toNat ≤ 57) : Lib.digitVal b = some (b.toNat - 48) := by unfold Lib.digitVal; rw [if_pos h]
theorem decFrom_app : ∀ (l : List UInt8) (acc : Nat) (b : UInt8) (n : Nat), Lib.decFrom acc l = some n → (48 ≤ b.toNat ∧ b.toNat ≤ 57) → Lib.decFrom acc (l ++ [b]) = some (n * 10 + (b.toNat - 48))
  | [], acc, b, n, h, hb => by
    simp only [Lib.decFrom, Option.some.injEq] at h
    subst h
    simp only [List.nil_append, Lib.decFrom, digitVal_of hb]
  | c :: l, acc, b, n, h, hb => by
    simp only [List.cons_append, Lib.decFrom] at h ⊢
    cases hd : Lib.digitVal c with
    | none => rw [hd] at h; cases h
    | some d => rw [hd] at h; exact decFrom_app l _ b n h hb
theorem decFrom_all : ∀ (l : List UInt8) (acc : Nat), (∀ b ∈ l, 48 ≤ b.toNat ∧ b.toNat ≤ 57) → ∃ n, Lib.decFrom acc l = some n
  | [], acc, _ => ⟨acc, rfl⟩
  | c :: l, acc, h => by
    simp only [Lib.decFrom, digitVal_of (h c (List.mem_cons_self ..))]
    exact decFrom_all l _ fun b hb => h b (List.mem_cons_of_mem _ hb)
theorem u8_of {b : UInt8} {d : Nat} (h : b.toNat = 48 + d) : UInt8.ofNat (48 + d) = b := by
  rw [← h]; simp
/-- a row of digits that does not begin with 0 -/
theorem dec_canon : ∀ (k : Nat) (l : List UInt8), l.length = k + 1 → (∀ b ∈ l, 48 ≤ b.toNat ∧ b.toNat ≤ 57) → (∀ b, l[0]? = some b → b.toNat ≠ 48) → ∃ n, 1 ≤ n ∧ Lib.decFrom 0 l = some n ∧ Lib.decDigits n = l := by
  intro k
  induction k with
  | zero =>
    intro l hl hd h0
    obtain ⟨b, rfl⟩ : ∃ b, l = [b] := by
      match l, hl with
      | [b], _ => exact ⟨b, rfl⟩
    have hb := hd b (by simp)
    have hb0 := h0 b (by simp)
    refine ⟨b.toNat - 48, by omega, by simp only [Lib.decFrom, digitVal_of hb]; congr 1; omega, ?_⟩
    rw [Lib.decDigits_one (by omega), u8_of (b := b) (by omega)]
  | succ k ih =>
    intro l hl hd h0
    have hne : l ≠ [] := fun h => by rw [h] at hl; simp at hl
    have hdl := List.dropLast_concat_getLast hne
    have hlen : l.dropLast.length = k + 1 := by rw [List.length_dropLast]; omega
    obtain ⟨n, h1, h2, h3⟩ := ih l.dropLast hlen (fun b hb => hd b (List.dropLast_subset _ hb)) (fun b hb => h0 b (by
      rw [← hdl, List.getElem?_append_left (by omega)]; exact hb))
    have hb := hd (l.getLast hne) (List.getLast_mem hne)
    have h4 := decFrom_app _ _ (l.getLast hne) n h2 hb
    rw [hdl] at h4
    refine ⟨_, by omega, h4, ?_⟩
    rw [Lib.decDigits, dif_neg (by omega)]
    have e1 : (n * 10 + ((l.getLast hne).toNat - 48)) / 10 = n := by omega
    have e2 : (n * 10 + ((l.getLast hne).toNat - 48)) % 10 = (l.getLast hne).toNat - 48 := by omega
    rw [e1, e2, h3, u8_of (b := l.getLast hne) (by omega), hdl]
theorem decDigits_ne : ∀ n, Lib.decDigits n ≠ [] := by
  intro n
  rw [Lib.decDigits]
  split <;> simp
/-- no number but 0 is written with a 0 ahead -/
theorem decDigits_head : ∀ n, 1 ≤ n → ∃ b, (Lib.decDigits n)[0]? = some b ∧ b.toNat ≠ 48 := by
  intro n
  induction n using Nat.strongRecOn with
  | _ n ih =>
    intro h1
    rw [Lib.decDigits]
    by_cases h : n < 10
    · rw [dif_pos h]
      refine ⟨_, rfl, ?_⟩
      simp only [UInt8.toNat_ofNat']
      omega
    · rw [dif_neg h]
      obtain ⟨b, h2, h3⟩ := ih (n / 10) (by omega) (by omega)
      refine ⟨b, ?_, h3⟩
      rw [List.getElem?_append_left (List.length_pos_iff.2 (decDigits_ne _))]
      exact h2
/-- WHICH ROWS OF DIGITS ARE WRITTEN AS THEY ARE READ. -/
theorem dec_tie (l : List UInt8) (hne : l ≠ []) (hd : ∀ b ∈ l, 48 ≤ b.toNat ∧ b.toNat ≤ 57) :
    ∃ n b0, Lib.decFrom 0 l = some n ∧ l[0]? = some b0 ∧ (Lib.decDigits n = l ↔ (l.length = 1 ∨ b0.toNat ≠ 48)) ∧ (b0.toNat ≠ 48 → 1 ≤ n) ∧ (n = 0 → b0.toNat = 48) ∧ (l.length = 1 → b0.toNat = 48 → n = 0) := by
  have hpos := List.length_pos_iff.2 hne
  obtain ⟨k, hk⟩ : ∃ k, l.length = k + 1 := ⟨l.length - 1, by omega⟩
  have hb0 : l[0]? = some l[0] := List.getElem?_eq_getElem hpos
  by_cases h0 : l[0].toNat = 48
  · obtain ⟨n, hn⟩ := decFrom_all l 0 hd
    refine ⟨n, l[0], hn, hb0, ⟨fun he => ?_, fun he => ?_⟩, fun h => absurd h0 h, fun _ => h0, fun h1 _ => ?_⟩
    · by_cases h1 : l.length = 1
      · exact .inl h1
      · exfalso
        by_cases hz : n = 0
        · subst hz
          rw [Lib.decDigits_one (by omega)] at he
          rw [← he] at h1
          simp at h1
        · obtain ⟨b, h2, h3⟩ := decDigits_head n (by omega)
          rw [he, hb0] at h2
          cases h2
          exact h3 h0
    · rcases he with h1 | h1
      · obtain ⟨b, rfl⟩ : ∃ b, l = [b] := by
          match l, h1 with
          | [b], _ => exact ⟨b, rfl⟩
        have hb := hd b (by simp)
        simp only [Lib.decFrom, digitVal_of hb, Option.some.injEq] at hn
        subst hn
        rw [Lib.decDigits_one (by omega), u8_of (b := b) (by omega)]
      · exact absurd h0 h1
    · obtain ⟨b, rfl⟩ : ∃ b, l = [b] := by
        match l, h1 with
        | [b], _ => exact ⟨b, rfl⟩
      have hb := hd b (by simp)
      simp only [Lib.decFrom, digitVal_of hb, Option.some.injEq] at hn
      simp at h0
      omega
  · obtain ⟨n, h1, h2, h3⟩ := dec_canon k l hk hd (fun b hb => by rw [hb0] at hb; cases hb; exact h0)
    exact ⟨n, l[0], h2, hb0, ⟨fun _ => .inr h0, fun _ => h3⟩, fun _ => h1, fun h => by omega, fun _ h => absurd h h0⟩
end Go.G
