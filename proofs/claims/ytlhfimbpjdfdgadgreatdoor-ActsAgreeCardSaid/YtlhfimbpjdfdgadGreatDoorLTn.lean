/- LTn: a number that is written is read back. In plain Lean, no program in sight. -/
import Derived.Test.YtlhfimbpjdfdgadGreatDoorLT3
namespace Go.G
open Go Go.J
set_option linter.unusedSimpArgs false
set_option linter.unusedVariables false
theorem dg_nat {d : Nat} (h : d < 10) : (UInt8.ofNat (48 + d)).toNat = 48 + d := by
 rw [UInt8.toNat_ofNat']; omega
theorem dec_round : ∀ n : Nat, Lib.decFrom 0 (Lib.decDigits n) = some n ∧ (∀ b ∈ Lib.decDigits n, 48 ≤ b.toNat ∧ b.toNat ≤ 57) ∧ Lib.decDigits n ≠ [] := by
 intro n
 induction n using Nat.strongRecOn with
 | _ n ih =>
  rw [Lib.decDigits]
  by_cases h : n < 10
  ·rw [dif_pos h]
   have e := dg_nat h
   refine ⟨?_, fun b hb => ?_, by simp⟩
   ·simp only [Lib.decFrom, digitVal_of (b := UInt8.ofNat (48 + n)) (by omega), Option.some.injEq]
    omega
   ·rw [List.mem_singleton.1 hb]; omega
  ·rw [dif_neg h]
   obtain ⟨h1, h2, h3⟩ := ih (n / 10) (by omega)
   have e := dg_nat (d := n % 10) (by omega)
   refine ⟨?_, fun b hb => ?_, by simp⟩
   ·rw [decFrom_app _ _ _ _ h1 (by omega)]
    congr 1
    omega
   ·rcases List.mem_append.1 hb with g | g
    ·exact h2 b g
    ·rw [List.mem_singleton.1 g]; omega
theorem decDigits_len : ∀ (k n : Nat), n < 10 ^ (k + 1) → (Lib.decDigits n).length ≤ k + 1 := by
 intro k
 induction k with
 | zero => intro n h; rw [Lib.decDigits, dif_pos (by simpa using h)]; simp
 | succ k ih =>
  intro n h
  rw [Lib.decDigits]
  by_cases h1 : n < 10
  ·rw [dif_pos h1]; simp
  ·rw [dif_neg h1, List.length_append]
   have := ih (n / 10) (by rw [Nat.pow_succ] at h; omega)
   simp only [List.length_cons, List.length_nil]; omega
theorem trimS_self (s : ByteArray) (h : s.data.toList[0]? ≠ some 45) : m_strings_TrimPrefix s (ByteArray.mk [45].toArray) = some s := by
 obtain ⟨d, neg, hC, hT, hsd, hng⟩ := prefix_spec s
 cases neg with
 | false => rw [(hng rfl).1] at hT; exact hT
 | true =>
  rw [hsd] at h
  exact absurd rfl h
theorem numB_nat (n : Nat) (h : n < 1000000000000000) : numB (toB (Lib.decDigits n)) = some (n : Int) := by
 obtain ⟨h1, h2, h3⟩ := dec_round n
 have hl : (Lib.decDigits n).length ≤ 15 := decDigits_len 14 n (by omega)
 have hsz : (toB (Lib.decDigits n)).size ≤ 15 := by rw [toB_size]; exact hl
 have hpos := List.length_pos_iff.2 h3
 have hne : (toB (Lib.decDigits n)).data.toList[0]? ≠ some 45 := by
  rw [data_toB]
  intro e
  have := h2 45 (List.mem_of_getElem? e)
  exact absurd this (by decide)
 obtain ⟨-, n', g1, g2⟩ := Number_spec (toB (Lib.decDigits n)) (by omega)
 have hN : Lib.decNat (Lib.decDigits n) = some n := by
  unfold Lib.decNat
  rw [if_neg (by simpa using h3)]
  exact h1
 have hAd : m_strconv_Atoi (toB (Lib.decDigits n)) = some ((n : Int), ()) := by
  unfold m_strconv_Atoi
  rw [if_pos (by omega), data_toB]
  have : Lib.atoi (Lib.decDigits n) = some (n : Int) := by
   cases hd : Lib.decDigits n with
   | nil => exact absurd hd h3
   | cons b t =>
    rw [hd] at hN
    have hb := h2 b (by rw [hd]; exact List.mem_cons_self ..)
    unfold Lib.atoi
    have n1 : (b == 45) = false := by
     rw [beq_eq_false_iff_ne]
     intro h; subst h
     exact absurd hb (by decide)
    have n2 : (b == 43) = false := by
     rw [beq_eq_false_iff_ne]
     intro h; subst h
     exact absurd hb (by decide)
    show (if (b == 45) = true then Option.map (fun m : Nat => -(m : Int)) (Lib.decNat t) else if (b == 43) = true then Option.map (fun m : Nat => (m : Int)) (Lib.decNat t) else Option.map (fun m : Nat => (m : Int)) (Lib.decNat (b :: t))) = some (n : Int)
    rw [n1, n2, if_neg (by simp), if_neg (by simp), hN]
    rfl
  rw [this]; rfl
 have hIt : m_strconv_Itoa (n : Int) = some (toB (Lib.decDigits n)) := by
  unfold m_strconv_Itoa
  rw [if_pos (by omega), Lib.itoa_nonneg]; rfl
 have hR : m_gleeref2_Number (toB (Lib.decDigits n)) 15 = some ((n : Int), true) := by
  unfold m_gleeref2_Number
  rw [trimS_self _ hne, Option.bind_some, ba_nil, data_toB, decide_eq_false h3, ifB_false, decide_eq_false (by omega), ifB_false, show (ByteArray.mk [48, 49, 50, 51, 52, 53, 54, 55, 56, 57].toArray) = digB from rfl, only_spec _ digB (by omega), data_toB]
  have hall : ((Lib.decDigits n).all fun b => decide (b ∈ digB.data.toList)) = true := List.all_eq_true.2 fun b hb => by
   have := h2 b hb
   refine decide_eq_true ?_
   have hbe : b = UInt8.ofNat b.toNat := by simp
   rw [hbe]
   generalize b.toNat = v at this
   have hv : v = 48 ∨ v = 49 ∨ v = 50 ∨ v = 51 ∨ v = 52 ∨ v = 53 ∨ v = 54 ∨ v = 55 ∨ v = 56 ∨ v = 57 := by omega
   rcases hv with rfl | rfl | rfl | rfl | rfl | rfl | rfl | rfl | rfl | rfl <;> decide
  rw [hall]
  simp only [Option.bind_some, Bool.not_true, fin_inl, ifB_false]
  rw [hAd, Option.bind_some]
  simp only
  rw [hIt, Option.bind_some]
  simp
 rw [hR] at g1
 have e := Option.some.inj g1
 have e1 : (n : Int) = n' := congrArg Prod.fst e
 have e2 : true = (numB (toB (Lib.decDigits n))).isSome := congrArg Prod.snd e
 obtain ⟨m, hm⟩ := Option.isSome_iff_exists.1 e2.symm
 rw [hm]
 have := g2 m hm
 congr 1
 omega
theorem numB_itoa {n : Int} (h0 : 0 ≤ n) (h : n < 1000000000000000) : numB (toB (Lib.itoa n)) = some n := by
 obtain ⟨k, rfl⟩ := Int.eq_ofNat_of_zero_le h0
 rw [Lib.itoa_nonneg]
 exact numB_nat k (by omega)
theorem itoa_nat_digits {n : Int} (h0 : 0 ≤ n) : (∀ b ∈ Lib.itoa n, 48 ≤ b.toNat ∧ b.toNat ≤ 57) ∧ Lib.itoa n ≠ [] := by
 obtain ⟨k, rfl⟩ := Int.eq_ofNat_of_zero_le h0
 rw [Lib.itoa_nonneg]
 exact (dec_round k).2
theorem itoa_no {n : Int} (h0 : 0 ≤ n) {c : UInt8} (hc : c.toNat < 48 ∨ 57 < c.toNat) : c ∉ Lib.itoa n := fun h => by
 have := (itoa_nat_digits h0).1 c h
 omega
end Go.G
