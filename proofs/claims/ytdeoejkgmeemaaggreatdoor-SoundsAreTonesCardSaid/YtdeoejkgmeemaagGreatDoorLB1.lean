/- LB1: bars as they are played; what a piece without a fault is known by. In plain Lean, no program in sight. -/
import Derived.Test.YtdeoejkgmeemaagGreatDoorLB0
namespace Go.G
open Go Go.J
def sungB (bs : List TBar) (p : Int) (n : Nat) : Bool := match bs[n]? with
  | some x => x.Ending == 0 || x.Ending == p
  | none => false
def passF (bs : List TBar) (p : Int) : Nat → Nat → List Int
  | _, 0 => []
  | n, c + 1 => bif sungB bs p n then (n : Int) :: passF bs p (n + 1) c else passF bs p (n + 1) c
def passes (bs : List TBar) (a c : Nat) : Nat → Int → List Int
  | 0, _ => []
  | k + 1, p => passF bs p a c ++ passes bs a c k (p + 1)
def expand (bs : List TBar) : List Grp → List Int
  | [] => []
  | g :: gs => passes bs g.1 (g.2.1 - g.1) g.2.2.toNat 1 ++ expand bs gs
theorem passF_len (bs : List TBar) (p : Int) : ∀ (c n : Nat), (passF bs p n c).length ≤ c
  | 0, n => by simp [passF]
  | c + 1, n => by
    have := passF_len bs p c (n + 1)
    unfold passF
    cases sungB bs p n
    · simp; omega
    · simp; omega
theorem passes_len (bs : List TBar) (a c : Nat) : ∀ (k : Nat) (p : Int), (passes bs a c k p).length ≤ k * c
  | 0, p => by simp [passes]
  | k + 1, p => by
    have h1 := passes_len bs a c k (p + 1)
    have h2 := passF_len bs p c a
    unfold passes
    rw [List.length_append, Nat.succ_mul]
    omega
theorem expand_len (bs : List TBar) (m : Nat) : ∀ (gs : List Grp), (∀ g ∈ gs, g.2.1 ≤ m ∧ g.2.2 ≤ 9) → (expand bs gs).length ≤ gs.length * (9 * m)
  | [], _ => by simp [expand]
  | g :: gs, h => by
    have h1 := expand_len bs m gs (fun g' hg' => h g' (List.mem_cons_of_mem _ hg'))
    have hg := h g (List.mem_cons_self ..)
    have h2 := passes_len bs g.1 (g.2.1 - g.1) g.2.2.toNat 1
    have h3 : g.2.2.toNat * (g.2.1 - g.1) ≤ 9 * m := Nat.mul_le_mul (by omega) (by omega)
    unfold expand
    rw [List.length_append, List.length_cons, Nat.succ_mul]
    omega
theorem take_over (n : Nat) (a b : List Int) : (a.take n ++ b).take n = (a ++ b).take n := by
  rw [List.take_append, List.take_append, List.take_take, Nat.min_self, List.length_take]
  by_cases h : n ≤ a.length
  · rw [Nat.min_eq_left h]; simp; omega
  · rw [Nat.min_eq_right (by omega)]
theorem sung_step {α : Type} (bs : List TBar) (p : Int) (n : Nat) (hn : n < bs.length) (k : Bool → Option α) :
    ((getI bs (n : Int)).bind fun e24 => ifB (e24.Ending == 0) (k true) ((getI bs (n : Int)).bind fun e25 => k (e25.Ending == p))) = k (sungB bs p n) := by
  have hx : bs[n]? = some bs[n] := List.getElem?_eq_getElem hn
  rw [getI_of rfl hx]
  unfold sungB
  rw [hx]
  simp only [Option.bind_some]
  cases (bs[n].Ending == 0) <;> rfl
theorem prog3 (bs : List TBar) (hl : bs.length ≤ 600) (g : Grp) (hg : g.2.1 ≤ bs.length) (u : Int × List Int) (T : List Int) (s : Int × List Int)
    (hs : ∃ m c : Nat, s.1 = m ∧ m + c = g.2.1 ∧ s.2.length ≤ 2001 ∧ (s.2 ++ passF bs u.1 m c).take 2001 = T) :
    ∃ f, loopM (m_piece_order_l3 bs 2000 (toRep g) u) s = some f ∧ ∃ n, f = .brk (n, T) := by
  refine loopM_post (m_piece_order_l3 bs 2000 (toRep g) u) (fun s => ∃ m c : Nat, s.1 = m ∧ m + c = g.2.1 ∧ s.2.length ≤ 2001 ∧ (s.2 ++ passF bs u.1 m c).take 2001 = T) (fun s => g.2.1 - s.1.toNat) _ ?_ s hs
  rintro ⟨n, acc⟩ ⟨m, c, rfl, hmc, ha, hT⟩
  simp only at ha hT
  have hw : w64 ((m : Int) + 1) = ((m + 1 : Nat) : Int) := by rw [w64_id (by omega)]; omega
  unfold m_piece_order_l3
  show (∃ s', (ifB (decide ((m : Int) < (g.2.1 : Int))) (some (.inl (decide ((acc.length : Int) ≤ 2000)))) (some (.inl false)) : Option (Bool ⊕ (Flow (Int × (List Int)) (Flow (Int × (List Int)) (Flow (List Int) (List Int)))))).bind _ = _ ∧ _) ∨ (∃ s', (ifB (decide ((m : Int) < (g.2.1 : Int))) (some (.inl (decide ((acc.length : Int) ≤ 2000)))) (some (.inl false)) : Option (Bool ⊕ (Flow (Int × (List Int)) (Flow (Int × (List Int)) (Flow (List Int) (List Int)))))).bind _ = _ ∧ _) ∨ (∃ s', (ifB (decide ((m : Int) < (g.2.1 : Int))) (some (.inl (decide ((acc.length : Int) ≤ 2000)))) (some (.inl false)) : Option (Bool ⊕ (Flow (Int × (List Int)) (Flow (Int × (List Int)) (Flow (List Int) (List Int)))))).bind _ = _ ∧ _)
  by_cases h1 : m < g.2.1
  · obtain ⟨c, rfl⟩ : ∃ c', c = c' + 1 := ⟨c - 1, by omega⟩
    rw [decide_eq_true (show (m : Int) < (g.2.1 : Int) by omega), ifB_true, Option.bind_some]
    by_cases h2 : acc.length ≤ 2000
    · refine .inl ?_
      rw [decide_eq_true (show (acc.length : Int) ≤ 2000 by omega)]
      simp only [fin_inl, ifB_true]
      rw [sung_step bs u.1 m (by omega) (fun b => some (Sum.inl b))]
      unfold passF at hT
      cases hsu : sungB bs u.1 m with
      | true =>
        rw [hsu] at hT
        simp only [Option.bind_some, fin_inl, ifB_true, appM_of (xs := acc) (ys := [(m : Int)]) (by_ := 8) (by simp; omega) (by omega), hw]
        exact ⟨(((m + 1 : Nat) : Int), acc ++ [(m : Int)]), rfl, ⟨m + 1, c, rfl, by omega, by simp; omega, by simpa using hT⟩, by simp only; omega⟩
      | false =>
        rw [hsu] at hT
        simp only [Option.bind_some, fin_inl, ifB_false, hw]
        exact ⟨(((m + 1 : Nat) : Int), acc), rfl, ⟨m + 1, c, rfl, by omega, by omega, by simpa using hT⟩, by simp only; omega⟩
    · refine .inr (.inl ?_)
      rw [decide_eq_false (show ¬ (acc.length : Int) ≤ 2000 by omega)]
      refine ⟨(m, acc), rfl, m, ?_⟩
      rw [← hT, List.take_append_of_le_length (by omega), List.take_of_length_le (by omega)]
  · refine .inr (.inl ?_)
    rw [decide_eq_false (show ¬ (m : Int) < (g.2.1 : Int) by omega)]
    refine ⟨(m, acc), rfl, m, ?_⟩
    have : c = 0 := by omega
    subst this
    rw [← hT]
    unfold passF
    rw [List.append_nil, List.take_of_length_le ha]
theorem prog2 (bs : List TBar) (hl : bs.length ≤ 600) (g : Grp) (hab : g.1 ≤ g.2.1) (hg : g.2.1 ≤ bs.length) (ht : 1 ≤ g.2.2 ∧ g.2.2 ≤ 9) (T : List Int) (s : Int × List Int)
    (hs : ∃ k : Nat, s.1 + k = g.2.2 + 1 ∧ 1 ≤ s.1 ∧ s.2.length ≤ 2001 ∧ (s.2 ++ passes bs g.1 (g.2.1 - g.1) k s.1).take 2001 = T) :
    ∃ f, loopM (m_piece_order_l2 bs 2000 (toRep g)) s = some f ∧ ∃ n, f = .brk (n, T) := by
  refine loopM_post (m_piece_order_l2 bs 2000 (toRep g)) (fun s => ∃ k : Nat, s.1 + k = g.2.2 + 1 ∧ 1 ≤ s.1 ∧ s.2.length ≤ 2001 ∧ (s.2 ++ passes bs g.1 (g.2.1 - g.1) k s.1).take 2001 = T) (fun s => (g.2.2 + 1 - s.1).toNat) _ ?_ s hs
  rintro ⟨p, acc⟩ ⟨k, hk, hp, ha, hT⟩
  simp only at hk hp ha hT
  unfold m_piece_order_l2
  by_cases h1 : p ≤ g.2.2
  · obtain ⟨k, rfl⟩ : ∃ k', k = k' + 1 := ⟨k - 1, by omega⟩
    obtain ⟨f, hf, n, rfl⟩ := prog3 bs hl g hg (p, acc) ((acc ++ passF bs p g.1 (g.2.1 - g.1)).take 2001) ((g.1 : Int), acc) ⟨g.1, g.2.1 - g.1, rfl, by omega, ha, rfl⟩
    refine .inl ⟨(p + 1, (acc ++ passF bs p g.1 (g.2.1 - g.1)).take 2001), ?_, ⟨k, by simp only; omega, by simp only; omega, by simp only [List.length_take]; omega, ?_⟩, by simp only; omega⟩
    · show ifB (decide (p ≤ g.2.2)) _ _ = _
      rw [decide_eq_true h1, ifB_true]
      show (loopM (m_piece_order_l3 bs 2000 (toRep g) (p, acc)) ((g.1 : Int), acc)).bind _ = _
      rw [hf, Option.bind_some, fin_brk, w64_id (by omega)]
    · simp only
      rw [take_over, ← hT, List.append_assoc]
      rfl
  · refine .inr (.inl ⟨(p, acc), ?_, p, ?_⟩)
    · show ifB (decide (p ≤ g.2.2)) _ _ = _
      rw [decide_eq_false h1, ifB_false]
    · have : k = 0 := by omega
      subst this
      rw [← hT]
      unfold passes
      rw [List.append_nil, List.take_of_length_le ha]
theorem prog1 (bs : List TBar) (hl : bs.length ≤ 600) : ∀ (gs : List Grp) (j : Nat) (acc : List Int), (∀ g ∈ gs, g.1 ≤ g.2.1 ∧ g.2.1 ≤ bs.length ∧ 1 ≤ g.2.2 ∧ g.2.2 ≤ 9) → acc.length ≤ 2001 →
    rangeM (m_piece_order_l1 bs 2000) j (gs.map toRep) acc = some (.brk ((acc ++ expand bs gs).take 2001))
  | [], j, acc, _, ha => by
    rw [List.map_nil, rangeM_nil]
    unfold expand
    rw [List.append_nil, List.take_of_length_le ha]
  | g :: gs, j, acc, h, ha => by
    have hg := h g (List.mem_cons_self ..)
    obtain ⟨f, hf, n, rfl⟩ := prog2 bs hl g hg.1 hg.2.1 hg.2.2 ((acc ++ passes bs g.1 (g.2.1 - g.1) g.2.2.toNat 1).take 2001) (1, acc) ⟨g.2.2.toNat, by simp only; omega, by simp, ha, rfl⟩
    have ih := prog1 bs hl gs (j + 1) ((acc ++ passes bs g.1 (g.2.1 - g.1) g.2.2.toNat 1).take 2001) (fun g' hg' => h g' (List.mem_cons_of_mem _ hg')) (by rw [List.length_take]; omega)
    have hst : m_piece_order_l1 bs 2000 j (toRep g) acc = some (.nxt ((acc ++ passes bs g.1 (g.2.1 - g.1) g.2.2.toNat 1).take 2001)) := by
      unfold m_piece_order_l1
      rw [hf, Option.bind_some, fin_brk]
    rw [List.map_cons, rangeM_cons, hst, Option.bind_some, run_nxt, ih, take_over, List.append_assoc]
    rfl
theorem order_spec (bs : List TBar) (hl : bs.length ≤ 600) (gs : List Grp) (h : ∀ g ∈ gs, g.1 ≤ g.2.1 ∧ g.2.1 ≤ bs.length ∧ 1 ≤ g.2.2 ∧ g.2.2 ≤ 9) :
    m_piece_order bs (gs.map toRep) 2000 = some ((expand bs gs).take 2001) := by
  unfold m_piece_order
  rw [prog1 bs hl gs 0 [] h (by simp), Option.bind_some, fin_brk, List.nil_append]
def cB (bs : List TBar) : Int :=
  ifB ((bs.length : Int) == 0) 8 (ifB (decide ((bs.length : Int) > 300)) 2 (match goB (false, 0, 0, false) bs with
    | .inl k => k
    | .inr r => ifB (r.1 || r.2.2.2) 16 (ifB (decide ((expand bs (gsB none 0 bs)).length > 2000)) 2 0)))
theorem grp_ok (bs : List TBar) (r : SB) (h : goB (false, 0, 0, false) bs = .inr r) : ∀ g ∈ gsB none 0 bs, g.1 ≤ g.2.1 ∧ g.2.1 ≤ bs.length ∧ 1 ≤ g.2.2 ∧ g.2.2 ≤ 9 := fun g hg => by
  have := gsB_mem bs 0 none (goB_all bs _ r h) (by simp) g hg; omega
theorem CheckBars_spec (bs : List TBar) (hl : bs.length ≤ 600) : m_piece_CheckBars bs = some (cB bs) := by
  unfold m_piece_CheckBars cB
  rw [rulesFault_spec bs hl]
  cases ((bs.length : Int) == 0) with
  | true => rfl
  | false =>
    cases decide ((bs.length : Int) > 300) with
    | true => rfl
    | false =>
      simp only [ifB_false, Option.bind_some]
      cases h : goB (false, 0, 0, false) bs with
      | inl k =>
        have hk : (k != 0) = true := by simpa using goB_inl _ _ _ h
        simp only [hk, ifB_true]
      | inr r =>
        have hw := wrong_spec bs bs 0 none (false, 0, 0, false) r rfl h rfl (by simp)
        simp only [Bool.false_or] at hw
        show (m_piece_repeats bs).bind _ = _
        rw [repeats_spec bs hl (goB_all bs _ r h), Option.bind_some]
        simp only [hw.2]
        cases (gsB none 0 bs).any (badG bs) with
        | true => simp
        | false =>
          simp only [cond_false, Bool.or_false, order_spec bs hl _ (grp_ok bs r h), Option.bind_some]
          have he : (endB none 0 bs).isNone = !r.1 := by rw [← hw.1]; cases endB none 0 bs <;> rfl
          rw [he]
          cases r.1 with
          | true => rfl
          | false =>
            simp only [Bool.not_false, Bool.not_true, ifB_false]
            by_cases hlen : (expand bs (gsB none 0 bs)).length > 2000
            · rw [decide_eq_true hlen, decide_eq_true (by rw [List.length_take]; omega)]; rfl
            · rw [decide_eq_false hlen, decide_eq_false (by rw [List.length_take]; omega)]; rfl
theorem cB_zero {bs : List TBar} (h : cB bs = 0) : bs.length ≤ 300 ∧ ∃ r, goB (false, 0, 0, false) bs = .inr r ∧ r.1 = false ∧ r.2.2.2 = false ∧ (expand bs (gsB none 0 bs)).length ≤ 2000 := by
  unfold cB at h
  by_cases h0 : (bs.length : Int) = 0
  · rw [h0] at h; cases h
  · have hb : ((bs.length : Int) == 0) = false := by simpa using h0
    rw [hb, ifB_false] at h
    by_cases h1 : (bs.length : Int) > 300
    · rw [decide_eq_true h1] at h; cases h
    · rw [decide_eq_false h1, ifB_false] at h
      refine ⟨by omega, ?_⟩
      cases hg : goB (false, 0, 0, false) bs with
      | inl k => rw [hg] at h; exact (goB_inl _ _ _ hg h).elim
      | inr r =>
        rw [hg] at h
        refine ⟨r, rfl, ?_⟩
        simp only at h
        cases h2 : r.1 with
        | true => rw [h2] at h; cases h
        | false =>
          cases h3 : r.2.2.2 with
          | true => rw [h2, h3] at h; cases h
          | false =>
            rw [h2, h3] at h
            refine ⟨rfl, rfl, ?_⟩
            by_cases hlen : (expand bs (gsB none 0 bs)).length > 2000
            · rw [decide_eq_true hlen] at h; cases h
            · omega
theorem played_spec {bs : List TBar} (h : cB bs = 0) : m_piece_played bs = some (expand bs (gsB none 0 bs)) := by
  obtain ⟨hl, r, hg, h1, h2, h3⟩ := cB_zero h
  have hw := wrong_spec bs bs 0 none (false, 0, 0, false) r rfl hg rfl (by simp)
  simp only [Bool.false_or, h2] at hw
  unfold m_piece_played
  rw [repeats_spec bs (by omega) (goB_all bs _ r hg), ← hw.2, cond_false, Option.bind_some]
  simp only
  rw [order_spec bs (by omega) _ (grp_ok bs r hg), Option.bind_some, List.take_of_length_le (by omega)]
def lowF (a b : Nat) : TFraction := ⟨(a : Int) / (Nat.gcd a b : Int), (b : Int) / (Nat.gcd a b : Int)⟩
theorem gcdLoop2 (a b : Nat) : loopM m_gleeref2_divisor_l1 ((a : Int), (b : Int)) = some (.brk ((Nat.gcd a b : Int), 0)) := by
  obtain ⟨f, hf, rfl⟩ := loopM_post m_gleeref2_divisor_l1 (fun s => ∃ x y : Nat, s = ((x : Int), (y : Int)) ∧ Nat.gcd x y = Nat.gcd a b) (fun s => s.2.toNat) (fun f => f = .brk ((Nat.gcd a b : Int), 0)) (by
    rintro s ⟨x, y, rfl, hg⟩
    unfold m_gleeref2_divisor_l1
    by_cases hy : y = 0
    · subst hy
      rw [Nat.gcd_zero_right] at hg
      exact .inr (.inl ⟨_, rfl, by rw [hg]; rfl⟩)
    · have h1 : ((y : Int) != 0) = true := by simpa using hy
      have h2 : ((x : Int)).tmod (y : Int) = ((x % y : Nat) : Int) := rfl
      refine .inl ⟨((y : Int), ((x % y : Nat) : Int)), ?_, ⟨y, x % y, rfl, ?_⟩, ?_⟩
      · simp only
        rw [h1, ifB_true, remM_of (by omega), Option.bind_some, h2]
      · rw [← hg, Nat.gcd_comm x y, Nat.gcd_comm y (x % y), ← Nat.gcd_rec]
      · have := Nat.mod_lt x (Nat.pos_of_ne_zero hy)
        simp only; omega) _ ⟨a, b, rfl, rfl⟩
  exact hf
theorem quo_gcd (a b c : Nat) (hb : b ≠ 0) (_ : b ≤ 1000000000000) (hc : c ≤ 1000000000000) : quoM (c : Int) (Nat.gcd a b : Int) = some ((c : Int) / (Nat.gcd a b : Int)) := by
  have hg : 0 < Nat.gcd a b := Nat.gcd_pos_of_pos_right a (Nat.pos_of_ne_zero hb)
  rw [quoM_of (by omega)]
  have e : ((c : Int)).tdiv (Nat.gcd a b : Int) = ((c / Nat.gcd a b : Nat) : Int) := rfl
  have := Nat.div_le_self c (Nat.gcd a b)
  have h0 : (0 : Int) ≤ ((c / Nat.gcd a b : Nat) : Int) := Int.natCast_nonneg _
  rw [e, w64_id (by omega)]
  rfl
theorem refLowest_spec (a b : Nat) (hb : b ≠ 0) (hb' : b ≤ 1000000000000) (ha : a ≤ 1000000000000) : m_gleeref2_Lowest (a : Int) (b : Int) = some (lowF a b) := by
  have hg : 0 < Nat.gcd a b := Nat.gcd_pos_of_pos_right a (Nat.pos_of_ne_zero hb)
  have hg' : Nat.gcd a b ≤ b := Nat.gcd_le_right a (Nat.pos_of_ne_zero hb)
  have hd : m_gleeref2_divisor (a : Int) (b : Int) = some (Nat.gcd a b : Int) := by
    unfold m_gleeref2_divisor
    rw [gcdLoop2, Option.bind_some, fin_brk]
    simp only
    rw [w64_id (by omega)]
    congr 1
    omega
  unfold m_gleeref2_Lowest
  rw [hd, Option.bind_some, quo_gcd a b a hb hb' ha, Option.bind_some, quo_gcd a b b hb hb' hb']
  rfl
theorem passF_mem (bs : List TBar) (p : Int) : ∀ (c n : Nat), ∀ k ∈ passF bs p n c, ∃ j : Nat, k = j ∧ ∃ x, bs[j]? = some x
  | 0, n, k, h => by simp [passF] at h
  | c + 1, n, k, h => by
    unfold passF at h
    cases hs : sungB bs p n with
    | false => rw [hs] at h; exact passF_mem bs p c (n + 1) k h
    | true =>
      rw [hs] at h
      rcases List.mem_cons.1 h with rfl | h
      · refine ⟨n, rfl, ?_⟩
        unfold sungB at hs
        cases hb : bs[n]? with
        | none => rw [hb] at hs; cases hs
        | some x => exact ⟨x, rfl⟩
      · exact passF_mem bs p c (n + 1) k h
theorem passes_mem (bs : List TBar) (a c : Nat) : ∀ (m : Nat) (p : Int), ∀ k ∈ passes bs a c m p, ∃ j : Nat, k = j ∧ ∃ x, bs[j]? = some x
  | 0, p, k, h => by simp [passes] at h
  | m + 1, p, k, h => by
    rcases List.mem_append.1 (show k ∈ passF bs p a c ++ passes bs a c m (p + 1) from h) with h | h
    · exact passF_mem bs p c a k h
    · exact passes_mem bs a c m (p + 1) k h
theorem expand_mem (bs : List TBar) : ∀ (gs : List Grp), ∀ k ∈ expand bs gs, ∃ j : Nat, k = j ∧ ∃ x, bs[j]? = some x
  | [], k, h => by simp [expand] at h
  | g :: gs, k, h => by
    rcases List.mem_append.1 (show k ∈ passes bs g.1 (g.2.1 - g.1) g.2.2.toNat 1 ++ expand bs gs from h) with h | h
    · exact passes_mem bs _ _ _ _ k h
    · exact expand_mem bs gs k h
end Go.G
