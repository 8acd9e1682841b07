/- LVl: what the best voices are: a way of least moves through the rows of notes; a greater leap is never worse. In plain Lean, no program in sight. -/
import Derived.Test.YthonhgainmokhadGreatDoorLVk
namespace Go.G
open Go Go.J
set_option linter.unusedSimpArgs false
set_option linter.unusedVariables false
def pOK (leap : Int) : List (List Int) → Prop
 | v :: w :: t => movedF 0 v w leap = [] ∧ pOK leap (w :: t)
 | _ => True
def mvT : List (List Int) → Int
 | v :: w :: t => mvS v w + mvT (w :: t)
 | _ => 0
def inRs : List (List Int) → List (List (List Int)) → Prop
 | [], [] => True
 | v :: t, R :: Rs => v ∈ R ∧ inRs t Rs
 | _, _ => False
theorem pth_ok {leap : Int} : ∀ (Rs : List (List (List Int))) (R0 : List (List Int)) (k : Nat), k < R0.length → (nthP (headT leap (R0 :: Rs)) k).1 ≠ -1 →
  inRs (pth leap (R0 :: Rs) k) (R0 :: Rs) ∧ pOK leap (pth leap (R0 :: Rs) k) ∧ mvT (pth leap (R0 :: Rs) k) = (nthP (headT leap (R0 :: Rs)) k).1
 | [], R0, k, hk, hv => by
  have e : pth leap [R0] k = [nthR R0 k] := rfl
  have h0 : (nthP (headT leap [R0]) k).1 = 0 := by
   have h1 := nthP_get (t := headT leap [R0]) (k := k) (by rw [headT_len]; exact hk)
   rw [show headT leap [R0] = R0.map fun _ => ((0 : Int), (-1 : Int)) from rfl, List.getElem?_map, nthR_get hk, Option.map_some] at h1
   rw [show headT leap [R0] = R0.map fun _ => ((0 : Int), (-1 : Int)) from rfl, ← Option.some.inj h1]
  rw [e, h0]
  exact ⟨⟨List.mem_of_getElem? (nthR_get hk), trivial⟩, trivial, rfl⟩
 | R1 :: Rs, R0, k, hk, hv => by
  obtain ⟨k', e1, e2, e3, e4, -⟩ := way_step hk hv
  obtain ⟨h1, h2, h3⟩ := pth_ok Rs R1 k' e2 e3
  have e : pth leap (R0 :: R1 :: Rs) k = nthR R0 k :: pth leap (R1 :: Rs) k' := by
   rw [show pth leap (R0 :: R1 :: Rs) k = nthR R0 k :: pth leap (R1 :: Rs) (nthP (headT leap (R0 :: R1 :: Rs)) k).2.toNat from rfl, e1]; rfl
  have e' : pth leap (R1 :: Rs) k' = nthR R1 k' :: pth leap Rs (nthP (headT leap (R1 :: Rs)) k').2.toNat := rfl
  have hv2 := hv
  rw [← e4] at hv2
  unfold byF at e4 hv2
  rw [if_neg e3] at e4 hv2
  by_cases hm : (movedF 0 (nthR R0 k) (nthR R1 k') leap).isEmpty = true
  ·rw [if_pos hm] at e4
   rw [e]
   refine ⟨⟨List.mem_of_getElem? (nthR_get hk), h1⟩, ?_, ?_⟩
   ·rw [e'] at h2 ⊢
    exact ⟨List.isEmpty_iff.1 hm, h2⟩
   ·rw [← e4, ← h3, e']
    rfl
  ·rw [if_neg hm] at hv2
   exact absurd rfl hv2
theorem head_bd {n : Nat} (hn : n ≤ 5) (leap : Int) {R0 : List (List Int)} {Rs : List (List (List Int))} (hR : ∀ r ∈ R0 :: Rs, ∀ v ∈ r, RowOK n v) {k : Nat} (hk : k < R0.length) : -1 ≤ (nthP (headT leap (R0 :: Rs)) k).1 := by
 obtain ⟨t, ts, e1, e2, -⟩ := tabs_head leap R0 Rs
 have h1 := nthP_get (t := headT leap (R0 :: Rs)) (k := k) (by rw [headT_len]; exact hk)
 have h2 := List.mem_of_getElem? h1
 have h3 : headT leap (R0 :: Rs) = t := by unfold headT; rw [e1]; rfl
 rw [h3] at h2 ⊢
 exact (tabs_bd hn leap _ hR t (by rw [e1]; exact List.mem_cons_self ..) _ h2).1
theorem pth_least {leap : Int} {n : Nat} (hn : n ≤ 5) : ∀ (Rs : List (List (List Int))) (R0 : List (List Int)) (k : Nat) (t : List (List Int)), (∀ r ∈ R0 :: Rs, ∀ v ∈ r, RowOK n v) → k < R0.length → inRs (nthR R0 k :: t) (R0 :: Rs) → pOK leap (nthR R0 k :: t) →
  (nthP (headT leap (R0 :: Rs)) k).1 ≠ -1 ∧ (nthP (headT leap (R0 :: Rs)) k).1 ≤ mvT (nthR R0 k :: t)
 | [], R0, k, t, hR, hk, hi, hp => by
  have h0 : (nthP (headT leap [R0]) k).1 = 0 := by
   have h1 := nthP_get (t := headT leap [R0]) (k := k) (by rw [headT_len]; exact hk)
   rw [show headT leap [R0] = R0.map fun _ => ((0 : Int), (-1 : Int)) from rfl, List.getElem?_map, nthR_get hk, Option.map_some] at h1
   rw [show headT leap [R0] = R0.map fun _ => ((0 : Int), (-1 : Int)) from rfl, ← Option.some.inj h1]
  cases t with
  | nil => rw [h0]; exact ⟨by omega, Int.le_refl _⟩
  | cons w t => exact absurd hi.2 id
 | R1 :: Rs, R0, k, [], hR, hk, hi, hp => absurd hi.2 id
 | R1 :: Rs, R0, k, w :: t, hR, hk, hi, hp => by
  obtain ⟨k', hk', hw⟩ := List.mem_iff_getElem.1 hi.2.1
  have hw' : nthR R1 k' = w := by
   have := nthR_get hk'
   rw [List.getElem?_eq_getElem hk', hw] at this
   exact (Option.some.inj this).symm
  subst hw'
  have hR' : ∀ r ∈ R1 :: Rs, ∀ v ∈ r, RowOK n v := fun r hr => hR r (List.mem_cons_of_mem _ hr)
  obtain ⟨g1, g2⟩ := pth_least hn Rs R1 k' t hR' hk' hi.2 hp.2
  have hb1 := head_bd hn leap hR' hk'
  have hb := head_bd hn leap hR hk
  have hv := hR R0 (List.mem_cons_self ..) _ hi.1
  have hwr := hR' R1 (List.mem_cons_self ..) _ hi.2.1
  have hmb := mvS_bd (nthR R0 k) (nthR R1 k') hv.notes hwr.notes
  have hh : headT leap (R0 :: R1 :: Rs) = R0.map fun v => bt leap v (R1.zip ((headT leap (R1 :: Rs)).map Prod.fst)) 0 (-1, -1) := rfl
  have hk2 : nthP (headT leap (R0 :: R1 :: Rs)) k = bt leap (nthR R0 k) (R1.zip ((headT leap (R1 :: Rs)).map Prod.fst)) 0 (-1, -1) := by
   have h1 := nthP_get (t := headT leap (R0 :: R1 :: Rs)) (k := k) (by rw [headT_len]; exact hk)
   rw [hh, List.getElem?_map, nthR_get hk, Option.map_some] at h1
   exact (Option.some.inj h1).symm
  have hl := headT_len leap R1 Rs
  have hz : (nthR R1 k', (nthP (headT leap (R1 :: Rs)) k').1) ∈ R1.zip ((headT leap (R1 :: Rs)).map Prod.fst) := by
   refine List.mem_of_getElem? (i := k') ?_
   rw [List.getElem?_zip_eq_some]
   exact ⟨nthR_get hk', by rw [List.getElem?_map, nthP_get (by rw [hl]; exact hk')]; rfl⟩
  have hby : byF leap (nthR R0 k) (nthR R1 k') (nthP (headT leap (R1 :: Rs)) k').1 = mvS (nthR R0 k) (nthR R1 k') + (nthP (headT leap (R1 :: Rs)) k').1 := by
   unfold byF
   rw [if_neg g1, if_pos (by rw [List.isEmpty_iff]; exact hp.1)]
  have hinv := bt_spec leap (nthR R0 k) (R1.zip ((headT leap (R1 :: Rs)).map Prod.fst))
  rw [← hk2] at hinv
  have hne : (nthP (headT leap (R0 :: R1 :: Rs)) k).1 ≠ -1 := fun e => by
   have := hinv.none e _ hz
   simp only [] at this
   rw [hby] at this
   omega
  refine ⟨hne, ?_⟩
  have h := hinv.min hne _ hz
  simp only [] at h
  rw [hby] at h
  show _ ≤ mvS (nthR R0 k) (nthR R1 k') + mvT (nthR R1 k' :: t)
  omega
theorem inRs_len : ∀ (p : List (List Int)) (R : List (List (List Int))), inRs p R → p.length = R.length
 | [], [], _ => rfl
 | v :: t, R :: Rs, h => by rw [List.length_cons, List.length_cons, inRs_len t Rs h.2]
 | [], R :: Rs, h => absurd h id
 | v :: t, [], h => absurd h id
theorem inRs_at : ∀ (p : List (List Int)) (R : List (List (List Int))) (i : Nat) (v : List Int) (r : List (List Int)), inRs p R → p[i]? = some v → R[i]? = some r → v ∈ r
 | [], [], i, v, r, _, h, _ => by simp at h
 | a :: t, b :: Rs, 0, v, r, h, h1, h2 => by
  rw [List.getElem?_cons_zero] at h1 h2
  cases h1; cases h2
  exact h.1
 | a :: t, b :: Rs, i + 1, v, r, h, h1, h2 => inRs_at t Rs i v r h.2 (by simpa using h1) (by simpa using h2)
 | [], R :: Rs, i, v, r, h, _, _ => absurd h id
 | v :: t, [], i, _, r, h, _, _ => absurd h id
theorem first_P (Y : List (List Int)) (C0 : List Int) (hY : getI Y 0 = some C0) (hl : C0.length ≤ 1000000) : ∃ f, rangeM (m_chord_Best_l2 Y) 0 C0 (-1) = some (.brk f) ∧
  (f = -1 ∧ (∀ c ∈ C0, c = -1) ∨ ∃ j : Nat, f = j ∧ ∃ c, C0[j]? = some c ∧ c ≠ -1 ∧ ∀ c' ∈ C0, c' = -1 ∨ c ≤ c') := by
 obtain ⟨f, h1, h2⟩ := rangeM_invx (m_chord_Best_l2 Y) C0 (fun i f => f = -1 ∧ (∀ j c, j < i → C0[j]? = some c → c = -1) ∨ ∃ j : Nat, f = j ∧ ∃ c, C0[j]? = some c ∧ c ≠ -1 ∧ ∀ j' c', j' < i → C0[j']? = some c' → c' = -1 ∨ c ≤ c') (by
  intro i x f hx hI
  have hi := (List.getElem?_eq_some_iff.1 hx).1
  unfold m_chord_Best_l2
  by_cases hx1 : x = -1
  ·rw [show (x != -1) = false by simpa using hx1]
   refine ⟨f, rfl, ?_⟩
   rcases hI with ⟨e, h⟩ | ⟨j, e, c, hj, hcj, hm⟩
   ·refine .inl ⟨e, fun j c hj hc => ?_⟩
    by_cases hji : j = i
    ·subst hji
     rw [hx] at hc
     rw [← Option.some.inj hc]; exact hx1
    ·exact h j c (by omega) hc
   ·refine .inr ⟨j, e, c, hj, hcj, fun j' c' hj' hc' => ?_⟩
    by_cases hji : j' = i
    ·subst hji
     rw [hx] at hc'
     rw [← Option.some.inj hc']; exact .inl hx1
    ·exact hm j' c' (by omega) hc'
  ·rw [show (x != -1) = true by simpa using hx1, ifB_true]
   rcases hI with ⟨e, h⟩ | ⟨j, e, c, hj, hcj, hm⟩
   ·subst e
    refine ⟨(i : Int), rfl, .inr ⟨i, rfl, x, hx, hx1, fun j' c' hj' hc' => ?_⟩⟩
    by_cases hji : j' = i
    ·subst hji
     rw [hx] at hc'
     rw [← Option.some.inj hc']; exact .inr (Int.le_refl _)
    ·exact .inl (h j' c' (by omega) hc')
   ·subst e
    rw [show ((j : Int) == -1) = false by simp, ifB_false, hY, Option.bind_some, getI_of (n := j) rfl hj, Option.bind_some]
    by_cases hlt : x < c
    ·rw [decide_eq_true hlt]
     refine ⟨(i : Int), rfl, .inr ⟨i, rfl, x, hx, hx1, fun j' c' hj' hc' => ?_⟩⟩
     by_cases hji : j' = i
     ·subst hji
      rw [hx] at hc'
      rw [← Option.some.inj hc']; exact .inr (Int.le_refl _)
     ·rcases hm j' c' (by omega) hc' with h | h
      ·exact .inl h
      ·exact .inr (by omega)
    ·rw [decide_eq_false hlt]
     refine ⟨(j : Int), rfl, .inr ⟨j, rfl, c, hj, hcj, fun j' c' hj' hc' => ?_⟩⟩
     by_cases hji : j' = i
     ·subst hji
      rw [hx] at hc'
      rw [← Option.some.inj hc']; exact .inr (by omega)
     ·exact hm j' c' (by omega) hc') (-1) (.inl ⟨rfl, fun j c hj => absurd hj (by omega)⟩)
 refine ⟨f, h1, ?_⟩
 rcases h2 with ⟨e, h⟩ | ⟨j, e, c, hj, hcj, hm⟩
 ·refine .inl ⟨e, fun c hc => ?_⟩
  obtain ⟨j, hj, rfl⟩ := List.mem_iff_getElem.1 hc
  exact h j _ hj (List.getElem?_eq_getElem hj)
 ·refine .inr ⟨j, e, c, hj, hcj, fun c' hc' => ?_⟩
  obtain ⟨j', hj', rfl⟩ := List.mem_iff_getElem.1 hc'
  exact hm j' _ hj' (List.getElem?_eq_getElem hj')
noncomputable def ways (l : List TChord) (rs : List TRange) (leap : Int) (p : List (List Int)) : Prop := inRs p (l.map (RW rs)) ∧ pOK leap p
theorem Best_P {l : List TChord} (h1 : 1 ≤ l.length) (h12 : l.length ≤ 12) (hc : ∀ c ∈ l, ∃ r k t, Right c r k t) {rs : List TRange} (hr : RR rs) {leap : Int} (hlp : 0 ≤ leap ∧ leap ≤ 24) (hbf : m_chord_bestFault l rs leap = some 0) :
  (l.any (fun c => decide ((RW rs c).length > 1000)) = true ∧ m_chord_Best l rs leap = some ([], 0, false, 12)) ∨
  (l.any (fun c => decide ((RW rs c).length > 1000)) ≠ true ∧ (((∀ p, ¬ ways l rs leap p) ∧ m_chord_Best l rs leap = some ([], 0, false, 0)) ∨ ∃ v, ways l rs leap v ∧ m_chord_Best l rs leap = some (v, mvT v, true, 0) ∧ ∀ p, ways l rs leap p → mvT v ≤ mvT p)) := by
 have hrl := hr.len
 unfold m_chord_Best
 rw [hbf, Option.bind_some, show ((0 : Int) != 0) = false from rfl, ifB_false, p_rows hr l 0 [] hc (by simp; omega), Option.bind_some]
 by_cases hbig : (l.any fun c => decide ((RW rs c).length > 1000)) = true
 ·rw [if_pos hbig]
  exact .inl ⟨hbig, rfl⟩
 ·rw [if_neg hbig]
  refine .inr ⟨hbig, ?_⟩
  simp only [fin_brk, List.nil_append]
  have hfew : ∀ c ∈ l, (RW rs c).length ≤ 1000 := fun c hcm => by
   have : ¬ (RW rs c).length > 1000 := fun h => hbig (List.any_eq_true.2 ⟨c, hcm, decide_eq_true h⟩)
   omega
  have hR : RsOK rs.length (l.map (RW rs)) := ⟨hrl.2, by rw [List.length_map]; exact h12, fun r hrm v hv => by
   obtain ⟨c, -, rfl⟩ := List.mem_map.1 hrm
   exact (dfs_ok hr hv).1, fun r hrm => by
   obtain ⟨c, hcm, rfl⟩ := List.mem_map.1 hrm
   exact hfew c hcm⟩
  have hlR : l.length = (l.map (RW rs)).length := by rw [List.length_map]
  unfold ways
  generalize hRR : l.map (RW rs) = R at hR hlR ⊢
  obtain ⟨R0, Rs, rfl⟩ : ∃ R0 Rs, R = R0 :: Rs := by
   cases R with
   | nil => rw [List.length_nil] at hlR; omega
   | cons R0 Rs => exact ⟨R0, Rs, rfl⟩
  have hC0 : getI (costs leap (R0 :: Rs)) 0 = some ((headT leap (R0 :: Rs)).map Prod.fst) := by
   refine getI_of (i := 0) (n := 0) rfl ?_
   unfold costs
   rw [List.getElem?_map, tabs_at leap (i := 0) (R := R0 :: Rs) rfl]; rfl
  have hfw0 := hR.few R0 (List.mem_cons_self ..)
  have hhl := headT_len leap R0 Rs
  have hcost : ∀ k, k < R0.length → ((headT leap (R0 :: Rs)).map Prod.fst)[k]? = some (nthP (headT leap (R0 :: Rs)) k).1 := fun k hk => by
   rw [List.getElem?_map, nthP_get (by rw [hhl]; exact hk)]; rfl
  have hhead : ∀ p, inRs p (R0 :: Rs) → ∃ k t, k < R0.length ∧ p = nthR R0 k :: t := fun p hp => by
   cases p with
   | nil => exact absurd hp id
   | cons w t =>
    obtain ⟨k, hk, hw⟩ := List.mem_iff_getElem.1 hp.1
    refine ⟨k, t, hk, ?_⟩
    have := nthR_get hk
    rw [List.getElem?_eq_getElem hk, hw] at this
    rw [← Option.some.inj this]
  obtain ⟨f, f1, f3⟩ := first_P (costs leap (R0 :: Rs)) _ hC0 (by rw [List.length_map, hhl]; omega)
  rw [rests_spec hR (by rw [List.length_cons]; omega), Option.bind_some, hC0, Option.bind_some, f1, Option.bind_some, fin_brk]
  rcases f3 with ⟨rfl, hall⟩ | ⟨j, rfl, c, hj, hcj, hmin⟩
  ·refine .inl ⟨fun p hp => ?_, rfl⟩
   obtain ⟨k, t, hk, rfl⟩ := hhead p hp.1
   exact (pth_least hR.n5 Rs R0 k t hR.rows hk hp.1 hp.2).1 (hall _ (List.mem_of_getElem? (hcost k hk)))
  ·have hjl : j < R0.length := by
    have := (List.getElem?_eq_some_iff.1 hj).1
    rw [List.length_map, hhl] at this
    exact this
   have hcn : (nthP (headT leap (R0 :: Rs)) j).1 = c := by
    rw [hcost j hjl] at hj
    exact Option.some.inj hj
   obtain ⟨z1, z2, p1⟩ := p_path (leap := leap) hlR hR Rs R0 0 j [] rfl hjl (by rw [hcn]; exact hcj) (by have := hR.len; rw [List.length_cons] at this; simp; omega)
   rw [hcn, List.nil_append, List.nil_append] at p1
   have p1' : loopM (m_chord_Best_l3 l leap (R0 :: Rs) (costs leap (R0 :: Rs))) (1, c, [nthR R0 j]) = some (.brk (z1, z2, pth leap (R0 :: Rs) j)) := p1
   obtain ⟨g1, g2, g3⟩ := pth_ok Rs R0 j hjl (by rw [hcn]; exact hcj)
   rw [show ((j : Int) == -1) = false by simp]
   simp only [ifB_false, hC0, Option.bind_some, getI_of (i := 0) (n := 0) (xs := R0 :: Rs) rfl rfl, getI_of (n := j) rfl (nthR_get hjl), getI_of (n := j) rfl hj, p1', fin_brk]
   refine .inr ⟨pth leap (R0 :: Rs) j, ⟨g1, g2⟩, by rw [g3, hcn], fun p hp => ?_⟩
   obtain ⟨k, t, hk, rfl⟩ := hhead p hp.1
   have hle := pth_least hR.n5 Rs R0 k t hR.rows hk hp.1 hp.2
   rw [g3, hcn]
   rcases hmin _ (List.mem_of_getElem? (hcost k hk)) with h | h
   ·exact absurd h hle.1
   ·omega
def inRng : List TRange → List Int → Prop
 | [], [] => True
 | r :: rs, x :: t => r.Low ≤ x ∧ x ≤ r.High ∧ inRng rs t
 | _, _ => False
theorem ext_rng (T : List Int) : ∀ (rest : List TRange) (p row : List Int), row ∈ ext T rest p → ∃ s, row = p ++ s ∧ inRng rest s
 | [], p, row, h => by
  unfold ext at h
  rw [List.mem_singleton] at h
  exact ⟨[], by simp [h], trivial⟩
 | r :: rest, p, row, h => by
  unfold ext at h
  obtain ⟨n, hn, h2⟩ := List.mem_flatMap.1 h
  split at h2
  ·obtain ⟨s, rfl, h3⟩ := ext_rng T rest (p ++ [n]) row h2
   have hm := mem_rng hn
   exact ⟨n :: s, by simp, hm.1, hm.2, h3⟩
  ·cases h2
theorem RW_ok {rs : List TRange} (hr : RR rs) {c : TChord} {row : List Int} (h : row ∈ RW rs c) : RowOK rs.length row ∧ adj row ∧ fitsB ((m_chord_tones c).getD []) row = true ∧ inRng rs row := by
 unfold RW at h
 obtain ⟨h1, h2⟩ := dfs_ok hr h
 rw [dfs_ext _ rs [] (fun i hi => by simp at hi) (fun h => by simp at h)] at h
 obtain ⟨h3, h4⟩ := List.mem_filter.1 h
 obtain ⟨s, rfl, h5⟩ := ext_rng _ rs [] row h3
 exact ⟨h1, h2, (qB_iff.1 h4).2, h5⟩
theorem ways_row {l : List TChord} {rs : List TRange} {leap : Int} {v : List (List Int)} (hw : ways l rs leap v) {i : Nat} {row : List Int} (hi : v[i]? = some row) : ∃ c, l[i]? = some c ∧ row ∈ RW rs c := by
 have hl := inRs_len _ _ hw.1
 rw [List.length_map] at hl
 have hiv := (List.getElem?_eq_some_iff.1 hi).1
 refine ⟨l[i]'(by omega), List.getElem?_eq_getElem _, ?_⟩
 exact inRs_at v _ i row _ hw.1 hi (by rw [List.getElem?_map, List.getElem?_eq_getElem (show i < l.length by omega)]; rfl)
theorem ways_mem {l : List TChord} {rs : List TRange} {leap : Int} {v : List (List Int)} (hw : ways l rs leap v) (hr : RR rs) {row : List Int} (h : row ∈ v) : RowOK rs.length row ∧ adj row ∧ inRng rs row := by
 obtain ⟨i, hi, e⟩ := List.mem_iff_getElem.1 h
 obtain ⟨c, -, h2⟩ := ways_row hw (i := i) (row := row) (by rw [List.getElem?_eq_getElem hi, e])
 obtain ⟨g1, g2, -, g4⟩ := RW_ok hr h2
 exact ⟨g1, g2, g4⟩
def chkF (r k t : Nat) : Bool := decide (m_gleeref2_ChordFault ⟨r, k, t⟩ = some 0)
theorem Chords_len (L : List Int) {q many : Int} (hq : 0 ≤ q) (hq' : q ≤ 998000000) (hm : 0 ≤ many) (hm' : many ≤ 10) : ∃ l q', m_gleemake_Stream_Chords L q many = some (l, q') ∧ q ≤ q' ∧ q' ≤ q + 1000 ∧ (l.length : Int) = many := by
 unfold m_gleemake_Stream_Chords
 rw [show rangeI many = some (List.range many.toNat) by unfold rangeI; rw [if_pos (by omega)], Option.bind_some]
 obtain ⟨s, g1, p, out, rfl, g2, g3, g4⟩ := rangeM_invx (m_gleemake_Stream_Chords_l1 L) (List.range many.toNat) (fun i s => ∃ (p : Int) (out : List TChord), s = (p, out) ∧ q ≤ p ∧ p ≤ q + 20 * i ∧ out.length = i) (by
  rintro i x s hx ⟨p, out, rfl, g2, g3, g4⟩
  have hi : i < many.toNat := by have := (List.getElem?_eq_some_iff.1 hx).1; simpa using this
  unfold m_gleemake_Stream_Chords_l1
  simp only
  obtain ⟨c, q1, h1, h2, h3⟩ := AChord_spec L (q := p) (by omega) (by omega)
  obtain ⟨f, hf⟩ := Flip_spec L (p := q1) (n := 2) (by omega) (by omega) (by omega)
  rw [h1, Option.bind_some]
  simp only
  rw [hf, Option.bind_some]
  simp only
  cases f with
  | true =>
   obtain ⟨v, hv, -⟩ := Pick_spec L (p := q1 + 1) [0, 5, 7] (by omega) (by omega) (by simp) (by simp)
   rw [ifB_true, hv, Option.bind_some, Option.bind_some, fin_inl]
   simp only
   rw [appM_of (by simp; omega) (by omega)]
   exact ⟨_, rfl, _, _, rfl, by omega, by omega, by simp; omega⟩
  | false =>
   rw [ifB_false, Option.bind_some, fin_inl]
   simp only
   rw [appM_of (by simp; omega) (by omega)]
   exact ⟨_, rfl, _, _, rfl, by omega, by omega, by simp; omega⟩) (q, []) ⟨_, _, rfl, by omega, by omega, by simp⟩
 rw [g1, Option.bind_some, fin_brk]
 rw [List.length_range] at g3 g4
 exact ⟨_, _, rfl, by simp only; omega, by simp only; omega, by simp only; omega⟩
theorem notesFault_E (a : List Int) (n : Int) : m_chord_notesFault a n = some (if a.length = 0 then 8 else if (a.length : Int) > n then 2 else if a.any (fun x => !decide (0 ≤ x ∧ x ≤ 127)) = true then 1 else 0) := by
 unfold m_chord_notesFault
 by_cases h0 : a.length = 0
 ·rw [h0]; rfl
 ·rw [show ((a.length : Int) == 0) = false by simpa using h0, ifB_false, if_neg h0]
  by_cases h1 : (a.length : Int) > n
  ·rw [decide_eq_true h1, if_pos h1]; rfl
  ·rw [decide_eq_false h1, if_neg h1, ifB_false]
   have h2 : m_slices_ContainsFunc_int_int__chord_notesFault_1 a = some (a.any fun x => !decide (0 ≤ x ∧ x ≤ 127)) := cfM_spec m_chord_notesFault_1 _ a (fun x _ => by unfold m_chord_notesFault_1; rw [Outside_spec]; rfl)
   rw [h2, Option.bind_some]
   cases a.any (fun x => !decide (0 ≤ x ∧ x ≤ 127)) <;> rfl
end Go.G
