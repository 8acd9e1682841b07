/- LW3: Way goes the fewest steps, and nothing is broken in it. In plain Lean, no program in sight. -/
import Derived.Test.YtdmejijkjgdfaacGreatDoorLW2
namespace Go.G
open Go Go.J
set_option linter.unusedSimpArgs false
theorem chkW_all : (allW.all fun c => decide (m_chord_CheckChord c = some 0)) = true := by decide +kernel
theorem chkW {c : TChord} (h : c ∈ allW) : m_chord_CheckChord c = some 0 := by
  have := List.all_eq_true.1 chkW_all c h
  simpa using this
theorem checkAllW (l : List TChord) (h : ∀ c, c ∈ l → c ∈ allW) : m_chord_checkAll l = some 0 := by
  unfold m_chord_checkAll
  obtain ⟨s, h1, -⟩ := rangeM_invx m_chord_checkAll_l1 l (fun _ _ => True) (fun i x s hx _ => ⟨(), by unfold m_chord_checkAll_l1; rw [chkW (h x (List.mem_of_getElem? hx))]; rfl, trivial⟩) () trivial
  rw [h1]; rfl
theorem last_getW {w : List TChord} {n : Nat} {z : TChord} (hl : w.length = n + 1) (hn : n ≤ 1000) (hz : w[n]? = some z) : getI w (w64 ((w.length : Int) - 1)) = some z := by
  rw [w64_id (by omega)]
  exact getI_of (n := n) (by omega) hz
/-- the next chord of the way -/
theorem next_spec (f : List TFollow) (m : List (TChord × Int)) (left : Int) (hl0 : 1 ≤ left) (hl1 : left ≤ 1000) (p : Int × List TChord) (hp : p.1 = left) (w : List TChord) (n : Nat) (z : TChord) (hl : w.length = n + 1) (hn : n ≤ 1000) (hz : w[n]? = some z) :
    ∀ (t : List TChord) (i : Nat), (∃ x, x ∈ t ∧ lkM m x = some (left - 1) ∧ mayB f z x = true) → ∃ x, x ∈ t ∧ lkM m x = some (left - 1) ∧ mayB f z x = true ∧ rangeM (m_chord_Way_l2 f m p) i t w = some (.brk (w ++ [x]))
  | [], _, ⟨x, hx, _⟩ => by cases hx
  | y :: t, i, ⟨x, hx, h1, h2⟩ => by
    by_cases hy : lkM m y = some (left - 1) ∧ mayB f z y = true
    · refine ⟨y, List.mem_cons_self .., hy.1, hy.2, ?_⟩
      rw [rangeM_cons]
      unfold m_chord_Way_l2
      rw [has_lk.2 ⟨_, hy.1⟩, hy.1, hp, w64_id (by omega)]
      simp only [ifB_true, Option.getD_some, beq_self_eq_true]
      rw [last_getW hl hn hz, Option.bind_some, may_spec, Option.bind_some, hy.2, ifB_true, appM_of (by simp; omega) (by omega)]
      rfl
    · have hx' : x ∈ t := by
        rcases List.mem_cons.1 hx with rfl | h
        · exact (hy ⟨h1, h2⟩).elim
        · exact h
      obtain ⟨x', a1, a2, a3, a4⟩ := next_spec f m left hl0 hl1 p hp w n z hl hn hz t (i + 1) ⟨x, hx', h1, h2⟩
      refine ⟨x', List.mem_cons_of_mem _ a1, a2, a3, ?_⟩
      rw [rangeM_cons]
      have : m_chord_Way_l2 f m p i y w = some (.nxt w) := by
        unfold m_chord_Way_l2
        cases hh : hasM m y with
        | false => rfl
        | true =>
          obtain ⟨d, hd⟩ := has_lk.1 hh
          rw [ifB_true, hd, hp, w64_id (by omega), Option.getD_some]
          by_cases e : d = left - 1
          · subst e
            simp only [beq_self_eq_true, ifB_true]
            rw [last_getW hl hn hz, Option.bind_some, may_spec, Option.bind_some]
            have : mayB f z y = false := by
              cases hm : mayB f z y with
              | false => rfl
              | true => exact (hy ⟨hd, hm⟩).elim
            rw [this, ifB_false]
          · rw [show (d == left - 1) = false by simpa using e, ifB_false]
      rw [this, Option.bind_some, run_nxt]
      exact a4
/-- a way of n steps from a, by the steps to its end -/
structure WayW (f : List TFollow) (m : List (TChord × Int)) (a : TChord) (n : Nat) (k : Nat) (w : List TChord) : Prop where
  len : w.length = k + 1
  kn : k ≤ n
  fst : w[0]? = some a
  on : ∀ i, i ≤ k → ∃ x, w[i]? = some x ∧ x ∈ allW ∧ lkM m x = some ((n : Int) - i)
  ch : ∀ i x y, w[i]? = some x → w[i + 1]? = some y → mayB f x y = true
theorem Way_spec (f : List TFollow) (hf : m_chord_CheckFollows f = some 0) {a b : TChord} (ha : a ∈ allW) (hb : b ∈ allW) :
    ∃ m, StepsW f b m ∧ ((lkM m a = none ∧ m_chord_Way f a b = some ([], false, 0)) ∨ ∃ (n : Nat) (w : List TChord), n ≤ 84 ∧ lkM m a = some (n : Int) ∧ WayW f m a n n w ∧ m_chord_Way f a b = some (w, true, 0)) := by
  obtain ⟨m, hm, h⟩ := stepsTo_spec f b
  refine ⟨m, h, ?_⟩
  have ea : (TChord.mk a.Root a.Kind 0) = a := by have := (allW_mem ha).2.2.2.2; cases a; simp_all
  have eb : (TChord.mk b.Root b.Kind 0) = b := by have := (allW_mem hb).2.2.2.2; cases b; simp_all
  have hca : m_chord_checkAll [a, b] = some 0 := checkAllW _ fun c hc => by
    rcases List.mem_cons.1 hc with rfl | hc
    · exact ha
    · rw [List.mem_singleton.1 hc]; exact hb
  have hW : m_chord_Way f a b = ifB (!(hasM m a)) (some ([], false, 0)) ((loopM (m_chord_Way_l1 f m) (((lkM m a).getD 0), [a])).bind fun f17 => Flow.fin f17 fun u14 => some (u14.2, true, 0)) := by
    unfold m_chord_Way
    rw [hf, Option.bind_some, show ((0 : Int) != 0) = false from rfl, ifB_false, hca, Option.bind_some, show ((0 : Int) != 0) = false from rfl, ifB_false, eb, hm, Option.bind_some, ea]
  rw [hW]
  cases hh : hasM m a with
  | false => exact .inl ⟨hasN_lk.1 hh, rfl⟩
  | true =>
    right
    obtain ⟨d, hd⟩ := has_lk.1 hh
    obtain ⟨hd0, hd1⟩ := h.nn a d hd
    obtain ⟨n, rfl⟩ := Int.eq_ofNat_of_zero_le hd0
    have h0 : ∀ i : Nat, i ≤ 0 → ∃ x, [a][i]? = some x ∧ x ∈ allW ∧ lkM m x = some ((n : Int) - (i : Int)) := by
      intro i hi
      have : i = 0 := by omega
      subst this
      exact ⟨a, rfl, ha, by simpa using hd⟩
    obtain ⟨fl, hfl, w, rfl, hw⟩ := loopM_post (m_chord_Way_l1 f m) (fun s => ∃ k : Nat, s.1 = (n : Int) - (k : Int) ∧ WayW f m a n k s.2) (fun s => s.1.toNat) (fun fl => ∃ w, fl = .brk (0, w) ∧ WayW f m a n n w) (by
      rintro ⟨left, w⟩ ⟨k, hk, hI⟩
      simp only at hk hI ⊢
      have hkn := hI.kn
      unfold m_chord_Way_l1
      simp only []
      by_cases hkn' : k = n
      · subst hkn'
        have : left = 0 := by omega
        subst this
        exact .inr (.inl ⟨(0, w), rfl, w, rfl, hI⟩)
      · left
        obtain ⟨z, hz, hza, hzm⟩ := hI.on k (Nat.le_refl _)
        rcases h.back z _ hzm with ⟨_, h2⟩ | ⟨_, h2, y, hy, hzy⟩
        · omega
        · have hya : y ∈ allW := by
            rcases h.back y _ hy with ⟨rfl, _⟩ | ⟨h3, _⟩
            · exact hb
            · exact h3
          obtain ⟨x, hx, hxm, hzx, hr⟩ := next_spec f m left (by omega) (by omega) (left, w) rfl w k z hI.len (by omega) hz allW 0 ⟨y, hya, by rw [hk]; exact hy, hzy⟩
          refine ⟨(left - 1, w ++ [x]), ?_, ⟨k + 1, ?_, ?_⟩, ?_⟩
          · rw [ifB_ite, if_pos (by omega), all_spec, Option.bind_some, hr, Option.bind_some, fin_brk, w64_id (by omega)]
          · show left - 1 = (n : Int) - ((k + 1 : Nat) : Int); omega
          · have hlen := hI.len
            refine ⟨by simp [hlen], by omega, by rw [List.getElem?_append_left (by omega)]; exact hI.fst, fun i hi => ?_, fun i x1 y1 q1 q2 => ?_⟩
            · by_cases hik : i ≤ k
              · obtain ⟨x1, e1, e2, e3⟩ := hI.on i hik
                exact ⟨x1, by rw [List.getElem?_append_left (by omega)]; exact e1, e2, e3⟩
              · have : i = k + 1 := by omega
                subst this
                exact ⟨x, by rw [List.getElem?_append_right (by omega), hlen]; simp, hx, by rw [hxm, hk]; congr 1; omega⟩
            · change (w ++ [x])[i]? = some x1 at q1
              change (w ++ [x])[i + 1]? = some y1 at q2
              have hi2 : i + 1 < (w ++ [x]).length := (List.getElem?_eq_some_iff.1 q2).1
              rw [List.length_append, List.length_singleton] at hi2
              rw [List.getElem?_append_left (by omega)] at q1
              by_cases hik : i + 1 < w.length
              · rw [List.getElem?_append_left hik] at q2
                exact hI.ch i x1 y1 q1 q2
              · have hik2 : i = k := by omega
                subst hik2
                rw [List.getElem?_append_right (by omega), hlen] at q2
                rw [hz] at q1
                simp at q2
                cases q1
                subst q2
                exact hzx
          · show (left - 1).toNat < left.toNat
            omega) ((n : Int), [a]) ⟨0, by simp, ⟨rfl, by omega, rfl, h0, fun i x y _ h2 => by
          have := (List.getElem?_eq_some_iff.1 h2).1
          simp at this⟩⟩
    refine ⟨n, w, by omega, hd, hw, ?_⟩
    rw [hd, Option.getD_some, hfl]
    rfl
theorem Broken_none (f : List TFollow) (hf : m_chord_CheckFollows f = some 0) (w : List TChord) (hl : w.length ≤ 144) (hw : ∀ c, c ∈ w → c ∈ allW) (hc : ∀ i x y, w[i]? = some x → w[i + 1]? = some y → mayB f x y = true) : m_chord_Broken f w = some ([], 0) := by
  unfold m_chord_Broken m_chord_rowFault
  rw [hf, Option.bind_some, show ((0 : Int) != 0) = false from rfl, ifB_false, ifB_ite, if_neg (by omega), checkAllW w hw, Option.bind_some, Option.bind_some, show ((0 : Int) != 0) = false from rfl, ifB_false]
  obtain ⟨fl, hfl, i, rfl⟩ := loopM_post (m_chord_Broken_l1 f w) (fun s => ∃ i : Nat, 1 ≤ i ∧ i ≤ w.length + 1 ∧ s = ((i : Int), [])) (fun s => w.length + 1 - s.1.toNat) (fun fl => ∃ i, fl = .brk (i, [])) (by
    rintro s ⟨i, hi, hi2, rfl⟩
    unfold m_chord_Broken_l1
    simp only []
    by_cases hlt : (i : Int) < (w.length : Int)
    · left
      have h1 : w[i - 1]? = some (w[i - 1]'(by omega)) := List.getElem?_eq_getElem _
      have h2 : w[i]? = some (w[i]'(by omega)) := List.getElem?_eq_getElem _
      have hm := hc (i - 1) _ _ h1 (by rw [show i - 1 + 1 = i by omega]; exact h2)
      refine ⟨(((i + 1 : Nat) : Int), []), ?_, ⟨i + 1, by omega, by omega, rfl⟩, by show w.length + 1 - (((i + 1 : Nat) : Int)).toNat < w.length + 1 - ((i : Int)).toNat; omega⟩
      rw [ifB_ite, if_pos hlt, getI_of (n := i - 1) (by rw [w64_id (by omega)]; omega) h1, Option.bind_some, getI_of rfl h2, Option.bind_some, may_spec, Option.bind_some, hm]
      simp only [Bool.not_true, ifB_false]
      rw [w64_id (by omega)]
      rfl
    · right; left
      refine ⟨((i : Int), []), ?_, i, rfl⟩
      rw [ifB_ite, if_neg hlt]) (1, []) ⟨1, by omega, by omega, rfl⟩
  rw [hfl]
  rfl
theorem May_spec (f : List TFollow) (hf : m_chord_CheckFollows f = some 0) {a b : TChord} (ha : a ∈ allW) (hb : b ∈ allW) : m_chord_May f a b = some (mayB f a b, 0) := by
  unfold m_chord_May
  rw [hf, Option.bind_some, show ((0 : Int) != 0) = false from rfl, ifB_false, checkAllW [a, b] (fun c hc => by
    rcases List.mem_cons.1 hc with rfl | hc
    · exact ha
    · rw [List.mem_singleton.1 hc]; exact hb), Option.bind_some, show ((0 : Int) != 0) = false from rfl, ifB_false, may_spec]
  rfl
/-- steps to c, and from c on to b -/
theorem steps_tri {f : List TFollow} {b c : TChord} {m m' : List (TChord × Int)} (h : StepsW f b m) (h' : StepsW f c m') {e : Int} (hc : lkM m c = some e) : ∀ (n : Nat) (x : TChord), lkM m' x = some (n : Int) → ∃ d, lkM m x = some d ∧ d ≤ e + n := by
  intro n
  induction n with
  | zero =>
    intro x hx
    rcases h'.back x _ hx with ⟨rfl, _⟩ | ⟨_, h2, _⟩
    · exact ⟨e, hc, by omega⟩
    · omega
  | succ n ih =>
    intro x hx
    rcases h'.back x _ hx with ⟨_, h2⟩ | ⟨hxa, _, y, hy, hxy⟩
    · omega
    · obtain ⟨d, hd, hde⟩ := ih y (by rw [hy]; congr 1; omega)
      obtain ⟨d', hd', hde'⟩ := h.clos y d hd x hxa hxy
      exact ⟨d', hd', by omega⟩
/-- who is on a chain to c is at most so far -/
theorem steps_chain {f : List TFollow} {c : TChord} {m' : List (TChord × Int)} (h' : StepsW f c m') {w : List TChord} {k : Nat} (hk : w[k]? = some c) (hw : ∀ x, x ∈ w → x ∈ allW) (hc : ∀ i x y, w[i]? = some x → w[i + 1]? = some y → mayB f x y = true) :
    ∀ (j i : Nat), i + j = k → ∃ x d, w[i]? = some x ∧ lkM m' x = some d ∧ d ≤ j := by
  intro j
  induction j with
  | zero =>
    intro i hi
    have : i = k := by omega
    subst this
    exact ⟨c, 0, hk, h'.base, by omega⟩
  | succ j ih =>
    intro i hi
    obtain ⟨y, d, hy, hd, hdj⟩ := ih (i + 1) (by omega)
    have hlt : i + 1 < w.length := (List.getElem?_eq_some_iff.1 hy).1
    have hx : w[i]? = some (w[i]'(by omega)) := List.getElem?_eq_getElem _
    obtain ⟨d', hd', hde⟩ := h'.clos y d hd _ (hw _ (List.mem_of_getElem? hx)) (hc i _ y hx hy)
    exact ⟨_, d', hx, hd', by omega⟩
end Go.G
