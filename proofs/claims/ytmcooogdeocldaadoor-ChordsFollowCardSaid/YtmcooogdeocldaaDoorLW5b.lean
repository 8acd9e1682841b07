/- LW5b: the reference's search for how far each chord is, whatever the order in which its map is ranged over. In plain Lean, no program in sight. -/
import Derived.Test.YtmcooogdeocldaaDoorLW5
namespace Go.G
open Go Go.J
set_option linter.unusedSimpArgs false
set_option linter.unusedVariables false
/-! ### the reference's search -/
inductive Wk (f : List TFollow) (b : TChord) : TChord → Int → Prop
  | base : Wk f b b 0
  | step {x y : TChord} {d : Int} : x ∈ allW → mayB f x y = true → Wk f b y d → Wk f b x (d + 1)
structure FarW (f : List TFollow) (b : TChord) (m : List (TChord × Int)) : Prop where
  nd : (m.map Prod.fst).Nodup
  base : lkM m b = some 0
  wk : ∀ x d, lkM m x = some d → Wk f b x d ∧ x ∈ allW ∧ 0 ≤ d ∧ d + cntW m ≤ 84
def valW (m : List (TChord × Int)) (c : TChord) : Nat := match lkM m c with | none => 200 | some d => d.toNat
def muW (m : List (TChord × Int)) : Nat := (allW.map (valW m)).sum
theorem sum_lt {α : Type} {g h : α → Nat} : ∀ {l : List α} {c : α}, (∀ x, x ∈ l → g x ≤ h x) → c ∈ l → g c < h c → (l.map g).sum < (l.map h).sum
  | x :: l, c, hle, hc, hlt => by
    rw [List.map_cons, List.map_cons, List.sum_cons, List.sum_cons]
    have h1 := hle x (List.mem_cons_self ..)
    have hle2 : ∀ (l : List α), (∀ y, y ∈ l → g y ≤ h y) → (l.map g).sum ≤ (l.map h).sum := by
      intro l
      induction l with
      | nil => intro _; simp
      | cons y l ih =>
        intro hy
        rw [List.map_cons, List.map_cons, List.sum_cons, List.sum_cons]
        exact Nat.add_le_add (hy y (List.mem_cons_self ..)) (ih fun z hz => hy z (List.mem_cons_of_mem _ hz))
    rcases List.mem_cons.1 hc with rfl | hc
    · have := hle2 l fun y hy => hle y (List.mem_cons_of_mem _ hy)
      omega
    · have := sum_lt (fun y hy => hle y (List.mem_cons_of_mem _ hy)) hc hlt
      omega
theorem muW_le (m : List (TChord × Int)) (h : ∀ x d, lkM m x = some d → d ≤ 84) : muW m ≤ 16800 := by
  have key : ∀ l : List TChord, (l.map (valW m)).sum ≤ l.length * 200 := by
    intro l
    induction l with
    | nil => simp
    | cons x l ih =>
      rw [List.map_cons, List.sum_cons, List.length_cons]
      have : valW m x ≤ 200 := by
        unfold valW
        cases hx : lkM m x with
        | none => exact Nat.le_refl _
        | some d => have := h x d hx; simp only; omega
      omega
  have := key allW
  rw [allW_len] at this
  exact this
theorem cntW_le {m : List (TChord × Int)} (c : TChord) (v : Int) : cntW (putM m c v) ≤ cntW m := by
  unfold cntW
  rw [← List.countP_eq_length_filter, ← List.countP_eq_length_filter]
  refine List.countP_mono_left fun x _ hx => ?_
  rw [hasM_put] at hx
  revert hx
  cases hasM m x <;> simp
/-- one entry that is better -/
theorem FarW.put {f : List TFollow} {b : TChord} {m : List (TChord × Int)} (h : FarW f b m) {c d : TChord} {k : Int} (hc : c ∈ allW) (hd : lkM m d = some k) (hm : mayB f c d = true)
    (hb : ∀ e, lkM m c = some e → k + 1 < e) : FarW f b (putM m c (k + 1)) ∧ muW (putM m c (k + 1)) < muW m := by
  obtain ⟨w1, w2, w3, w4⟩ := h.wk d k hd
  have hcb : c ≠ b := fun e => by subst e; have := hb 0 h.base; omega
  have hval : ∀ x, lkM (putM m c (k + 1)) x = if x = c then some (k + 1) else lkM m x := fun x => lkM_put m c x (k + 1)
  have hcn := cntW_le (m := m) c (k + 1)
  have hnew : k + 1 + cntW (putM m c (k + 1)) ≤ 84 := by
    cases hl : lkM m c with
    | none =>
      have := cntW_put hc (hasN_lk.2 hl) (k + 1)
      omega
    | some e =>
      have h1 := hb e hl
      obtain ⟨-, -, -, h2⟩ := h.wk c e hl
      omega
  refine ⟨⟨putM_nodup h.nd _ _, by rw [hval, if_neg (fun e => hcb e.symm)]; exact h.base, fun x e hx => ?_⟩, ?_⟩
  · rw [hval] at hx
    by_cases hxc : x = c
    · rw [if_pos hxc] at hx
      cases hx
      subst hxc
      exact ⟨.step hc hm w1, hc, by omega, hnew⟩
    · rw [if_neg hxc] at hx
      obtain ⟨v1, v2, v3, v4⟩ := h.wk x e hx
      exact ⟨v1, v2, v3, by omega⟩
  · refine sum_lt (c := c) (fun x _ => ?_) hc ?_
    · unfold valW
      rw [hval]
      by_cases hxc : x = c
      · rw [if_pos hxc]
        subst hxc
        cases hl : lkM m x with
        | none => simp only; omega
        | some e => have := hb e hl; simp only; omega
      · rw [if_neg hxc]; exact Nat.le_refl _
    · unfold valW
      rw [hval, if_pos rfl]
      cases hl : lkM m c with
      | none => simp only; omega
      | some e => have := hb e hl; simp only; omega
/-- nothing gets better at c -/
def NoBet (f : List TFollow) (m : List (TChord × Int)) (c : TChord) : Prop := ∀ d k, lkM m d = some k → mayB f c d = true → ∃ e, lkM m c = some e ∧ e ≤ k + 1
def NoB1 (f : List TFollow) (m : List (TChord × Int)) (c : TChord) (p : TChord × Int) : Prop := mayB f c p.1 = true → ∃ e, lkM m c = some e ∧ e ≤ p.2 + 1
section
variable {f : List TFollow} {b : TChord} {R : List TChord × Bool}
theorem pickW {m : List (TChord × Int)} (h : FarW f b m) {c : TChord} (hc : c ∈ allW) (g : Bool) (next : Bool × List (TChord × Int) → Option (List TChord × Bool))
    (h1 : NoBet f m c → next (g, m) = some R) (h2 : ∀ m', FarW f b m' → muW m' < muW m → next (true, m') = some R) :
    ∀ (n : Nat) (idx : List Nat), n + idx.length = m.length → idx.Nodup → (∀ i, i ∈ idx → i < m.length) → (∀ i p, i ∈ idx → m[i]? = some p → NoB1 f m c p) →
      mrangeK (m_gleeref2_WayOf_l3 f c next (g, m)) (fun _ => next (g, m)) m n idx () = some R
  | 0, idx, hn, hnd, hlt, hno => by
    refine h1 fun d k hd hm => ?_
    have hmem := lkM_in hd
    obtain ⟨i, hi, he⟩ := List.mem_iff_getElem.1 hmem
    have hin : i ∈ idx := Classical.byContradiction fun hni => by
      have h9 : (i :: idx).Nodup := List.nodup_cons.2 ⟨hni, hnd⟩
      have := List.Nodup.length_le_of_subset h9 (l₂ := List.range m.length) (fun j hj => by
        rcases List.mem_cons.1 hj with rfl | hj
        · exact List.mem_range.2 hi
        · exact List.mem_range.2 (hlt j hj))
      simp at this
      omega
    exact hno i (d, k) hin (by rw [List.getElem?_eq_getElem hi, he]) hm
  | n + 1, idx, hn, hnd, hlt, hno => by
    unfold mrangeK
    refine anyIx_of ?_ fun j hj => ?_
    · refine Classical.byContradiction fun hne => ?_
      have hsub : ∀ j, j ∈ List.range m.length → j ∈ idx := fun j hj => Classical.byContradiction fun h3 => hne ⟨j, List.mem_filter.2 ⟨hj, by simpa using h3⟩⟩
      have := List.Nodup.length_le_of_subset List.nodup_range hsub
      simp at this
      omega
    · obtain ⟨hj1, hj2⟩ := List.mem_filter.1 hj
      have hj1 := List.mem_range.1 hj1
      have hj2 : j ∉ idx := by simpa using hj2
      have hp : m[j]? = some (m[j]) := List.getElem?_eq_getElem hj1
      rw [hp, Option.bind_some]
      have hlk : lkM m (m[j]).1 = some (m[j]).2 := lkM_some h.nd j (by rw [hp])
      obtain ⟨w1, w2, w3, w4⟩ := h.wk _ _ hlk
      generalize hK : (fun s' : Unit => mrangeK (m_gleeref2_WayOf_l3 f c next (g, m)) (fun _ => next (g, m)) m n (idx ++ [j]) s') = K
      have hrec : NoB1 f m c m[j] → K () = some R := fun hb => by
       rw [← hK]
       exact pickW h hc g next h1 h2 n (idx ++ [j]) (by simp; omega)
        (by rw [List.nodup_append]; exact ⟨hnd, by simp, fun x hx y hy e => by rw [List.mem_singleton] at hy; subst hy; subst e; exact hj2 hx⟩)
        (fun i hi => by rcases List.mem_append.1 hi with hi | hi
                        · exact hlt i hi
                        · rw [List.mem_singleton] at hi; subst hi; exact hj1)
        (fun i p hi hip => by rcases List.mem_append.1 hi with hi | hi
                              · exact hno i p hi hip
                              · rw [List.mem_singleton] at hi; subst hi; rw [hp] at hip; cases hip; exact hb)
      unfold m_gleeref2_WayOf_l3
      rw [MayFollow_spec, Option.bind_some]
      have hw : w64 ((m[j]).2 + 1) = (m[j]).2 + 1 := w64_id (by omega)
      simp only [hw]
      by_cases hm : mayB f c (m[j]).1 = true
      · rw [hm, ifB_true, lkM_has]
        cases hl : lkM m c with
        | none =>
          simp only [Option.isSome_none, Bool.not_false, ifB_true, Option.bind_some, fin_inl]
          obtain ⟨f1, f2⟩ := h.put hc hlk hm (fun e he => by rw [hl] at he; cases he)
          exact h2 _ f1 f2
        | some e =>
          simp only [Option.isSome_some, Bool.not_true, ifB_false, Option.bind_some, fin_inl, Option.getD_some]
          by_cases hlt2 : (m[j]).2 + 1 < e
          · rw [decide_eq_true hlt2, ifB_true]
            obtain ⟨f1, f2⟩ := h.put hc hlk hm (fun e' he => by rw [hl] at he; cases he; exact hlt2)
            exact h2 _ f1 f2
          · rw [decide_eq_false hlt2, ifB_false]
            exact hrec fun _ => ⟨e, hl, by omega⟩
      · rw [Bool.not_eq_true] at hm
        rw [hm]
        simp only [ifB_false, Option.bind_some, fin_inl]
        exact hrec fun h5 => by rw [hm] at h5; cases h5
theorem passW {m0 : List (TChord × Int)} (self : Bool × List (TChord × Int) → Option (List TChord × Bool))
    (h1 : (∀ c, c ∈ allW → NoBet f m0 c) → self (false, m0) = some R) (h2 : ∀ m', FarW f b m' → muW m' < muW m0 → self (true, m') = some R) :
    ∀ (l pre : List TChord) (i : Nat) (g : Bool) (m : List (TChord × Int)), allW = pre ++ l → FarW f b m → (g = false → m = m0 ∧ ∀ c, c ∈ pre → NoBet f m0 c) → (g = true → muW m < muW m0) →
      rangeK (m_gleeref2_WayOf_l2 f) (fun u14 => self (u14.1, u14.2)) i l (g, m) = some R
  | [], pre, i, g, m, he, hf, hg0, hg1 => by
    unfold rangeK
    cases g with
    | true => exact h2 m hf (hg1 rfl)
    | false =>
      obtain ⟨rfl, h3⟩ := hg0 rfl
      exact h1 fun c hc => h3 c (by rw [he, List.append_nil] at hc; exact hc)
  | c :: l, pre, i, g, m, he, hf, hg0, hg1 => by
    unfold rangeK
    have hc : c ∈ allW := by rw [he]; simp
    have hpre : allW = (pre ++ [c]) ++ l := by rw [he]; simp
    show mrangeK (m_gleeref2_WayOf_l3 f c _ (g, m)) (fun _ => _) m m.length [] () = some R
    refine pickW hf hc g _ (fun hn => ?_) (fun m' hf' hlt => ?_) m.length [] (by simp) List.nodup_nil (by simp) (by simp)
    · refine passW self h1 h2 l (pre ++ [c]) (i + 1) g m hpre hf (fun e => ?_) hg1
      obtain ⟨rfl, h3⟩ := hg0 e
      refine ⟨rfl, fun x hx => ?_⟩
      rcases List.mem_append.1 hx with hx | hx
      · exact h3 x hx
      · rw [List.mem_singleton] at hx; subst hx; exact hn
    · refine passW self h1 h2 l (pre ++ [c]) (i + 1) true m' hpre hf' (fun e => by cases e) (fun _ => ?_)
      cases g with
      | true => exact Nat.lt_trans hlt (hg1 rfl)
      | false => obtain ⟨rfl, -⟩ := hg0 rfl; exact hlt
end
theorem searchW (f : List TFollow) (a b : TChord) {R : List TChord × Bool} (hR : ∀ m, FarW f b m → (∀ c, c ∈ allW → NoBet f m c) → ∀ self, m_gleeref2_WayOf_l1 f a (false, m) self = some R) :
    ∀ (mu fuel : Nat) (m : List (TChord × Int)), FarW f b m → muW m ≤ mu → mu + 2 ≤ fuel → loopK (m_gleeref2_WayOf_l1 f a) fuel (true, m) = some R := by
  intro mu
  induction mu using Nat.strongRecOn with
  | _ mu ih =>
    intro fuel m hf hmu hfu
    obtain ⟨fu, rfl⟩ : ∃ fu, fuel = fu + 1 := ⟨fuel - 1, by omega⟩
    unfold loopK
    show ifB true (m_gleeref2_plainChords.bind fun y9 => rangeK (m_gleeref2_WayOf_l2 f) (fun u14 => loopK (m_gleeref2_WayOf_l1 f a) fu (u14.1, u14.2)) 0 y9 (false, m)) _ = some R
    rw [ifB_true, plain_spec, Option.bind_some]
    refine passW (f := f) (b := b) (m0 := m) (loopK (m_gleeref2_WayOf_l1 f a) fu) (fun hall => ?_) (fun m' hf' hlt => ?_) allW [] 0 false m rfl hf (fun _ => ⟨rfl, fun c hc => by cases hc⟩) (fun e => by cases e)
    · obtain ⟨fu', rfl⟩ : ∃ fu', fu = fu' + 1 := ⟨fu - 1, by omega⟩
      exact hR m hf hall _
    · exact ih (muW m') (by omega) fu m' hf' (Nat.le_refl _) (by omega)
theorem far_eq {f : List TFollow} {b : TChord} {m ms : List (TChord × Int)} (h : FarW f b m) (hn : ∀ c, c ∈ allW → NoBet f m c) (hs : StepsW f b ms) : ∀ x, lkM m x = lkM ms x := by
  have h1 : ∀ (n : Nat) (x : TChord), lkM ms x = some (n : Int) → ∃ e, lkM m x = some e ∧ e ≤ n := by
    intro n
    induction n with
    | zero =>
      intro x hx
      rcases hs.back x _ hx with ⟨rfl, -⟩ | ⟨-, h5, -⟩
      · exact ⟨0, h.base, by omega⟩
      · exact absurd h5 (by omega)
    | succ n ih =>
      intro x hx
      rcases hs.back x _ hx with ⟨rfl, h5⟩ | ⟨hx1, h5, y, hy, hm⟩
      · exact absurd h5 (by omega)
      · obtain ⟨e, he, hle⟩ := ih y (by rw [hy]; congr 1; omega)
        obtain ⟨e', he', hle'⟩ := hn x hx1 y e he hm
        exact ⟨e', he', by omega⟩
  have h2 : ∀ x d, Wk f b x d → ∃ e, lkM ms x = some e ∧ e ≤ d := by
    intro x d hw
    induction hw with
    | base => exact ⟨0, hs.base, by omega⟩
    | step hx hm _ ih =>
      obtain ⟨e, he, hle⟩ := ih
      obtain ⟨e', he', hle'⟩ := hs.clos _ e he _ hx hm
      exact ⟨e', he', by omega⟩
  intro x
  cases hx : lkM m x with
  | none =>
    cases hy : lkM ms x with
    | none => rfl
    | some d =>
      obtain ⟨d0, -⟩ := hs.nn x d hy
      obtain ⟨e, he, -⟩ := h1 d.toNat x (by rw [hy]; congr 1; omega)
      rw [hx] at he; cases he
  | some e =>
    obtain ⟨w1, -, -, -⟩ := h.wk x e hx
    obtain ⟨d, hd, hle⟩ := h2 x e w1
    obtain ⟨d0, -⟩ := hs.nn x d hd
    obtain ⟨e', he', hle'⟩ := h1 d.toNat x (by rw [hd]; congr 1; omega)
    rw [hx] at he'; cases he'
    rw [hd]; congr 1; omega
theorem WayOf_exact (f : List TFollow) (a b : TChord) (hb : plainC b ∈ allW) {ms : List (TChord × Int)} (hs : StepsW f (plainC b) ms) : m_gleeref2_WayOf f a b = some (wayR f ms a) := by
  unfold m_gleeref2_WayOf
  have hp : putM ([] : List (TChord × Int)) (TChord.mk b.Root b.Kind 0) 0 = [(plainC b, 0)] := rfl
  rw [hp]
  have hl : ∀ x d, lkM [(plainC b, (0 : Int))] x = some d → x = plainC b ∧ d = 0 := by
    intro x d hx
    unfold lkM at hx
    rw [List.find?_cons] at hx
    by_cases e : plainC b = x
    · rw [decide_eq_true (show (plainC b, (0 : Int)).1 = x from e)] at hx
      cases hx
      exact ⟨e.symm, rfl⟩
    · rw [decide_eq_false (show ¬ (plainC b, (0 : Int)).1 = x from e)] at hx
      cases hx
  have hbase : lkM [(plainC b, (0 : Int))] (plainC b) = some 0 := by simp [lkM]
  have hcnt : cntW [(plainC b, (0 : Int))] ≤ 84 := by
    unfold cntW
    exact Nat.le_trans (List.length_filter_le _ _) (by rw [allW_len]; omega)
  have hf0 : FarW f (plainC b) [(plainC b, 0)] := ⟨by simp, hbase, fun x d hx => by
    obtain ⟨rfl, rfl⟩ := hl x d hx
    exact ⟨.base, hb, by omega, by omega⟩⟩
  have hmu := muW_le _ (fun x d hx => by obtain ⟨-, rfl⟩ := hl x d hx; omega)
  have hF : FUEL = 100000 := by unfold FUEL; rfl
  refine searchW f a (plainC b) (R := wayR f ms a) (fun m hf hn self => ?_) 16800 FUEL _ hf0 hmu (by rw [hF]; omega)
  have heq := far_eq hf hn hs
  show ifB false _ (ifB (!(hasM m (plainC a))) (some ([], false)) ((loopM (m_gleeref2_WayOf_l4 f (false, m)) (((lkM m (plainC a)).getD 0), [plainC a])).bind fun f41 => Flow.fin f41 fun u38 => some (u38.2, true))) = some (wayR f ms a)
  rw [ifB_false, lkM_has]
  unfold wayR
  rw [← heq]
  cases hk : lkM m (plainC a) with
  | none => rfl
  | some d =>
    obtain ⟨-, -, d0, d1⟩ := hf.wk _ _ hk
    simp only [Option.isSome_some, Bool.not_true, ifB_false, Option.getD_some]
    have hd : (d.toNat : Int) = d := by omega
    rw [← hd, outerW (m_gleeref2_WayOf_l4 f (false, m)) f m (WayOf_l4_next f false m) (fun out => rfl) d.toNat _ (by simp) (by simp; omega), Option.bind_some, fin_brk]
    simp only [Int.toNat_natCast]
    rw [wayF_congr f heq]
end Go.G
