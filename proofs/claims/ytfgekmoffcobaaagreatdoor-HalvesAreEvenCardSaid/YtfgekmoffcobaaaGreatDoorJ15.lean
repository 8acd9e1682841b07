/- J15: regions that draw their order: guarded operations are taken or passed over; the ways part at a test. No program in sight. -/
import Derived.Test.YtfgekmoffcobaaaGreatDoorJ14
set_option linter.unusedVariables false
namespace Go.J
open Go Go.RowKit
section
variable {P : Program} {K : List Lay} {N : NN} {l : Fr} {H : World → Prop} {opl : List Oper} {st0 st2 : List Nat} {S1 S2 : World → Prop} {fuel : Nat} {listed : Array Bool} {d ty i id j e : Nat} {op : Op} {pos : String} {af : Array Edge} {v : Value} {b : Bool}
variable {R : Post} [PanicOk R]
/-- taken first, its guard being met: what every world yields -/
theorem at_take2g (i : Nat) (ho : nth opl i = some ⟨some d, op, ty, pos, af, some (j, b)⟩) (hgs : gslot opl j = some e) (hgv : look l e = some (.bool b)) (hge : Nat.blt e N.n = true)
    (hs : Region.noSelect opl.toArray = true) (hf : Region.free .any opl.toArray listed i = true) (hr : (Region.ready .any opl.toArray listed).contains i = true)
    (h12 : ∀ w, S1 w → S2 w) (h2 : st0.contains i = true) (hd : Nat.blt d N.n = true) (hp : PureOp P N ⟨some d, op, ty, pos, af, none⟩ l S2 v) (hS : ∀ w, H w → S2 w)
    (h : AT P R opl K st0 st2 S1 S2 fuel (listed.setIfInBounds i true) N ((d, v) :: l) H) : AT P R opl K st0 st2 S1 S2 (fuel + 1) listed N l H := by
  intro a w hfr hw'
  have ho' : opl.toArray[i]? = some ⟨some d, op, ty, pos, af, some (j, b)⟩ := by rw [List.getElem?_toArray, ← nth_eq]; exact ho
  have hwt := wanted_eq (o := ⟨some d, op, ty, pos, af, some (j, b)⟩) rfl hgs hfr hgv hge
  refine wpAnyT_first (Y := S2) (v := v) ho' (Region.noSelect_spec hs) (fun c a w h => QK_panic h) h2 fuel listed a w (Region.free_spec ho' hf) ?_ (by simpa using hr)
    (.inl ⟨by rw [hwt]; simp, fun w' hw' => hp a w' hfr hw'⟩) (hS w hw') (h _ _ (hfr.put hd v) hw')
  intro j oj hj hji hun hno
  cases h0 : st0.contains j with
  | true => exact .inl rfl
  | false =>
    refine .inr ⟨rfl, fun w1 w hSw => ?_⟩
    unfold SofT at hSw
    rw [h0, if_neg (by simp)] at hSw
    split at hSw
    · exact hSw
    · exact h12 w hSw
/-- .. what every world ahead of the stores yields -/
theorem at_take1g (i : Nat) (ho : nth opl i = some ⟨some d, op, ty, pos, af, some (j, b)⟩) (hgs : gslot opl j = some e) (hgv : look l e = some (.bool b)) (hge : Nat.blt e N.n = true)
    (hs : Region.noSelect opl.toArray = true) (hf : Region.free .any opl.toArray listed i = true) (hr : (Region.ready .any opl.toArray listed).contains i = true)
    (hw : stWaits opl st2 listed i = true) (h2 : st0.contains i = true) (hd : Nat.blt d N.n = true) (hp : PureOp P N ⟨some d, op, ty, pos, af, none⟩ l S1 v) (hS : ∀ w, H w → S1 w)
    (h : AT P R opl K st0 st2 S1 S2 fuel (listed.setIfInBounds i true) N ((d, v) :: l) H) : AT P R opl K st0 st2 S1 S2 (fuel + 1) listed N l H := by
  intro a w hfr hw'
  have ho' : opl.toArray[i]? = some ⟨some d, op, ty, pos, af, some (j, b)⟩ := by rw [List.getElem?_toArray, ← nth_eq]; exact ho
  have hwt := wanted_eq (o := ⟨some d, op, ty, pos, af, some (j, b)⟩) rfl hgs hfr hgv hge
  refine wpAnyT_first (Y := S1) (v := v) ho' (Region.noSelect_spec hs) (fun c a w h => QK_panic h) h2 fuel listed a w (Region.free_spec ho' hf) ?_ (by simpa using hr)
    (.inl ⟨by rw [hwt]; simp, fun w' hw' => hp a w' hfr hw'⟩) (hS w hw') (h _ _ (hfr.put hd v) hw')
  intro j oj hj hji hun hno
  cases h0 : st0.contains j with
  | true => exact .inl rfl
  | false =>
    refine .inr ⟨rfl, fun w1 w hSw => ?_⟩
    unfold SofT at hSw
    rw [h0, if_neg (by simp)] at hSw
    split at hSw
    · rename_i hc
      unfold stWaits at hw
      have h3 := List.all_eq_true.1 hw j (by simpa using hc)
      rw [hun, nth_eq] at h3
      rw [List.getElem?_toArray] at hj
      rw [hj] at h3
      simp only [Bool.false_or, Array.any_eq_true, Bool.and_eq_true, Nat.beq_eq] at h3
      obtain ⟨k, hk, hb, he⟩ := h3
      exact absurd he (hno _ (Array.getElem_mem hk) hb)
    · exact hSw
theorem at_skip_aux (i : Nat) (ho : nth opl i = some ⟨some d, op, ty, pos, af, some (j, b)⟩) (hwt : ∀ a, Frm N l a → Region.wanted (⟨some d, op, ty, pos, af, some (j, b)⟩ : Oper) (yielded opl.toArray a.tmps) = false)
    (hs : Region.noSelect opl.toArray = true) (hf : Region.free .any opl.toArray listed i = true) (hr : (Region.ready .any opl.toArray listed).contains i = true)
    (h2 : st0.contains i = true) (hd : Nat.blt d N.n = true)
    (h : AT P R opl K st0 st2 S1 S2 fuel (listed.setIfInBounds i true) N ((d, undef) :: l) H) : AT P R opl K st0 st2 S1 S2 (fuel + 1) listed N l H := by
  intro a w hfr hw'
  have ho' : opl.toArray[i]? = some ⟨some d, op, ty, pos, af, some (j, b)⟩ := by rw [List.getElem?_toArray, ← nth_eq]; exact ho
  refine wpAnyT_first (Y := fun _ => True) (v := undef) ho' (Region.noSelect_spec hs) (fun c a w h => QK_panic h) h2 fuel listed a w (Region.free_spec ho' hf) ?_ (by simpa using hr)
    (.inr ⟨hwt a hfr, rfl⟩) trivial (h _ _ (hfr.put hd undef) hw')
  intro j oj hj hji hun hno
  cases h0 : st0.contains j with
  | true => exact .inl rfl
  | false => exact .inr ⟨rfl, fun _ _ _ => trivial⟩
/-- passed over: its guard is not met -/
theorem at_skip (i : Nat) (ho : nth opl i = some ⟨some d, op, ty, pos, af, some (j, b)⟩) (hgs : gslot opl j = some e) (hgv : look l e = some (.bool (!b))) (hge : Nat.blt e N.n = true)
    (hs : Region.noSelect opl.toArray = true) (hf : Region.free .any opl.toArray listed i = true) (hr : (Region.ready .any opl.toArray listed).contains i = true)
    (h2 : st0.contains i = true) (hd : Nat.blt d N.n = true)
    (h : AT P R opl K st0 st2 S1 S2 fuel (listed.setIfInBounds i true) N ((d, undef) :: l) H) : AT P R opl K st0 st2 S1 S2 (fuel + 1) listed N l H :=
  at_skip_aux i ho (fun a hfr => by rw [wanted_eq (o := ⟨some d, op, ty, pos, af, some (j, b)⟩) rfl hgs hfr hgv hge]; cases b <;> rfl) hs hf hr h2 hd h
theorem at_skipu (i : Nat) (ho : nth opl i = some ⟨some d, op, ty, pos, af, some (j, b)⟩) (hgs : gslot opl j = some e) (hgv : look l e = some undef) (hge : Nat.blt e N.n = true)
    (hs : Region.noSelect opl.toArray = true) (hf : Region.free .any opl.toArray listed i = true) (hr : (Region.ready .any opl.toArray listed).contains i = true)
    (h2 : st0.contains i = true) (hd : Nat.blt d N.n = true)
    (h : AT P R opl K st0 st2 S1 S2 fuel (listed.setIfInBounds i true) N ((d, undef) :: l) H) : AT P R opl K st0 st2 S1 S2 (fuel + 1) listed N l H :=
  at_skip_aux i ho (fun a hfr => wanted_undef (o := ⟨some d, op, ty, pos, af, some (j, b)⟩) rfl hgs hfr hgv hge) hs hf hr h2 hd h
/-- the ways part at a Bool that stands in a slot -/
theorem at_case {R : Post} {i : Nat} (b : Bool) (hv : look l i = some (.bool b)) (ht : b = true → AT P R opl K st0 st2 S1 S2 fuel listed N ((i, .bool true) :: l) H) (hf : b = false → AT P R opl K st0 st2 S1 S2 fuel listed N ((i, .bool false) :: l) H) : AT P R opl K st0 st2 S1 S2 fuel listed N l H := by
  have key : ∀ b', b = b' → AT P R opl K st0 st2 S1 S2 fuel listed N ((i, .bool b') :: l) H → AT P R opl K st0 st2 S1 S2 fuel listed N l H := by
    intro b' e h a w hfr hw
    subst e
    refine h a w ⟨hfr.defers, hfr.size, fun k u hu => ?_⟩ hw
    rw [look_cons] at hu
    by_cases e : i = k
    · subst e; rw [if_pos rfl] at hu; cases hu; exact hfr.vals i _ hv
    · rw [if_neg e] at hu; exact hfr.vals k u hu
  cases b with
  | true => exact key true rfl (ht rfl)
  | false => exact key false rfl (hf rfl)
end
/-! ### loops over the numbers below one that stands in the text -/
section
variable {P : Program} {R : Post} {K : List Lay} {N : NN} {fr : Fr} {H : World → Prop}
theorem cj_rangeC0 {α σ γ ρ : Type} {xs : List α} {step : Nat → α → σ → Option (Flow σ ρ)} {s0 : σ} {f : Flow σ ρ} {m : Int} {bodyc : Code} {b0 b1 r1 r2 tc ti td T1 T2 T3 T4 ty1 ty2 ty3 : Nat} {p1 p2 p3 : String} {a1 a2 a3 : Array Edge}
    (hs : rangeM step 0 xs s0 = some f) (g0 : γ) (l : σ → γ → Fr) (Hs : σ → γ → World → Prop) (hl : SubF ((ti, .int .i64 0) :: l s0 g0) fr) (hH : ∀ w, H w → Hs s0 g0 w) (hm : ∀ i : Nat, (i : Int) < m ↔ i < xs.length) (hmx : xs.length ≤ maxLen)
    (hfr : ∀ s c, look (l s c) tc = none ∧ look (l s c) td = none ∧ look (l s c) ti = none) (hne : Nat.beq tc ti = false ∧ Nat.beq td ti = false) (hb1 : Nat.blt tc N.n = true) (hb2 : Nat.blt td N.n = true) (hb3 : Nat.blt ti N.n = true)
    (after : ∀ s c, f = .brk s → NJ P R K N (l s c) (Hs s c))
    (body : ∀ (i : Nat) (x : α) (s : σ) (c : γ) (g : Flow σ ρ), xs[i]? = some x → step i x s = some g → ∀ J : σ → Prop, (∀ s', g = .nxt s' → J s') → (∀ s', g = .brk s' → f = .brk s') → (∀ v, g = .ret v → f = .ret v) →
      ∀ I : Act → World → Prop, (∀ (fr' : Fr) (H' : World → Prop) (s' : σ) (c' : γ), J s' → SubF ((ti, .int .i64 i) :: l s' c') fr' → (∀ w, H' w → Hs s' c' w) → NJ P R (.inv I :: .blk b0 :: K) N fr' H') →
      CJ P R bodyc (.blk b1 :: .inv I :: .blk b0 :: K) N ((ti, .int .i64 i) :: l s c) (Hs s c)) :
    CJ P R (.block b0 (.loop (.seq (.region r1 #[⟨some tc, .binOp .lss T1 (.tmp ti) (.const (.int .i64 m)) T2, ty1, p1, a1, none⟩] false) (.seq (.cond (.tmp tc) .skip (.exit b0)) (.seq (.block b1 bodyc)
      (.region r2 #[⟨some td, .binOp .add T3 (.tmp ti) (.const (.int .i64 1)) T4, ty2, p2, a2, none⟩, ⟨some ti, .move (.tmp td), ty3, p3, a3, none⟩] false)))))) K N fr H := by
  have n1 : tc ≠ ti := fun e => by have := hne.1; rw [e] at this; simp at this
  have n5 : td ≠ ti := fun e => by have := hne.2; rw [e] at this; simp at this
  refine cj_blk (cj_loop (σ := Nat × σ × γ) (fun q => (ti, .int .i64 q.1) :: l q.2.1 q.2.2) (fun q => Hs q.2.1 q.2.2) (fun n q => n = xs.length - q.1 ∧ q.1 ≤ xs.length ∧ rangeM step q.1 (xs.drop q.1) q.2.1 = some f) xs.length (0, s0, g0)
    ⟨by simp, Nat.zero_le _, by simpa using hs⟩ hl hH ?_)
  rintro n ⟨i, s, c⟩ ⟨hn, hi, hrun⟩
  simp only at hn hi hrun
  have le1 : ∀ v, FLe ((ti, .int .i64 (i : Int)) :: l s c) ((tc, v) :: (ti, .int .i64 (i : Int)) :: l s c) := by
    intro v j u hj
    rw [look_cons]
    by_cases e : tc = j
    · subst e
      rw [look_cons, if_neg n1.symm, (hfr s c).1] at hj
      cases hj
    · rw [if_neg e]; exact hj
  refine cj_rseq (lp hb1 (p_lss (x := .tmp ti) (y := .const (.int .i64 m)) (m := (i : Int)) (n := m) (k := .i64) ?_ rfl) (lj_seq (cj_seq (cj_if (b := decide ((i : Int) < m)) ?_ (fun hb => ?_) (fun hb => ?_)))))
  · simp only [ev]; rw [look_cons, if_pos rfl]
  · simp only [ev]; rw [look_cons, if_pos rfl]
  · have hlt : i < xs.length := (hm i).1 (by simpa using hb)
    have hd : xs.drop i = xs[i] :: xs.drop (i + 1) := List.drop_eq_getElem_cons hlt
    rw [hd] at hrun
    obtain ⟨g, hg, h2⟩ := bindS hrun
    refine cj_skip (nj_seq (cj_seq (cj_blk ?_)))
    -- the body's own continuation
    have hbody := body i xs[i] s c g (List.getElem?_eq_getElem hlt) hg (fun s' => rangeM step (i + 1) (xs.drop (i + 1)) s' = some f) (fun s' e => by subst e; exact h2) (fun s' e => by subst e; cases h2; rfl) (fun v e => by subst e; cases h2; rfl)
      (fun a w => Code.wpS P (Code.region r2 #[⟨some td, .binOp .add T3 (.tmp ti) (.const (.int .i64 1)) T4, ty2, p2, a2, none⟩, ⟨some ti, .move (.tmp td), ty3, p3, a3, none⟩] false)
        (QK P R (.inv (fun a w => ∃ (n' : Nat) (q' : Nat × σ × γ), n' < n ∧ (n' = xs.length - q'.1 ∧ q'.1 ≤ xs.length ∧ rangeM step q'.1 (xs.drop q'.1) q'.2.1 = some f) ∧ Frm N ((ti, .int .i64 q'.1) :: l q'.2.1 q'.2.2) a ∧ Hs q'.2.1 q'.2.2 w) :: .blk b0 :: K)) a w)
      ?_
    · intro a w hf hw
      refine wpS_mono (hbody a w (hf.le (le1 _)) hw) ?_
      intro e a' w' hq
      cases e with
      | normal => exact hq
      | exit id =>
        by_cases e : id = b1
        · subst e
          simp only [QK, Exit.inBlock, if_true, Exit.then] at hq ⊢
          exact hq
        · simp only [QK, Exit.inBlock, if_neg e, Exit.then] at hq ⊢
          exact hq
      | goto l => exact hq
      | ret => exact hq
      | panic ch => exact hq
      | outgrown => exact hq
    · intro fr' H' s' c' hJ hsub hH'
      refine nj_inv fun a w hf hw => ?_
      have hf0 := hf.sub hsub
      have hw64 : w64 ((i : Int) + 1) = ((i + 1 : Nat) : Int) := by
        rw [w64_id]
        · rfl
        · unfold maxLen at hmx; omega
      have hstep : CJ P R (Code.region r2 #[⟨some td, .binOp .add T3 (.tmp ti) (.const (.int .i64 1)) T4, ty2, p2, a2, none⟩, ⟨some ti, .move (.tmp td), ty3, p3, a3, none⟩] false)
          (.inv (fun a w => ∃ (n' : Nat) (q' : Nat × σ × γ), n' < n ∧ (n' = xs.length - q'.1 ∧ q'.1 ≤ xs.length ∧ rangeM step q'.1 (xs.drop q'.1) q'.2.1 = some f) ∧ Frm N ((ti, .int .i64 q'.1) :: l q'.2.1 q'.2.2) a ∧ Hs q'.2.1 q'.2.2 w) :: .blk b0 :: K) N
          ((ti, .int .i64 (i : Int)) :: l s' c') (Hs s' c') := by
        refine cj_reg (lp hb2 (p_add (m := (i : Int)) (n := 1) ?_ rfl) (lp hb3 (p_mv (v := .int .i64 (w64 ((i : Int) + 1))) ?_) (lj_nil (nj_inv fun a w hf hw => ⟨xs.length - (i + 1), (i + 1, s', c'), by omega, ⟨rfl, hlt, hJ⟩, hf.le ?_, hw⟩))))
        · simp only [ev]; rw [look_cons, if_pos rfl]
        · simp only [ev]; rw [look_cons, if_pos rfl]
        · intro j u hj
          rw [look_cons] at hj ⊢
          by_cases e1 : ti = j
          · rw [if_pos e1] at hj ⊢; rw [hw64]; exact hj
          · rw [if_neg e1] at hj ⊢
            have e3 : td ≠ j := fun e => by subst e; rw [(hfr s' c').2.1] at hj; cases hj
            rw [look_cons, if_neg e3, look_cons, if_neg e1]
            exact hj
      exact hstep a w hf0 (hH' w hw)
  · have hge : ¬ i < xs.length := fun h => by have := (hm i).2 h; simp at hb; omega
    have hd : xs.drop i = [] := List.drop_eq_nil_of_le (by omega)
    rw [hd] at hrun
    simp only [rangeM, Option.some.injEq] at hrun
    refine cj_exit (K' := K) ?_ (fun a w hf hw => after s c hrun.symm a w (hf.le ?_) hw)
    · simp [target]
    · intro j u hj
      rw [look_cons, if_neg (fun e => by subst e; rw [(hfr s c).1] at hj; cases hj), look_cons, if_neg (fun e => by subst e; rw [(hfr s c).2.2] at hj; cases hj)]
      exact hj
theorem cj_rangeC {α σ γ ρ : Type} {xs : List α} {step : Nat → α → σ → Option (Flow σ ρ)} {s0 : σ} {f : Flow σ ρ} {m : Int} {bodyc : Code} {b0 b1 r1 r2 tc ti td T1 T2 T3 T4 ty1 ty2 ty3 : Nat} {p1 p2 p3 : String} {a1 a2 a3 : Array Edge}
    (hs : rangeM step 0 xs s0 = some f) (g0 : γ) (l : σ → γ → Fr) (Hs : σ → γ → World → Prop) (hl : SubF ((ti, .int .i64 0) :: l s0 g0) fr) (hH : ∀ w, H w → Hs s0 g0 w) (hm : ∀ i : Nat, (i : Int) < m ↔ i < xs.length) (hmx : ∀ w, H w → xs.length ≤ maxLen)
    (hfr : ∀ s c, look (l s c) tc = none ∧ look (l s c) td = none ∧ look (l s c) ti = none) (hne : Nat.beq tc ti = false ∧ Nat.beq td ti = false) (hb1 : Nat.blt tc N.n = true) (hb2 : Nat.blt td N.n = true) (hb3 : Nat.blt ti N.n = true)
    (after : ∀ s c, f = .brk s → NJ P R K N (l s c) (Hs s c))
    (body : (∀ s c, f = .brk s → NJ P R K N (l s c) (Hs s c)) → ∀ (i : Nat) (x : α) (s : σ) (c : γ) (g : Flow σ ρ), xs[i]? = some x → step i x s = some g → ∀ J : σ → Prop, (∀ s', g = .nxt s' → J s') → (∀ s', g = .brk s' → f = .brk s') → (∀ v, g = .ret v → f = .ret v) →
      ∀ I : Act → World → Prop, (∀ (fr' : Fr) (H' : World → Prop) (s' : σ) (c' : γ), J s' → SubF ((ti, .int .i64 i) :: l s' c') fr' → (∀ w, H' w → Hs s' c' w) → NJ P R (.inv I :: .blk b0 :: K) N fr' H') →
      CJ P R bodyc (.blk b1 :: .inv I :: .blk b0 :: K) N ((ti, .int .i64 i) :: l s c) (Hs s c)) :
    CJ P R (.block b0 (.loop (.seq (.region r1 #[⟨some tc, .binOp .lss T1 (.tmp ti) (.const (.int .i64 m)) T2, ty1, p1, a1, none⟩] false) (.seq (.cond (.tmp tc) .skip (.exit b0)) (.seq (.block b1 bodyc)
      (.region r2 #[⟨some td, .binOp .add T3 (.tmp ti) (.const (.int .i64 1)) T4, ty2, p2, a2, none⟩, ⟨some ti, .move (.tmp td), ty3, p3, a3, none⟩] false)))))) K N fr H :=
  fun a w hf hw => cj_rangeC0 hs g0 l Hs hl hH hm (hmx w hw) hfr hne hb1 hb2 hb3 after (body after) a w hf hw
end
end Go.J
