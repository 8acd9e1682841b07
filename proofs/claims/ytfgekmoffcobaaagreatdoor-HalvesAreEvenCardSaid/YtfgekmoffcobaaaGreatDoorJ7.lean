/- J7: returns, loops over slices and numbers, regions that draw their order and only read. No program in sight. -/
import Derived.Test.YtfgekmoffcobaaaGreatDoorJ6
namespace Go.J
open Go Go.RowKit

/-! ### the models' ends -/
/-- behind a loop -/
def Flow.fin {σ ρ : Type} (f : Flow σ ρ) (k : σ → Option ρ) : Option ρ := match f with | .nxt _ => none | .brk s => k s | .ret v => some v
/-- behind ways that meet, or leave -/
def Sum.fin {σ τ : Type} (q : σ ⊕ τ) (k : σ → Option τ) : Option τ := match q with | .inl s => k s | .inr v => some v
theorem Flow.fin_b {σ τ : Type} {s : σ} {k : σ → Option τ} {f : Flow σ τ} {r : Option τ} (e : f = .brk s) (h : f.fin k = r) : k s = r := by subst e; exact h
theorem Sum.fin_l {σ τ : Type} {s : σ} {k : σ → Option τ} {q : σ ⊕ τ} {r : Option τ} (e : q = .inl s) (h : Sum.fin q k = r) : k s = r := by subst e; exact h
/-- the numbers below n -/
def rangeI (n : Int) : Option (List Nat) := if n ≤ 9223372036854775807 then some (List.range n.toNat) else none
theorem rangeI_spec {n : Int} {xs : List Nat} (h : rangeI n = some xs) : (∀ i : Nat, (i : Int) < n ↔ i < xs.length) ∧ xs.length ≤ maxLen := by
  unfold rangeI at h
  split at h
  · cases h
    refine ⟨fun i => by simp only [List.length_range]; omega, by simp only [List.length_range, maxLen]; omega⟩
  · cases h
theorem rangeI_get {n : Int} {xs : List Nat} (h : rangeI n = some xs) {i x : Nat} (hx : xs[i]? = some x) : x = i := by
  unfold rangeI at h
  split at h
  · cases h
    rw [List.getElem?_range] at hx
    · cases hx; rfl
    · have := (List.getElem?_eq_some_iff.1 hx).1; simpa using this
  · cases h
theorem nat_lt (n : Nat) (i : Nat) : (i : Int) < (n : Int) ↔ i < n := by omega
/-! ### returns -/
inductive ResOK (P : Program) (l : Fr) (es : List Ent) : List ResultVar → List Value → Prop where
  | nil : ResOK P l es [] []
  | tmp {i : Nat} {v : Value} {rs : List ResultVar} {vs : List Value} (h : look l i = some v) (t : ResOK P l es rs vs) : ResOK P l es (.tmp i :: rs) (v :: vs)
  | agg {i b k sz by_ : Nat} {T Tb : TypeId} {cs zs : List Value} {rs : List ResultVar} {vs : List Value} (hE : TyF P T true sz by_ zs) (h : look l i = some (.pointer (some ⟨b, 0, none⟩))) (hk : nth es k = some (.box b Tb cs)) (hl : cs.length = sz)
      (t : ResOK P l es rs vs) : ResOK P l es (.cell i T :: rs) (.agg cs.toArray :: vs)
  | one {i b k by_ : Nat} {T Tb : TypeId} {v : Value} {zs : List Value} {rs : List ResultVar} {vs : List Value} (hE : TyF P T false 1 by_ zs) (h : look l i = some (.pointer (some ⟨b, 0, none⟩))) (hk : nth es k = some (.box b Tb [v]))
      (t : ResOK P l es rs vs) : ResOK P l es (.cell i T :: rs) (v :: vs)
def resOf (tmps : Array Value) : ResultVar → Sem Value
  | .tmp t => pure (tmps.getD t undef)
  | .cell q t => do loadVar t (← asAddr (tmps.getD q undef))
theorem run_resOf_cell {P : Program} {tmps : Array Value} {q : Nat} {T : TypeId} {w : World} {ad : Addr} {v : Value} (h : tmps.getD q undef = .pointer (some ad)) (h2 : (loadVar T ad).run P w = .ok v w) : (resOf tmps (.cell q T)).run P w = .ok v w := by
  show (Sem.run P (asAddr (tmps.getD q undef) >>= loadVar T) w) = _
  rw [h, Sem.run_bind]
  exact h2
theorem ResOK.run {P : Program} {l : Fr} {es : List Ent} {rs : List ResultVar} {vs : List Value} (h : ResOK P l es rs vs) {N : NN} {a : Act} {w0 w : World} {M : List Nat} {A : Nat → Prop} (hf : Frm N l a) (hw : Sat w0 M A es w) :
    (rs.mapM (resOf a.tmps)).run P w = .ok vs w := by
  induction h with
  | nil => rfl
  | tmp h _ ih =>
    rw [List.mapM_cons]
    simp only [Sem.run_bind]
    show (Result.andThen (Result.ok (a.tmps.getD _ undef) w) _) = _
    rw [Result.andThen_ok, ih, hf.vals _ _ h]
    rfl
  | agg hE h hk hl _ ih =>
    rename_i i b k sz by_ T Tb cs zs rs vs _ht
    rw [List.mapM_cons]
    have h2 := hf.vals _ _ h
    have h3 : (loadVar T ⟨b, 0, none⟩).run P w = .ok (.agg cs.toArray) w := run_loadVar_a hE hl fun q v hv => by
      rw [add_at, Nat.zero_add, cell_of_row w b q _ _ _ (hw.box hk)]; simpa using hv
    simp only [Sem.run_bind, run_resOf_cell h2 h3, Sem.run_pure, Result.andThen_ok, ih]
  | one hE h hk _ ih =>
    rename_i i b k by_ T Tb v zs rs vs _ht
    rw [List.mapM_cons]
    have h2 := hf.vals _ _ h
    have h3 : (loadVar T ⟨b, 0, none⟩).run P w = .ok v w := run_loadVar_s hE (by rw [cell_of_row w b 0 _ _ _ (hw.box hk)]; rfl)
    simp only [Sem.run_bind, run_resOf_cell h2 h3, Sem.run_pure, Result.andThen_ok, ih]
def packV : List Value → Value
  | [v] => v
  | vs => .tuple vs.toArray
theorem results_ok {P : Program} {fn : Func} {l : Fr} {es : List Ent} {rs : List ResultVar} {vs : List Value} (hres : fn.results = rs.toArray) (h : ResOK P l es rs vs) {N : NN} {a : Act} {w0 w : World} {M : List Nat} {A : Nat → Prop} (hf : Frm N l a) (hw : Sat w0 M A es w) :
    (results fn a.tmps).run P w = .ok (packV vs) w := by
  have h1 := h.run hf hw
  unfold results
  rw [hres, List.mapM_toArray]
  simp only [Sem.run_bind, Sem.run_map]
  show (Result.andThen (Result.andThen (Sem.run P (List.mapM (resOf a.tmps) rs) w) _) _) = _
  rw [h1]
  simp only [Result.andThen_ok, Sem.run_pure]
  congr 1
  match vs with
  | [] => rfl
  | [v] => rfl
  | _ :: _ :: _ => simp [packV]
section
variable {P : Program} {K : List Lay} {N : NN} {l : Fr} {w0 : World} {M : List Nat} {A : Nat → Prop} {es r : List Ent} {rs : List ResultVar} {vs : List Value} {fn : Func} {X : Type} {V : X → Value} {post : X → List Ent}
theorem cj_rt {n : Nat} (x : X) (ks : List Nat) (hres : fn.results = rs.toArray) (h : ResOK P l es rs vs) (hv : packV vs = V x) (hp : picks ks es = some (post x, r)) :
    CJ P (bodyPost P fn fun e w' => ∃ x, e = .returned (V x) ∧ Sat w0 M A (post x) w') .ret K ⟨n, []⟩ l (Sat w0 M A es) :=
  cj_ret fun _ _ hf hw => ⟨hf.defers, _, results_ok hres h hf hw, x, by rw [hv], hw.picks ks hp⟩
/-- a function without a result comes to its end -/
theorem nj_rt {n : Nat} (x : X) (ks : List Nat) (hres : fn.results = rs.toArray) (h : ResOK P l es rs vs) (hv : packV vs = V x) (hp : picks ks es = some (post x, r)) :
    NJ P (bodyPost P fn fun e w' => ∃ x, e = .returned (V x) ∧ Sat w0 M A (post x) w') [] ⟨n, []⟩ l (Sat w0 M A es) :=
  nj_end fun _ _ hf hw => ⟨hf.defers, _, results_ok hres h hf hw, x, by rw [hv], hw.picks ks hp⟩
end

/-- all that the one list's slots hold the other's hold -/
def FLe (l' l : Fr) : Prop := ∀ i v, look l' i = some v → look l i = some v
theorem Frm.le {N : NN} {l l' : Fr} {a : Act} (h : Frm N l a) (hs : FLe l' l) : Frm N l' a := ⟨h.defers, h.size, fun i v hv => h.vals i v (hs i v hv)⟩
/-! ### loops over a slice, over the numbers below one -/
section
variable {P : Program} {R : Post} {K : List Lay} {N : NN} {fr : Fr} {H : World → Prop}
theorem cj_range0 {α σ γ ρ : Type} {xs : List α} {step : Nat → α → σ → Option (Flow σ ρ)} {s0 : σ} {f : Flow σ ρ} {m : Int} {bodyc : Code} {b0 b1 r1 r2 tc ti tn td T1 T2 T3 T4 ty1 ty2 ty3 : Nat} {p1 p2 p3 : String} {a1 a2 a3 : Array Edge}
    (hs : rangeM step 0 xs s0 = some f) (g0 : γ) (l : σ → γ → Fr) (Hs : σ → γ → World → Prop) (hl : SubF ((ti, .int .i64 0) :: (tn, .int .i64 m) :: l s0 g0) fr) (hH : ∀ w, H w → Hs s0 g0 w) (hm : ∀ i : Nat, (i : Int) < m ↔ i < xs.length) (hmx : xs.length ≤ maxLen)
    (hfr : ∀ s c, look (l s c) tc = none ∧ look (l s c) td = none ∧ look (l s c) ti = none ∧ look (l s c) tn = none) (hne : Nat.beq tc ti = false ∧ Nat.beq tc tn = false ∧ Nat.beq td tn = false ∧ Nat.beq ti tn = false ∧ Nat.beq td ti = false) (hb1 : Nat.blt tc N.n = true) (hb2 : Nat.blt td N.n = true) (hb3 : Nat.blt ti N.n = true)
    (after : ∀ s c, f = .brk s → NJ P R K N (l s c) (Hs s c))
    (body : ∀ (i : Nat) (x : α) (s : σ) (c : γ) (g : Flow σ ρ), xs[i]? = some x → step i x s = some g → ∀ J : σ → Prop, (∀ s', g = .nxt s' → J s') → (∀ s', g = .brk s' → f = .brk s') → (∀ v, g = .ret v → f = .ret v) →
      ∀ I : Act → World → Prop, (∀ (fr' : Fr) (H' : World → Prop) (s' : σ) (c' : γ), J s' → SubF ((ti, .int .i64 i) :: (tn, .int .i64 m) :: l s' c') fr' → (∀ w, H' w → Hs s' c' w) → NJ P R (.inv I :: .blk b0 :: K) N fr' H') →
      CJ P R bodyc (.blk b1 :: .inv I :: .blk b0 :: K) N ((ti, .int .i64 i) :: (tn, .int .i64 m) :: l s c) (Hs s c)) :
    CJ P R (.block b0 (.loop (.seq (.region r1 #[⟨some tc, .binOp .lss T1 (.tmp ti) (.tmp tn) T2, ty1, p1, a1, none⟩] false) (.seq (.cond (.tmp tc) .skip (.exit b0)) (.seq (.block b1 bodyc)
      (.region r2 #[⟨some td, .binOp .add T3 (.tmp ti) (.const (.int .i64 1)) T4, ty2, p2, a2, none⟩, ⟨some ti, .move (.tmp td), ty3, p3, a3, none⟩] false)))))) K N fr H := by
  have n1 : tc ≠ ti := fun e => by have := hne.1; rw [e] at this; simp at this
  have n2 : tc ≠ tn := fun e => by have := hne.2.1; rw [e] at this; simp at this
  have n3 : td ≠ tn := fun e => by have := hne.2.2.1; rw [e] at this; simp at this
  have n4 : ti ≠ tn := fun e => by have := hne.2.2.2.1; rw [e] at this; simp at this
  have n5 : td ≠ ti := fun e => by have := hne.2.2.2.2; rw [e] at this; simp at this
  refine cj_blk (cj_loop (σ := Nat × σ × γ) (fun q => (ti, .int .i64 q.1) :: (tn, .int .i64 m) :: l q.2.1 q.2.2) (fun q => Hs q.2.1 q.2.2) (fun n q => n = xs.length - q.1 ∧ q.1 ≤ xs.length ∧ rangeM step q.1 (xs.drop q.1) q.2.1 = some f) xs.length (0, s0, g0)
    ⟨by simp, Nat.zero_le _, by simpa using hs⟩ hl hH ?_)
  rintro n ⟨i, s, c⟩ ⟨hn, hi, hrun⟩
  simp only at hn hi hrun
  have le1 : ∀ v, FLe ((ti, .int .i64 (i : Int)) :: (tn, .int .i64 m) :: l s c) ((tc, v) :: (ti, .int .i64 (i : Int)) :: (tn, .int .i64 m) :: l s c) := by
    intro v j u hj
    rw [look_cons]
    by_cases e : tc = j
    · subst e
      rw [look_cons, if_neg n1.symm, look_cons, if_neg n2.symm, (hfr s c).1] at hj
      cases hj
    · rw [if_neg e]; exact hj
  refine cj_rseq (lp hb1 (p_lss (x := .tmp ti) (y := .tmp tn) (m := (i : Int)) (n := m) (k := .i64) ?_ ?_) (lj_seq (cj_seq (cj_if (b := decide ((i : Int) < m)) ?_ (fun hb => ?_) (fun hb => ?_)))))
  · simp only [ev]; rw [look_cons, if_pos rfl]
  · simp only [ev]; rw [look_cons, if_neg n4, look_cons, if_pos rfl]
  · simp only [ev]; rw [look_cons, if_pos rfl]
  · have hlt : i < xs.length := (hm i).1 (by simpa using hb)
    have hd : xs.drop i = xs[i] :: xs.drop (i + 1) := List.drop_eq_getElem_cons hlt
    rw [hd] at hrun
    obtain ⟨g, hg, h2⟩ := bindS hrun
    refine cj_skip (nj_seq (cj_seq (cj_blk ?_)))
    -- the body's own continuation
    have hbody := body i xs[i] s c g (List.getElem?_eq_getElem hlt) hg (fun s' => rangeM step (i + 1) (xs.drop (i + 1)) s' = some f) (fun s' e => by subst e; exact h2) (fun s' e => by subst e; cases h2; rfl) (fun v e => by subst e; cases h2; rfl)
      (fun a w => Code.wpS P (Code.region r2 #[⟨some td, .binOp .add T3 (.tmp ti) (.const (.int .i64 1)) T4, ty2, p2, a2, none⟩, ⟨some ti, .move (.tmp td), ty3, p3, a3, none⟩] false)
        (QK P R (.inv (fun a w => ∃ (n' : Nat) (q' : Nat × σ × γ), n' < n ∧ (n' = xs.length - q'.1 ∧ q'.1 ≤ xs.length ∧ rangeM step q'.1 (xs.drop q'.1) q'.2.1 = some f) ∧ Frm N ((ti, .int .i64 q'.1) :: (tn, .int .i64 m) :: l q'.2.1 q'.2.2) a ∧ Hs q'.2.1 q'.2.2 w) :: .blk b0 :: K)) a w)
      ?_
    · intro a w hf hw
      refine wpS_mono (hbody a w (hf.le (le1 _)) hw) ?_
      intro e a' w' hq
      cases e with
      | normal => exact hq
      | exit id =>
        by_cases e : id = b1
        · subst e
          simp only [QK, Exit.inBlock, if_true, Exit.then] at hq ⊢
          exact hq
        · simp only [QK, Exit.inBlock, if_neg e, Exit.then] at hq ⊢
          exact hq
      | goto l => exact hq
      | ret => exact hq
      | panic ch => exact hq
      | outgrown => exact hq
    · intro fr' H' s' c' hJ hsub hH'
      refine nj_inv fun a w hf hw => ?_
      have hf0 := hf.sub hsub
      have hw64 : w64 ((i : Int) + 1) = ((i + 1 : Nat) : Int) := by
        rw [w64_id]
        · rfl
        · unfold maxLen at hmx; omega
      have hstep : CJ P R (Code.region r2 #[⟨some td, .binOp .add T3 (.tmp ti) (.const (.int .i64 1)) T4, ty2, p2, a2, none⟩, ⟨some ti, .move (.tmp td), ty3, p3, a3, none⟩] false)
          (.inv (fun a w => ∃ (n' : Nat) (q' : Nat × σ × γ), n' < n ∧ (n' = xs.length - q'.1 ∧ q'.1 ≤ xs.length ∧ rangeM step q'.1 (xs.drop q'.1) q'.2.1 = some f) ∧ Frm N ((ti, .int .i64 q'.1) :: (tn, .int .i64 m) :: l q'.2.1 q'.2.2) a ∧ Hs q'.2.1 q'.2.2 w) :: .blk b0 :: K) N
          ((ti, .int .i64 (i : Int)) :: (tn, .int .i64 m) :: l s' c') (Hs s' c') := by
        refine cj_reg (lp hb2 (p_add (m := (i : Int)) (n := 1) ?_ rfl) (lp hb3 (p_mv (v := .int .i64 (w64 ((i : Int) + 1))) ?_) (lj_nil (nj_inv fun a w hf hw => ⟨xs.length - (i + 1), (i + 1, s', c'), by omega, ⟨rfl, hlt, hJ⟩, hf.le ?_, hw⟩))))
        · simp only [ev]; rw [look_cons, if_pos rfl]
        · simp only [ev]; rw [look_cons, if_pos rfl]
        · intro j u hj
          rw [look_cons] at hj ⊢
          by_cases e1 : ti = j
          · rw [if_pos e1] at hj ⊢; rw [hw64]; exact hj
          · rw [if_neg e1] at hj ⊢
            rw [look_cons] at hj
            by_cases e2 : tn = j
            · subst e2
              rw [if_pos rfl] at hj
              rw [look_cons, if_neg n3, look_cons, if_neg n4, look_cons, if_pos rfl]
              exact hj
            · rw [if_neg e2] at hj
              have e3 : td ≠ j := fun e => by subst e; rw [(hfr s' c').2.1] at hj; cases hj
              rw [look_cons, if_neg e3, look_cons, if_neg e1, look_cons, if_neg e2]
              exact hj
      exact hstep a w hf0 (hH' w hw)
  · have hge : ¬ i < xs.length := fun h => by have := (hm i).2 h; simp at hb; omega
    have hd : xs.drop i = [] := List.drop_eq_nil_of_le (by omega)
    rw [hd] at hrun
    simp only [rangeM, Option.some.injEq] at hrun
    refine cj_exit (K' := K) ?_ (fun a w hf hw => after s c hrun.symm a w (hf.le ?_) hw)
    · simp [target]
    · intro j u hj
      rw [look_cons, if_neg (fun e => by subst e; rw [(hfr s c).1] at hj; cases hj), look_cons, if_neg (fun e => by subst e; rw [(hfr s c).2.2.1] at hj; cases hj), look_cons, if_neg (fun e => by subst e; rw [(hfr s c).2.2.2] at hj; cases hj)]
      exact hj
theorem cj_range {α σ γ ρ : Type} {xs : List α} {step : Nat → α → σ → Option (Flow σ ρ)} {s0 : σ} {f : Flow σ ρ} {m : Int} {bodyc : Code} {b0 b1 r1 r2 tc ti tn td T1 T2 T3 T4 ty1 ty2 ty3 : Nat} {p1 p2 p3 : String} {a1 a2 a3 : Array Edge}
    (hs : rangeM step 0 xs s0 = some f) (g0 : γ) (l : σ → γ → Fr) (Hs : σ → γ → World → Prop) (hl : SubF ((ti, .int .i64 0) :: (tn, .int .i64 m) :: l s0 g0) fr) (hH : ∀ w, H w → Hs s0 g0 w) (hm : ∀ i : Nat, (i : Int) < m ↔ i < xs.length) (hmx : ∀ w, H w → xs.length ≤ maxLen)
    (hfr : ∀ s c, look (l s c) tc = none ∧ look (l s c) td = none ∧ look (l s c) ti = none ∧ look (l s c) tn = none) (hne : Nat.beq tc ti = false ∧ Nat.beq tc tn = false ∧ Nat.beq td tn = false ∧ Nat.beq ti tn = false ∧ Nat.beq td ti = false) (hb1 : Nat.blt tc N.n = true) (hb2 : Nat.blt td N.n = true) (hb3 : Nat.blt ti N.n = true)
    (after : ∀ s c, f = .brk s → NJ P R K N (l s c) (Hs s c))
    (body : (∀ s c, f = .brk s → NJ P R K N (l s c) (Hs s c)) → ∀ (i : Nat) (x : α) (s : σ) (c : γ) (g : Flow σ ρ), xs[i]? = some x → step i x s = some g → ∀ J : σ → Prop, (∀ s', g = .nxt s' → J s') → (∀ s', g = .brk s' → f = .brk s') → (∀ v, g = .ret v → f = .ret v) →
      ∀ I : Act → World → Prop, (∀ (fr' : Fr) (H' : World → Prop) (s' : σ) (c' : γ), J s' → SubF ((ti, .int .i64 i) :: (tn, .int .i64 m) :: l s' c') fr' → (∀ w, H' w → Hs s' c' w) → NJ P R (.inv I :: .blk b0 :: K) N fr' H') →
      CJ P R bodyc (.blk b1 :: .inv I :: .blk b0 :: K) N ((ti, .int .i64 i) :: (tn, .int .i64 m) :: l s c) (Hs s c)) :
    CJ P R (.block b0 (.loop (.seq (.region r1 #[⟨some tc, .binOp .lss T1 (.tmp ti) (.tmp tn) T2, ty1, p1, a1, none⟩] false) (.seq (.cond (.tmp tc) .skip (.exit b0)) (.seq (.block b1 bodyc)
      (.region r2 #[⟨some td, .binOp .add T3 (.tmp ti) (.const (.int .i64 1)) T4, ty2, p2, a2, none⟩, ⟨some ti, .move (.tmp td), ty3, p3, a3, none⟩] false)))))) K N fr H :=
  fun a w hf hw => cj_range0 hs g0 l Hs hl hH hm (hmx w hw) hfr hne hb1 hb2 hb3 after (body after) a w hf hw
end

/-! ### where ways meet -/
section
variable {P : Program} {R : Post} {K : List Lay} {N : NN} {fr l : Fr} {H : World → Prop} {ops : Array Oper} {rest : List Oper}
theorem QK_seq_inv {y : Code} {J : Act → World → Prop} (h : ∀ a w, J a w → Code.wpS P y (QK P R K) a w) : ∀ e a w, QK P R (.inv J :: K) e a w → QK P R (.seq y :: K) e a w := by
  intro e a w hq
  cases e with
  | normal => exact h a w hq
  | exit id => exact hq
  | goto l => exact hq
  | ret => exact hq
  | panic ch => exact hq
  | outgrown => exact hq
theorem Oper.wp_mono2 {o : Oper} {a : Act} {w : World} {K K' : Act → World → Prop} {Q Q' : Post} (hK : ∀ a w, K a w → K' a w) (hQ : ∀ e a w, Q e a w → Q' e a w) (hh : o.wp P a w K Q) : o.wp P a w K' Q' := by
  unfold Oper.wp at *
  generalize (execOp a.eval o).run P w = r at *
  cases r with
  | ok n w' =>
    cases n <;> simp only [Oper.upon] at hh ⊢ <;>
      first
        | exact hK _ _ hh
        | exact Calls.mono hh (fun e w'' he => by cases e <;> first | exact hK _ _ he | exact hQ _ _ _ he | (obtain ⟨a, w, h⟩ := he; exact ⟨a, w, hQ _ _ _ h⟩))
        | exact Rows.mono hh (fun _ _ he => hK _ _ he)
  | halt x w' => cases x <;> simp only [Oper.upon] at hh ⊢ <;> first | exact hQ _ _ _ hh | exact hh
theorem wpList_mono {Q Q' : Post} (hQ : ∀ e a w, Q e a w → Q' e a w) : ∀ {l : List Oper} {a : Act} {w : World}, wpList P ops Q l a w → wpList P ops Q' l a w
  | [], _, _, h => hQ _ _ _ h
  | o :: l, a, w, h => by
    unfold wpList at h ⊢
    split
    · rename_i hw
      rw [if_pos hw] at h
      rcases h with h | ⟨h1, a', w', h2⟩
      · exact .inl (Oper.wp_mono2 (fun _ _ h => wpList_mono hQ h) hQ h)
      · exact .inr ⟨h1, a', w', hQ _ _ _ h2⟩
    · rename_i hw
      rw [if_neg hw] at h
      exact wpList_mono hQ h
/-- the ways through the rest of a list of operations meet at its end -/
theorem lj_join {σ γ : Type} {y : Code} (p : σ → Prop) (l' : σ → γ → Fr) (H' : σ → γ → World → Prop) (hy : ∀ s c, p s → CJ P R y K N (l' s c) (H' s c))
    (hx : ∀ J : Act → World → Prop, (∀ (fr' : Fr) (Hc : World → Prop) s c, p s → SubF (l' s c) fr' → (∀ w, Hc w → H' s c w) → NJ P R (.inv J :: K) N fr' Hc) → LJ P R ops rest (.inv J :: K) N l H) : LJ P R ops rest (.seq y :: K) N l H := by
  intro a w hf hw
  have h := hx (fun a w => ∃ s c, p s ∧ Frm N (l' s c) a ∧ H' s c w) (fun fr' Hc s c hp hl hH => nj_inv fun a w hf hw => ⟨s, c, hp, hf.sub hl, hH w hw⟩) a w hf hw
  have hmono := QK_seq_inv (P := P) (R := R) (K := K) (y := y) (J := fun a w => ∃ s c, p s ∧ Frm N (l' s c) a ∧ H' s c w) (fun a w ⟨s, c, hp, hf, hw⟩ => hy s c hp a w hf hw)
  clear hx
  exact wpList_mono hmono h
theorem cj_join' {σ γ : Type} {x y : Code} (p : σ → Prop) (l' : σ → γ → Fr) (H' : σ → γ → World → Prop) (hy : ∀ s c, p s → CJ P R y K N (l' s c) (H' s c))
    (hx : ∀ J : Act → World → Prop, (∀ (fr' : Fr) (Hc : World → Prop) s c, p s → SubF (l' s c) fr' → (∀ w, Hc w → H' s c w) → NJ P R (.inv J :: K) N fr' Hc) → CJ P R x (.inv J :: K) N l H) : CJ P R (.seq x y) K N l H := by
  intro a w hf hw
  have h := hx (fun a w => ∃ s c, p s ∧ Frm N (l' s c) a ∧ H' s c w) (fun fr' Hc s c hp hl hH => nj_inv fun a w hf hw => ⟨s, c, hp, hf.sub hl, hH w hw⟩) a w hf hw
  exact wpS_seq (wpS_mono h (QK_seq_inv fun a w ⟨s, c, hp, hf, hw⟩ => hy s c hp a w hf hw))
theorem cj_joinK {σ γ : Type} {x y : Code} (p : σ → Prop) (l' : σ → γ → Fr) (H' : σ → γ → World → Prop) (hy : ∀ s c, p s → CJ P R y K N (l' s c) (H' s c))
    (hx : ∀ J : Act → World → Prop, (∀ (fr' : Fr) (Hc : World → Prop) s c, p s → SubF (l' s c) fr' → (∀ w, Hc w → H' s c w) → NJ P R (.inv J :: K) N fr' Hc) → CJ P R x (.inv J :: K) N l H) : CJ P R x (.seq y :: K) N l H := by
  intro a w hf hw
  have h := hx (fun a w => ∃ s c, p s ∧ Frm N (l' s c) a ∧ H' s c w) (fun fr' Hc s c hp hl hH => nj_inv fun a w hf hw => ⟨s, c, hp, hf.sub hl, hH w hw⟩) a w hf hw
  exact wpS_mono h (QK_seq_inv fun a w ⟨s, c, hp, hf, hw⟩ => hy s c hp a w hf hw)
/-- 'for cond { .. }', by its model -/
theorem cj_whileG {σ γ ρ : Type} {c : Code} {step : σ → Option (Flow σ ρ)} {s0 : σ} {f : Flow σ ρ} (hs : loopM step s0 = some f) (g0 : γ) (l : σ → γ → Fr) (Hs : σ → γ → World → Prop) (hl : SubF (l s0 g0) fr) (hH : ∀ w, H w → Hs s0 g0 w)
    (round : ∀ (s : σ) (q : γ) (g : Flow σ ρ), step s = some g → ∀ J : σ → Prop, (∀ s', g = .nxt s' → J s') → (∀ s', g = .brk s' → f = .brk s') → (∀ v, g = .ret v → f = .ret v) →
      ∀ I : Act → World → Prop, (∀ (fr' : Fr) (H' : World → Prop) s' q', J s' → SubF (l s' q') fr' → (∀ w, H' w → Hs s' q' w) → NJ P R (.inv I :: K) N fr' H') → CJ P R c (.inv I :: K) N (l s q) (Hs s q)) : CJ P R (.loop c) K N fr H := by
  obtain ⟨n0, hn0⟩ := runN_of_loopM hs
  refine cj_loop (σ := σ × γ) (fun s => l s.1 s.2) (fun s => Hs s.1 s.2) (fun n s => runN step n s.1 = some f) n0 (s0, g0) hn0 hl hH ?_
  rintro n ⟨s, q⟩ hn
  cases n with
  | zero => cases hn
  | succ n =>
    obtain ⟨g, hg, h2⟩ := bindS hn
    refine round s q g hg (fun s' => runN step n s' = some f) (fun s' e => by subst e; exact h2) (fun s' e => by subst e; cases h2; rfl) (fun v e => by subst e; cases h2; rfl) _ ?_
    intro fr' H' s' q' hJ hl' hH'
    exact nj_round (σ := σ × γ) (l := fun s => l s.1 s.2) (Hs := fun s => Hs s.1 s.2) n (s', q') (Nat.lt_succ_self n) hJ hl' hH'
theorem cj_whileA {σ γ ρ : Type} {c : Code} {b0 : Nat} {step : σ → Option (Flow σ ρ)} {s0 : σ} {f : Flow σ ρ} (hs : loopM step s0 = some f) (g0 : γ) (l : σ → γ → Fr) (Hs : σ → γ → World → Prop) (hl : SubF (l s0 g0) fr) (hH : ∀ w, H w → Hs s0 g0 w)
    (after : ∀ s q, f = .brk s → NJ P R K N (l s q) (Hs s q))
    (round : (∀ s q, f = .brk s → NJ P R K N (l s q) (Hs s q)) → ∀ (s : σ) (q : γ) (g : Flow σ ρ), step s = some g → ∀ J : σ → Prop, (∀ s', g = .nxt s' → J s') → (∀ s', g = .brk s' → f = .brk s') → (∀ v, g = .ret v → f = .ret v) →
      ∀ I : Act → World → Prop, (∀ (fr' : Fr) (H' : World → Prop) s' q', J s' → SubF (l s' q') fr' → (∀ w, H' w → Hs s' q' w) → NJ P R (.inv I :: .blk b0 :: K) N fr' H') → CJ P R c (.inv I :: .blk b0 :: K) N (l s q) (Hs s q)) : CJ P R (.block b0 (.loop c)) K N fr H :=
  cj_blk (cj_whileG hs g0 l Hs hl hH (round after))
end

/-! ### regions that draw their order and only read -/
def QJ (P : Program) (R : Post) (ops : Array Oper) (K : List Lay) (rest : List Oper) (N : NN) (l : Fr) (H : World → Prop) : Prop := ∀ a, Frm N l a → wpQuiet P ops H (fun a' => ∀ w', H w' → QK P R K .normal a' w') rest a
section
variable {P : Program} {R : Post} {K : List Lay} {N : NN} {l : Fr} {H : World → Prop} {ops : Array Oper} {rest opl : List Oper} {d ty j e id : Nat} {op : Op} {pos : String} {af : Array Edge} {v : Value}
variable {w0 : World} {M : List Nat} {A : Nat → Prop} {es : List Ent}
theorem wpS_region_quiet {ops : Array Oper} {C : World → Prop} {Q : Post} {a : Act} {w : World} (hm : P.follows .mixedOrders = true) (hB : Region.lexB .any ops = true) (hC : C { w with drawn := w.drawn + 1 })
    (h : wpQuiet P ops C (fun a' => ∀ w', C w' → Q .normal a' w') ops.toList a) : Code.wpS P (.region id ops true) Q a w := by
  simp only [Region.lexB, Bool.and_eq_true] at hB
  refine wpS_region_any hm (wpAny_of_quiet (Q := fun a' => ∀ w', C w' → Q .normal a' w') (fun _ w' hw' h => h w' hw') _ _ _ _ hC ?_)
  have := wpAnyQ_lex (C := C) (md := .any) hB.1 ops.toList 0 (Array.replicate ops.size false) a (by simp) (by simpa using hB.2) h
  simpa using this
theorem cj_quiet (hm : P.follows .mixedOrders = true) (hB : Region.lexB .any opl.toArray = true) (h : QJ P R opl.toArray K opl N l (Sat w0 M A es)) : CJ P R (.region id opl.toArray true) K N l (Sat w0 M A es) :=
  fun a _ hf hw => wpS_region_quiet hm hB hw.drew (by simpa using h a hf)
theorem q_nil (h : NJ P R K N l H) : QJ P R ops K [] N l H := fun a hf w' hw' => h a w' hf hw'
theorem q_p (hd : Nat.blt d N.n = true) (hp : PureOp P N ⟨some d, op, ty, pos, af, none⟩ l H v) (h : QJ P R ops K rest N ((d, v) :: l) H) : QJ P R ops K (⟨some d, op, ty, pos, af, none⟩ :: rest) N l H := by
  intro a hf
  refine wpQuiet_step fun K' hK => ?_
  rw [if_pos (by simp [Region.wanted])]
  refine ⟨v, fun w hw => ?_, hK _ (h _ (hf.put hd v))⟩
  unfold Oper.quietAt
  rw [hp a w hf hw]
  exact ⟨rfl, rfl⟩
theorem q_g (b : Bool) (hs : gslot opl j = some e) (hv : look l e = some (.bool b)) (he : Nat.blt e N.n = true)
    (h : QJ P R opl.toArray K (⟨some d, op, ty, pos, af, none⟩ :: rest) N l H) : QJ P R opl.toArray K (⟨some d, op, ty, pos, af, some (j, b)⟩ :: rest) N l H := by
  intro a hf
  have h1 := h a hf
  have h2 := wanted_eq (o := ⟨some d, op, ty, pos, af, some (j, b)⟩) rfl hs hf hv he
  unfold wpQuiet at h1 ⊢
  rw [if_pos (by rw [h2]; simp)]
  rw [if_pos (by simp [Region.wanted])] at h1
  exact h1
theorem q_s (b : Bool) (hs : gslot opl j = some e) (hv : look l e = some (.bool (!b))) (he : Nat.blt e N.n = true) (hd : Nat.blt d N.n = true)
    (h : QJ P R opl.toArray K rest N ((d, undef) :: l) H) : QJ P R opl.toArray K (⟨some d, op, ty, pos, af, some (j, b)⟩ :: rest) N l H := by
  intro a hf
  have h2 := wanted_eq (o := ⟨some d, op, ty, pos, af, some (j, b)⟩) rfl hs hf hv he
  refine wpQuiet_step fun K' hK => ?_
  rw [if_neg (by rw [h2]; cases b <;> simp)]
  exact hK _ (h _ (hf.put hd undef))
theorem q_su {b : Bool} (hs : gslot opl j = some e) (hv : look l e = some undef) (he : Nat.blt e N.n = true) (hd : Nat.blt d N.n = true)
    (h : QJ P R opl.toArray K rest N ((d, undef) :: l) H) : QJ P R opl.toArray K (⟨some d, op, ty, pos, af, some (j, b)⟩ :: rest) N l H := by
  intro a hf
  have h2 := wanted_undef (o := ⟨some d, op, ty, pos, af, some (j, b)⟩) rfl hs hf hv he
  refine wpQuiet_step fun K' hK => ?_
  rw [if_neg (by rw [h2]; simp)]
  exact hK _ (h _ (hf.put hd undef))
theorem q_case {i : Nat} (b : Bool) (hv : look l i = some (.bool b)) (ht : b = true → QJ P R ops K rest N ((i, .bool true) :: l) H) (hf : b = false → QJ P R ops K rest N ((i, .bool false) :: l) H) : QJ P R ops K rest N l H := by
  have key : ∀ b', b = b' → QJ P R ops K rest N ((i, .bool b') :: l) H → QJ P R ops K rest N l H := by
    intro b' e h a hfr
    subst e
    refine h a ⟨hfr.defers, hfr.size, fun k u hu => ?_⟩
    rw [look_cons] at hu
    by_cases e : i = k
    · subst e; rw [if_pos rfl] at hu; cases hu; exact hfr.vals i _ hv
    · rw [if_neg e] at hu; exact hfr.vals k u hu
  cases hb : b with
  | true => exact key true hb (ht hb)
  | false => exact key false hb (hf hb)
/-- a call that only reads and hands back one value -/
theorem q_call {f : FuncId} {c : Operand} {as : List Operand} {ats : Array TypeId} {cv avs : List Value} {fs : List (World → Prop)} {X : Type} {V : X → Value} {post : X → List Ent} (v : Value)
    (hcf : ∀ args w, (callFunc f args).run P w = .ok (.enter f args) w) (hc : ev l c = some (.func (.func f) #[] cv.toArray)) (ha : evA l as = some avs)
    (hctr : Ctr P f (avs ++ cv).toArray [] fs V post) (hfs : Facts es fs) (hpost : ∀ x, post x = []) (hV : ∀ x, V x = v) (hd : Nat.blt d N.n = true)
    (h : QJ P R ops K rest N ((d, v) :: l) (Sat w0 M A es)) :
    QJ P R ops K (⟨some d, .call { callee := .value c, args := as.toArray, argTypes := ats }, ty, pos, af, none⟩ :: rest) N l (Sat w0 M A es) := by
  intro a hf
  refine wpQuiet_step fun K' hK => ?_
  rw [if_pos (by simp [Region.wanted])]
  refine ⟨v, fun w hw => ?_, hK _ (h _ (hf.put hd v))⟩
  have h1 := hf.evA ha
  have : (execOp a.eval ⟨some d, .call { callee := .value c, args := as.toArray, argTypes := ats }, ty, pos, af, none⟩).run P w = .ok (.enter f (avs ++ cv).toArray) w := by
    simp [execOp, resolve, Deferred.ofValue, hf.ev hc, invoke, hcf, ← h1]
  unfold Oper.quietAt
  rw [this]
  refine ⟨rfl, (hctr.use hw (ks := []) (xs := []) (rest := es) rfl rfl hfs (fun x => by rw [hpost x]; rfl)).mono ?_⟩
  rintro e w' ⟨q, rfl, hq⟩
  rw [hpost q] at hq
  exact ⟨by rw [hV q], hq⟩
end
end Go.J
