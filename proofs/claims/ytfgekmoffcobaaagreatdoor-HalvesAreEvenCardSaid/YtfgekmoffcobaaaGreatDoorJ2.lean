/- J2: models as partial functions; judgements on code; rules of its structure. No program in sight. -/
import Derived.Test.YtfgekmoffcobaaaGreatDoorJ1
import Derived.Deep.LoopGhost
import Derived.Orders
namespace Go.J
open Go Go.RowKit

/-! ### The models' language -/
def ifB {α : Sort _} (b : Bool) (x y : α) : α := match b with | true => x | false => y
theorem ifB_t {α : Type _} {b : Bool} {x y r : α} (h : b = true) (e : ifB b x y = r) : x = r := by subst h; exact e
theorem ifB_f {α : Type _} {b : Bool} {x y r : α} (h : b = false) (e : ifB b x y = r) : y = r := by subst h; exact e
theorem ifB_eq {α : Type _} (b : Bool) (x y : α) : ifB b x y = if b = true then x else y := by cases b <;> rfl
theorem bindS {α β : Type _} {o : Option α} {k : α → Option β} {r : β} (h : o.bind k = some r) : ∃ x, o = some x ∧ k x = some r := by
  cases o with
  | none => cases h
  | some x => exact ⟨x, rfl, h⟩
/-- how one round of a loop ends -/
inductive Flow (σ ρ : Type) where
  | nxt (s : σ)
  | brk (s : σ)
  | ret (r : ρ)
def Flow.run {σ ρ β : Type} (f : Flow σ ρ) (n : σ → β) (b : σ → β) (r : ρ → β) : β := match f with | .nxt s => n s | .brk s => b s | .ret v => r v
/-- a loop over a list: 'step i x s' is one round -/
def rangeM {α σ ρ : Type} (step : Nat → α → σ → Option (Flow σ ρ)) : Nat → List α → σ → Option (Flow σ ρ)
  | _, [], s => some (.brk s)
  | i, x :: t, s => (step i x s).bind fun f => f.run (fun s' => rangeM step (i + 1) t s') (fun s' => some (.brk s')) (fun v => some (.ret v))
/-- a loop over the numbers below n, from i on -/
def countM {σ ρ : Type} (step : Nat → σ → Option (Flow σ ρ)) : (n : Nat) → (i : Nat) → σ → Option (Flow σ ρ)
  | 0, _, s => some (.brk s)
  | n + 1, i, s => (step i s).bind fun f => f.run (fun s' => countM step n (i + 1) s') (fun s' => some (.brk s')) (fun v => some (.ret v))
/-- a loop that ends by a test or a break: at most n rounds -/
def runN {σ ρ : Type} (step : σ → Option (Flow σ ρ)) : Nat → σ → Option (Flow σ ρ)
  | 0, _ => none
  | n + 1, s => (step s).bind fun f => f.run (fun s' => runN step n s') (fun s' => some (.brk s')) (fun v => some (.ret v))
theorem runN_mono {σ ρ : Type} {step : σ → Option (Flow σ ρ)} {n : Nat} {s : σ} {f : Flow σ ρ} (h : runN step n s = some f) : runN step (n + 1) s = some f := by
  induction n generalizing s with
  | zero => cases h
  | succ n ih =>
    obtain ⟨g, hg, h2⟩ := bindS h
    show (step s).bind _ = _
    rw [hg]
    cases g with
    | nxt s' => exact ih h2
    | brk s' => exact h2
    | ret v => exact h2
theorem runN_le {σ ρ : Type} {step : σ → Option (Flow σ ρ)} {n m : Nat} {s : σ} {f : Flow σ ρ} (hnm : n ≤ m) (h : runN step n s = some f) : runN step m s = some f := by
  induction hnm with
  | refl => exact h
  | step _ ih => exact runN_mono ih
open Classical in
/-- the loop, with as many rounds as it takes -/
noncomputable def loopM {σ ρ : Type} (step : σ → Option (Flow σ ρ)) (s : σ) : Option (Flow σ ρ) :=
  if h : ∃ n f, runN step n s = some f then runN step (Classical.choose h) s else none
theorem loopM_of_runN {σ ρ : Type} {step : σ → Option (Flow σ ρ)} {n : Nat} {s : σ} {f : Flow σ ρ} (h : runN step n s = some f) : loopM step s = some f := by
  have hex : ∃ n f, runN step n s = some f := ⟨n, f, h⟩
  unfold loopM
  rw [dif_pos hex]
  obtain ⟨f', hf'⟩ := Classical.choose_spec hex
  have h1 := runN_le (Nat.le_max_left n (Classical.choose hex)) h
  have h2 := runN_le (Nat.le_max_right n (Classical.choose hex)) hf'
  rw [h1] at h2
  cases h2
  exact hf'
theorem runN_of_loopM {σ ρ : Type} {step : σ → Option (Flow σ ρ)} {s : σ} {f : Flow σ ρ} (h : loopM step s = some f) : ∃ n, runN step n s = some f := by
  unfold loopM at h
  split at h
  · exact ⟨_, h⟩
  · cases h
theorem loopM_step {σ ρ : Type} {step : σ → Option (Flow σ ρ)} {s : σ} {g : Flow σ ρ} (hg : step s = some g) :
    loopM step s = g.run (fun s' => loopM step s') (fun s' => some (.brk s')) (fun v => some (.ret v)) := by
  cases g with
  | nxt s' =>
    simp only [Flow.run]
    by_cases hex : ∃ f, loopM step s' = some f
    · obtain ⟨f, hf⟩ := hex
      obtain ⟨n, hn⟩ := runN_of_loopM hf
      rw [hf]
      exact loopM_of_runN (n := n + 1) (by show (step s).bind _ = _; rw [hg]; exact hn)
    · have h2 : loopM step s' = none := by
        cases h3 : loopM step s' with
        | none => rfl
        | some f => exact (hex ⟨f, h3⟩).elim
      rw [h2]
      cases h3 : loopM step s with
      | none => rfl
      | some f =>
        obtain ⟨n, hn⟩ := runN_of_loopM h3
        cases n with
        | zero => cases hn
        | succ n =>
          have h4 : (step s).bind (fun f => f.run (fun s' => runN step n s') (fun s' => some (.brk s')) (fun v => some (.ret v))) = some f := hn
          rw [hg] at h4
          exact (hex ⟨f, loopM_of_runN h4⟩).elim
  | brk s' => exact loopM_of_runN (n := 1) (by show (step s).bind _ = _; rw [hg]; rfl)
  | ret v => exact loopM_of_runN (n := 1) (by show (step s).bind _ = _; rw [hg]; rfl)

abbrev Post := Exit → Act → World → Prop
/-! ### Code, by its structure: what holds of it holds in a function's frame and in a round's -/
def Code.wpS (P : Program) : Code → (Exit → Act → World → Prop) → Act → World → Prop
  | .seq x y, Q => Code.wpS P x (Exit.then (Code.wpS P y Q) Q)
  | .region _ ops d, Q => fun a w => (d = false → wpOps P ops Q (List.range ops.size) a w) ∧ (d = true → ∀ t, wpOps P ops Q (Region.schedule (P.follows .mixedOrders) ops t) a { w with drawn := w.drawn + 1 })
  | .cond c x y, Q => fun a w => ∃ t, a.eval c = .bool t ∧ (t = true → Code.wpS P x Q a w) ∧ (t = false → Code.wpS P y Q a w)
  | .block id c, Q => Code.wpS P c (Exit.inBlock id Q)
  | .loop c, Q => fun a w => ∃ (I : Nat → Act → World → Prop) (n₀ : Nat), I n₀ a w ∧ ∀ n a w, I n a w → Code.wpS P c (Exit.then (fun a' w' => ∃ n', n' < n ∧ I n' a' w') Q) a w
  | .exit id, Q => Q (.exit id)
  | .ret, Q => Q .ret
  | .skip, Q => Q .normal
  | c, Q => c.wp P Q
theorem Oper.wp_monoS {P : Program} {o : Oper} {a : Act} {w : World} {K K' : Act → World → Prop} {Q Q' : Post} (hK : ∀ a w, K a w → K' a w) (hQ : ∀ e a w, Q e a w → Q' e a w) (hh : o.wp P a w K Q) : o.wp P a w K' Q' := by
  unfold Oper.wp at *
  generalize (execOp a.eval o).run P w = r at *
  cases r with
  | ok n w' =>
    cases n <;> simp only [Oper.upon] at hh ⊢ <;>
      first
        | exact hK _ _ hh
        | exact Calls.mono hh (fun e w'' he => by cases e <;> first | exact hK _ _ he | exact hQ _ _ _ he | (obtain ⟨a, w, h⟩ := he; exact ⟨a, w, hQ _ _ _ h⟩))
        | exact Rows.mono hh (fun _ _ he => hK _ _ he)
  | halt x w' => cases x <;> simp only [Oper.upon] at hh ⊢ <;> first | exact hQ _ _ _ hh | exact hh
theorem wpOps_monoS {P : Program} {ops : Array Oper} {Q Q' : Post} (hQ : ∀ e a w, Q e a w → Q' e a w) : ∀ (l : List Nat) (a : Act) (w : World), wpOps P ops Q l a w → wpOps P ops Q' l a w
  | [], _, _, h => hQ _ _ _ h
  | i :: l, a, w, h => by
    unfold wpOps at h ⊢
    split at h
    · exact wpOps_monoS hQ l _ _ h
    · split at h
      · rename_i hw
        rw [if_pos hw]
        rcases h with h | ⟨h1, a', w', h2⟩
        · exact .inl (Oper.wp_monoS (fun _ _ h => wpOps_monoS hQ l _ _ h) hQ h)
        · exact .inr ⟨h1, a', w', hQ _ _ _ h2⟩
      · rename_i hw
        rw [if_neg hw]
        exact wpOps_monoS hQ l _ _ h
theorem then_mono {K K' : Act → World → Prop} {Q Q' : Post} (hK : ∀ a w, K a w → K' a w) (hQ : ∀ e a w, Q e a w → Q' e a w) : ∀ e a w, Exit.then K Q e a w → Exit.then K' Q' e a w := by
  intro e a w h
  cases e <;> first | exact hK _ _ h | exact hQ _ _ _ h
theorem inBlock_mono {id : Nat} {Q Q' : Post} (hQ : ∀ e a w, Q e a w → Q' e a w) : ∀ e a w, Exit.inBlock id Q e a w → Exit.inBlock id Q' e a w := by
  intro e a w h
  cases e with
  | exit i =>
    simp only [Exit.inBlock] at h ⊢
    split
    · rw [if_pos ‹_›] at h; exact hQ _ _ _ h
    · rw [if_neg ‹_›] at h; exact hQ _ _ _ h
  | normal => exact hQ _ _ _ h
  | goto l => exact hQ _ _ _ h
  | ret => exact hQ _ _ _ h
  | panic c => exact hQ _ _ _ h
  | outgrown => exact hQ _ _ _ h
theorem wpS_mono {P : Program} {c : Code} {Q Q' : Post} {a : Act} {w : World} (h : Code.wpS P c Q a w) (hQ : ∀ e a w, Q e a w → Q' e a w) : Code.wpS P c Q' a w := by
  induction c generalizing Q Q' a w with
  | seq x y hx hy => exact hx h (then_mono (fun _ _ h => hy h hQ) hQ)
  | region id ops d => exact ⟨fun hd => wpOps_monoS hQ _ _ _ (h.1 hd), fun hd t => wpOps_monoS hQ _ _ _ (h.2 hd t)⟩
  | cond c x y hx hy => obtain ⟨t, h0, h1, h2⟩ := h; exact ⟨t, h0, fun e => hx (h1 e) hQ, fun e => hy (h2 e) hQ⟩
  | block id c hc => exact hc (Q := Exit.inBlock id Q) h (inBlock_mono hQ)
  | loop c hc => obtain ⟨I, n0, h0, h1⟩ := h; exact ⟨I, n0, h0, fun n a w hI => hc (h1 n a w hI) (then_mono (fun _ _ h => h) hQ)⟩
  | exit id => exact hQ _ _ _ h
  | ret => exact hQ _ _ _ h
  | skip => exact hQ _ _ _ h
  | goto l => exact wp_mono h hQ
  | label l => exact wp_mono h hQ
  | scope c _ => exact wp_mono h hQ
  | rangeFunc f p x y _ _ => exact wp_mono h hQ
  | refuse s => exact wp_mono h hQ
theorem wpS_wp {P : Program} {c : Code} {Q : Post} {a : Act} {w : World} (h : Code.wpS P c Q a w) : c.wp P Q a w := by
  induction c generalizing Q a w with
  | seq x y hx hy =>
    refine wp_seq (wp_mono (hx h) ?_)
    intro e a w h
    cases e <;> first | exact hy h | exact h
  | region id ops d =>
    cases d with
    | false => exact wp_region (h.1 rfl)
    | true => exact wp_region_draw (h.2 rfl)
  | cond c x y hx hy => obtain ⟨t, h0, h1, h2⟩ := h; exact wp_cond_split h0 (fun e => hx (h1 e)) (fun e => hy (h2 e))
  | block id c hc => exact wp_block (hc (Q := Exit.inBlock id Q) h)
  | loop c hc => obtain ⟨I, n0, h0, h1⟩ := h; exact wp_loop_ghost I n0 h0 fun n a w hI => hc (h1 n a w hI)
  | exit id => exact wp_exit h
  | ret => exact wp_ret h
  | skip => exact wp_skip h
  | goto l => exact h
  | label l => exact h
  | scope c _ => exact h
  | rangeFunc f p x y _ _ => exact h
  | refuse s => exact h
section
variable {P : Program} {Q : Post} {a : Act} {w : World}
theorem wpS_seq {x y : Code} (h : Code.wpS P x (Exit.then (Code.wpS P y Q) Q) a w) : Code.wpS P (.seq x y) Q a w := h
theorem wpS_region_lit {id : Nat} {l : List Oper} (h : wpList P l.toArray Q l a w) : Code.wpS P (.region id l.toArray false) Q a w := by
  refine ⟨fun _ => ?_, fun h => by cases h⟩
  have := wpOps_eq_wpList (P := P) (Q := Q) (ops := l.toArray) l 0 (by intro j; simp)
  rw [List.range_eq_range', List.size_toArray, this]
  exact h
theorem wpS_region_any {id : Nat} {ops : Array Oper} (hm : P.follows .mixedOrders = true) (h : wpAny P .any ops Q ops.size (Array.replicate ops.size false) a { w with drawn := w.drawn + 1 }) : Code.wpS P (.region id ops true) Q a w :=
  ⟨fun h => by (cases h), fun _ t => by
    simp only [Region.schedule, hm, Bool.true_or, if_true]
    exact wpAny_sound ops.size t _ a _ h⟩
theorem wpS_skip (h : Q .normal a w) : Code.wpS P .skip Q a w := h
theorem wpS_exit {id : Nat} (h : Q (.exit id) a w) : Code.wpS P (.exit id) Q a w := h
theorem wpS_ret (h : Q .ret a w) : Code.wpS P .ret Q a w := h
theorem wpS_block {id : Nat} {c : Code} (h : Code.wpS P c (Exit.inBlock id Q) a w) : Code.wpS P (.block id c) Q a w := h
theorem wpS_cond_split {c : Operand} {x y : Code} {t : Bool} (hc : a.eval c = .bool t) (h1 : t = true → Code.wpS P x Q a w) (h2 : t = false → Code.wpS P y Q a w) : Code.wpS P (.cond c x y) Q a w := ⟨t, hc, h1, h2⟩
theorem wpS_cond_true {c : Operand} {x y : Code} (hc : a.eval c = .bool true) (h1 : Code.wpS P x Q a w) : Code.wpS P (.cond c x y) Q a w := ⟨true, hc, fun _ => h1, fun h => by cases h⟩
theorem wpS_cond_false {c : Operand} {x y : Code} (hc : a.eval c = .bool false) (h1 : Code.wpS P y Q a w) : Code.wpS P (.cond c x y) Q a w := ⟨false, hc, fun h => by (cases h), fun _ => h1⟩
theorem wpS_loop_ghost {c : Code} (I : Nat → Act → World → Prop) (n₀ : Nat) (h₀ : I n₀ a w) (round : ∀ n a w, I n a w → Code.wpS P c (Exit.then (fun a' w' => ∃ n', n' < n ∧ I n' a' w') Q) a w) : Code.wpS P (.loop c) Q a w := ⟨I, n₀, h₀, round⟩
end
/-! ### Judgements -/
inductive Lay where
  | seq (y : Code)
  | blk (id : Nat)
  | inv (I : Act → World → Prop)
def QK (P : Program) (R : Post) : List Lay → Post
  | [] => R
  | .seq y :: K => Exit.then (Code.wpS P y (QK P R K)) (QK P R K)
  | .blk id :: K => Exit.inBlock id (QK P R K)
  | .inv I :: K => Exit.then I (QK P R K)
def CJ (P : Program) (R : Post) (c : Code) (K : List Lay) (N : NN) (l : Fr) (H : World → Prop) : Prop := ∀ a w, Frm N l a → H w → Code.wpS P c (QK P R K) a w
def LJ (P : Program) (R : Post) (ops : Array Oper) (rest : List Oper) (K : List Lay) (N : NN) (l : Fr) (H : World → Prop) : Prop := ∀ a w, Frm N l a → H w → wpList P ops (QK P R K) rest a w
def NJ (P : Program) (R : Post) (K : List Lay) (N : NN) (l : Fr) (H : World → Prop) : Prop := ∀ a w, Frm N l a → H w → QK P R K .normal a w
section
variable {P : Program} {R : Post} {K : List Lay} {N : NN} {l : Fr} {H : World → Prop}
theorem cj_seq {x y : Code} (h : CJ P R x (.seq y :: K) N l H) : CJ P R (.seq x y) K N l H := fun a w hf hw => wpS_seq (h a w hf hw)
theorem cj_reg {id : Nat} {ops : List Oper} (h : LJ P R ops.toArray ops K N l H) : CJ P R (.region id ops.toArray false) K N l H := fun a w hf hw => wpS_region_lit (h a w hf hw)
theorem cj_rseq {id : Nat} {ops : List Oper} {y : Code} (h : LJ P R ops.toArray ops (.seq y :: K) N l H) : CJ P R (.seq (.region id ops.toArray false) y) K N l H := cj_seq (cj_reg h)
theorem lj_nil {ops : Array Oper} (h : NJ P R K N l H) : LJ P R ops [] K N l H := fun a w hf hw => wpList_nil (h a w hf hw)
theorem nj_seq {y : Code} (h : CJ P R y K N l H) : NJ P R (.seq y :: K) N l H := h
theorem lj_seq {ops : Array Oper} {y : Code} (h : CJ P R y K N l H) : LJ P R ops [] (.seq y :: K) N l H := lj_nil (nj_seq h)
theorem nj_blk {id : Nat} (h : NJ P R K N l H) : NJ P R (.blk id :: K) N l H := h
theorem nj_inv {I : Act → World → Prop} (h : ∀ a w, Frm N l a → H w → I a w) : NJ P R (.inv I :: K) N l H := h
theorem nj_end (h : ∀ a w, Frm N l a → H w → R .normal a w) : NJ P R [] N l H := h
theorem cj_skip (h : NJ P R K N l H) : CJ P R .skip K N l H := fun a w hf hw => wpS_skip (h a w hf hw)
theorem cj_blk {id : Nat} {c : Code} (h : CJ P R c (.blk id :: K) N l H) : CJ P R (.block id c) K N l H := fun a w hf hw => wpS_block (h a w hf hw)
def target (i : Nat) : List Lay → Option (List Lay)
  | [] => none
  | .seq _ :: K => target i K
  | .inv _ :: K => target i K
  | .blk j :: K => bif Nat.beq i j then some K else target i K
theorem QK_exit (P : Program) (R : Post) {i : Nat} : ∀ {K K' : List Lay} {a : Act} {w : World}, target i K = some K' → QK P R K' .normal a w → QK P R K (.exit i) a w
  | [], _, _, _, ht, _ => by cases ht
  | .seq y :: K, K', a, w, ht, h => by
    have := QK_exit P R (K := K) (a := a) (w := w) ht h
    exact this
  | .inv I :: K, K', a, w, ht, h => by
    have := QK_exit P R (K := K) (a := a) (w := w) ht h
    exact this
  | .blk j :: K, K', a, w, ht, h => by
    show Exit.inBlock j (QK P R K) (.exit i) a w
    simp only [target, cond_eq_ite, Nat.beq_eq] at ht
    by_cases e : i = j
    · subst e
      rw [if_pos rfl] at ht
      cases ht
      simp only [Exit.inBlock, if_true]
      exact h
    · rw [if_neg e] at ht
      simp only [Exit.inBlock, if_neg e]
      exact QK_exit P R ht h
theorem QK_ret (P : Program) (R : Post) : ∀ {K : List Lay} {a : Act} {w : World}, R .ret a w → QK P R K .ret a w
  | [], _, _, h => h
  | .seq y :: K, a, w, h => by have := QK_ret P R (K := K) h; exact this
  | .inv I :: K, a, w, h => by have := QK_ret P R (K := K) h; exact this
  | .blk j :: K, a, w, h => by have := QK_ret P R (K := K) h; exact this
theorem cj_exit {i : Nat} {K' : List Lay} (ht : target i K = some K') (h : NJ P R K' N l H) : CJ P R (.exit i) K N l H := fun a w hf hw => wpS_exit (QK_exit P R ht (h a w hf hw))
theorem cj_ret (h : ∀ a w, Frm N l a → H w → R .ret a w) : CJ P R .ret K N l H := fun a w hf hw => wpS_ret (QK_ret P R (h a w hf hw))
theorem cj_if {c : Operand} {x y : Code} {b : Bool} (hc : ev l c = some (.bool b)) (ht : b = true → CJ P R x K N l H) (hf : b = false → CJ P R y K N l H) : CJ P R (.cond c x y) K N l H :=
  fun a w h hw => wpS_cond_split (h.ev hc) (fun e => ht e a w h hw) (fun e => hf e a w h hw)
theorem cj_if_t {c : Operand} {x y : Code} (hc : ev l c = some (.bool true)) (ht : CJ P R x K N l H) : CJ P R (.cond c x y) K N l H :=
  fun a w h hw => wpS_cond_true (h.ev hc) (ht a w h hw)
theorem cj_if_f {c : Operand} {x y : Code} (hc : ev l c = some (.bool false)) (ht : CJ P R y K N l H) : CJ P R (.cond c x y) K N l H :=
  fun a w h hw => wpS_cond_false (h.ev hc) (ht a w h hw)
/-- weakening: fewer slots, less of the world -/
theorem CJ.sub {c : Code} {l' : Fr} {H' : World → Prop} (h : CJ P R c K N l' H') (hl : SubF l' l) (hH : ∀ w, H w → H' w) : CJ P R c K N l H := fun a w hf hw => h a w (hf.sub hl) (hH w hw)
theorem NJ.sub {l' : Fr} {H' : World → Prop} (h : NJ P R K N l' H') (hl : SubF l' l) (hH : ∀ w, H w → H' w) : NJ P R K N l H := fun a w hf hw => h a w (hf.sub hl) (hH w hw)
theorem LJ.sub {ops : Array Oper} {rest : List Oper} {l' : Fr} {H' : World → Prop} (h : LJ P R ops rest K N l' H') (hl : SubF l' l) (hH : ∀ w, H w → H' w) : LJ P R ops rest K N l H := fun a w hf hw => h a w (hf.sub hl) (hH w hw)
/-- what follows is shown once, for every state that the ways through x lead to -/
theorem cj_join {σ : Type} {x y : Code} (l' : σ → Fr) (H' : σ → World → Prop) (p : σ → Prop) (hy : ∀ s, p s → CJ P R y K N (l' s) (H' s))
    (hx : (∀ s, p s → NJ P R (.seq y :: K) N (l' s) (H' s)) → CJ P R x (.seq y :: K) N l H) : CJ P R (.seq x y) K N l H := cj_seq (hx fun s hs => hy s hs)
/-- how a function is entered -/
theorem calls_cj {n : Nat} {f : FuncId} {fn : Func} {c : Code} {args : List Value} {w : World} {post : Ending → World → Prop} {vs : Fr} (hf : P.funcs[f]? = some fn) (hb : fn.body = some c) (hn : fn.ntmps = n)
    (hlen : Nat.ble args.length n = true) (hvs : ∀ i v, look vs i = some v → args[i]? = some v)
    (h : CJ P (bodyPost P fn post) c [] ⟨n, []⟩ vs (fun w' => w' = w)) : Calls P f args.toArray w post := by
  refine calls_of_wp hf hb (wpS_wp (h _ _ ?_ rfl))
  have hle : args.length ≤ n := by simpa [Nat.ble_eq] using hlen
  refine ⟨rfl, by simp [hn]; omega, fun i v hv => ?_⟩
  have h1 := hvs i v hv
  have h2 : i < args.length := (List.getElem?_eq_some_iff.1 h1).1
  rw [Array.getD_eq_getD_getElem?, Array.getElem?_append_left (by simpa using h2)]
  simp [h1]
end

/-! ### Loops -/
section
variable {P : Program} {R : Post} {K : List Lay} {N : NN} {fr : Fr} {H : World → Prop}
/-- The general loop: states s with a number that goes down. -/
theorem cj_loop {σ : Type} {c : Code} (l : σ → Fr) (Hs : σ → World → Prop) (p : Nat → σ → Prop) (n0 : Nat) (s0 : σ) (hp : p n0 s0) (hl : SubF (l s0) fr) (hH : ∀ w, H w → Hs s0 w)
    (round : ∀ n s, p n s → CJ P R c (.inv (fun a w => ∃ n' s', n' < n ∧ p n' s' ∧ Frm N (l s') a ∧ Hs s' w) :: K) N (l s) (Hs s)) : CJ P R (.loop c) K N fr H := by
  intro a w hf hw
  refine wpS_loop_ghost (fun n a w => ∃ s, p n s ∧ Frm N (l s) a ∧ Hs s w) n0 ⟨s0, hp, hf.sub hl, hH w hw⟩ ?_
  rintro n a w ⟨s, hps, hfs, hws⟩
  refine wpS_mono (round n s hps a w hfs hws) ?_
  intro e a' w' hq
  cases e with
  | normal =>
    obtain ⟨n', s', hlt, h1, h2, h3⟩ := hq
    exact ⟨n', hlt, s', h1, h2, h3⟩
  | exit id => exact hq
  | goto l => exact hq
  | ret => exact hq
  | panic ch => exact hq
  | outgrown => exact hq
/-- the end of a round -/
theorem nj_round {σ : Type} {l : σ → Fr} {Hs : σ → World → Prop} {p : Nat → σ → Prop} {n : Nat} {fr : Fr} {H : World → Prop} (n' : Nat) (s' : σ) (hlt : n' < n) (hp : p n' s') (hl : SubF (l s') fr) (hH : ∀ w, H w → Hs s' w) :
    NJ P R (.inv (fun a w => ∃ n' s', n' < n ∧ p n' s' ∧ Frm N (l s') a ∧ Hs s' w) :: K) N fr H :=
  fun _ w hf hw => ⟨n', s', hlt, hp, hf.sub hl, hH w hw⟩
/-- 'for cond { .. }', by its model -/
theorem cj_while {σ ρ : Type} {c : Code} {step : σ → Option (Flow σ ρ)} {s0 : σ} {f : Flow σ ρ} (hs : loopM step s0 = some f) (l : σ → Fr) (Hs : σ → World → Prop) (hl : SubF (l s0) fr) (hH : ∀ w, H w → Hs s0 w)
    (round : ∀ (J : σ → Prop) (I : Act → World → Prop) (s : σ) (g : Flow σ ρ), step s = some g → (∀ s', g = .nxt s' → J s') → (∀ s', g = .brk s' → f = .brk s') → (∀ v, g = .ret v → f = .ret v) →
      (∀ (fr' : Fr) (H' : World → Prop) s', J s' → SubF (l s') fr' → (∀ w, H' w → Hs s' w) → NJ P R (.inv I :: K) N fr' H') → CJ P R c (.inv I :: K) N (l s) (Hs s)) : CJ P R (.loop c) K N fr H := by
  obtain ⟨n0, hn0⟩ := runN_of_loopM hs
  refine cj_loop l Hs (fun n s => runN step n s = some f) n0 s0 hn0 hl hH ?_
  intro n s hn
  cases n with
  | zero => cases hn
  | succ n =>
    obtain ⟨g, hg, h2⟩ := bindS hn
    refine round (fun s' => runN step n s' = some f) _ s g hg (fun s' e => by subst e; exact h2) (fun s' e => by subst e; cases h2; rfl) (fun v e => by subst e; cases h2; rfl) ?_
    intro fr' H' s' hJ hl' hH'
    exact nj_round n s' (Nat.lt_succ_self n) hJ hl' hH'
end
end Go.J
