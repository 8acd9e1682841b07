/- J1: a small program logic over the model: frames as lists of slots, memory as a list of blocks that are owned or only read. No program in sight. -/
import Derived.WalkKit
import Derived.WalkSpells
import Derived.WalkLawsBesides
import Derived.Deep.Quiet
namespace Go.J
open Go Go.RowKit

/-- int64's wrap, behind a name of its own. -/
def w64 (n : Int) : Int := IntKind.i64.wrap n
theorem w64_id {n : Int} (h : -9223372036854775808 ≤ n ∧ n ≤ 9223372036854775807) : w64 n = n := IntWalk.i64_in n h
theorem w64_rng (n : Int) : -9223372036854775808 ≤ w64 n ∧ w64 n ≤ 9223372036854775807 := by unfold w64; rw [IntKind.wrap_i64]; omega

/-! ### Frames -/
abbrev Fr := List (Nat × Value)
def look : Fr → Nat → Option Value
  | [], _ => none
  | (i, v) :: l, j => bif Nat.beq i j then some v else look l j
def ev (l : Fr) : Operand → Option Value
  | .tmp t => look l t
  | .const v => some v
  | .global g => some (.pointer (some ⟨g, 0, none⟩))
  | .func f => some (.func (.func f) #[] #[])
/-- how many slots a frame has; its deferred calls -/
structure NN where
  n : Nat
  ds : List Deferred
structure Frm (N : NN) (l : Fr) (a : Act) : Prop where
  defers : a.defers = N.ds
  size : a.tmps.size = N.n
  vals : ∀ i v, look l i = some v → a.tmps.getD i undef = v
theorem look_cons (i : Nat) (v : Value) (l : Fr) (j : Nat) : look ((i, v) :: l) j = if i = j then some v else look l j := by
  simp only [look, cond_eq_ite, Nat.beq_eq]
theorem Frm.ev {N : NN} {l : Fr} {a : Act} (h : Frm N l a) {x : Operand} {v : Value} (hx : J.ev l x = some v) : a.eval x = v := by
  cases x with
  | tmp t => exact h.vals t v hx
  | const v => simpa [J.ev, Act.eval] using hx
  | global g => simpa [J.ev, Act.eval] using hx
  | func f => simpa [J.ev, Act.eval] using hx
theorem Frm.put {N : NN} {l : Fr} {a : Act} (h : Frm N l a) {d : Nat} (hd : Nat.blt d N.n = true) (v : Value) : Frm N ((d, v) :: l) (a.put (some d) v) := by
  have hd' : d < N.n := Nat.lt_of_succ_le (by simpa [Nat.blt] using hd)
  refine ⟨h.defers, by simp [Act.put, h.size], fun i u hu => ?_⟩
  rw [look_cons] at hu
  by_cases e : d = i
  · subst e
    simp only [if_true, Option.some.injEq] at hu
    subst hu
    simp [Act.put, h.size, hd']
  · rw [if_neg e] at hu
    have := h.vals i u hu
    simp only [Act.put]
    rw [← this]
    simp [e]
theorem Frm.put_none {N : NN} {l : Fr} {a : Act} (h : Frm N l a) (v : Value) : Frm N l (a.put none v) := h
/-- the new list's slots are among the old one's -/
def SubF : Fr → Fr → Prop
  | [], _ => True
  | (i, v) :: r, l => look l i = some v ∧ SubF r l
theorem SubF.look {l' l : Fr} (h : SubF l' l) : ∀ i v, J.look l' i = some v → J.look l i = some v := by
  induction l' with
  | nil => intro i v hv; cases hv
  | cons p r ih =>
    obtain ⟨j, u⟩ := p
    intro i v hv
    rw [look_cons] at hv
    by_cases e : j = i
    · subst e; rw [if_pos rfl] at hv; cases hv; exact h.1
    · rw [if_neg e] at hv; exact ih h.2 i v hv
theorem Frm.sub {N : NN} {l l' : Fr} {a : Act} (h : Frm N l a) (hs : SubF l' l) : Frm N l' a :=
  ⟨h.defers, h.size, fun i v hv => h.vals i v (hs.look i v hv)⟩

/-! ### Data in memory -/
/-- how data of a Lean type lie in memory: the element's type number, how many cells and bytes it takes, its cells. -/
structure Rep (α : Type) where
  T : TypeId
  sz : Nat
  by_ : Nat
  enc : α → List Value
  len : ∀ x, (enc x).length = sz
  one : ∀ x, ∀ u ∈ enc x, u.oneCell' = true
  pos : 0 < sz
def Rep.cells {α : Type} (R : Rep α) (xs : List α) : List Value := xs.flatMap R.enc
theorem Rep.cells_len {α : Type} (R : Rep α) (xs : List α) : (R.cells xs).length = xs.length * R.sz := by
  induction xs with
  | nil => simp [Rep.cells]
  | cons x xs ih => simp only [Rep.cells, List.flatMap_cons, List.length_append, List.length_cons] at ih ⊢; rw [ih, R.len, Nat.add_mul]; omega
theorem Rep.cells_append {α : Type} (R : Rep α) (xs ys : List α) : R.cells (xs ++ ys) = R.cells xs ++ R.cells ys := by simp [Rep.cells]
theorem Rep.cells_one {α : Type} (R : Rep α) (xs : List α) : ∀ u ∈ R.cells xs, u.oneCell' = true := by
  intro u hu
  simp only [Rep.cells, List.mem_flatMap] at hu
  obtain ⟨x, _, hx⟩ := hu
  exact R.one x u hx
/-- cell j of element i -/
theorem Rep.cells_get {α : Type} (R : Rep α) (xs : List α) (i j : Nat) (x : α) (hi : xs[i]? = some x) (hj : j < R.sz) : (R.cells xs)[i * R.sz + j]? = (R.enc x)[j]? := by
  induction xs generalizing i with
  | nil => simp at hi
  | cons y ys ih =>
    cases i with
    | zero =>
      simp only [List.getElem?_cons_zero, Option.some.injEq] at hi
      subst hi
      simp only [Rep.cells, List.flatMap_cons, Nat.zero_mul, Nat.zero_add]
      rw [List.getElem?_append_left (by rw [R.len]; exact hj)]
    | succ i =>
      simp only [List.getElem?_cons_succ] at hi
      have := ih i hi
      simp only [Rep.cells, List.flatMap_cons] at this ⊢
      rw [List.getElem?_append_right (by rw [R.len, Nat.add_mul]; omega), R.len]
      rw [← this]
      congr 1
      rw [Nat.add_mul]; omega

/-- the slice value v reads as xs -/
def RdS {α : Type} (R : Rep α) (v : Value) (xs : List α) (w : World) : Prop :=
  xs.length ≤ maxLen ∧ ((xs = [] ∧ ∃ x cap, v = .slice x 0 cap ∧ cap ≤ maxLen) ∨
    ∃ b off cap, v = .slice (some ⟨b, off, none⟩) xs.length cap ∧ xs.length ≤ cap ∧ cap ≤ maxLen ∧ ∀ j u, (R.cells xs)[j]? = some u → w.cell? ⟨b, off + j, none⟩ = some u)

/-- something of ours that lies in several blocks, or in a block that holds no cells: what is said of it hangs on these blocks alone -/
structure OW where
  ks : List Nat
  ok : World → Prop
  stay : ∀ {w w' : World}, (∀ k, k ∈ ks → w'.heap[k]? = w.heap[k]?) → ok w → ok w'
  lt : ∀ {w : World}, ok w → ∀ k, k ∈ ks → k < w.heap.size
inductive Ent : Type 1
  | box (b : Nat) (T : TypeId) (cs : List Value)
  | row {α : Type} (R : Rep α) (v : Value) (xs : List α)
  | ro (F : World → Prop)
  | obj (o : OW)
def Ent.key : Ent → Option Nat
  | .box b _ _ => some b
  | .row _ v _ => v.ownBlock
  | .ro _ => none
  | .obj _ => none
/-- the blocks of an entry -/
def Ent.kl : Ent → List Nat
  | .obj o => o.ks
  | .box b _ _ => [b]
  | .row _ v _ => v.ownBlock.toList
  | .ro _ => []
def Ent.okx (w : World) : Ent → Prop
  | .box b T cs => w.heap[b]? = some (.cells cs.toArray T (0, 0))
  | .row R v xs => w.ownsRow 0 R.T R.sz v xs.length (R.cells xs)
  | .ro _ => True
  | .obj o => o.ok w
def keys (es : List Ent) : List Nat := es.flatMap Ent.kl
/-- Behind a change: what was there and is not in K lies as it lay (of the blocks that A names, and of those from n on). -/
def Same (A : Nat → Prop) (n : Nat) (K : List Nat) (w w' : World) : Prop :=
  w.heap.size ≤ w'.heap.size ∧ ∀ b, b < w.heap.size → (A b ∨ n ≤ b) → b ∉ K → w'.heap[b]? = w.heap[b]?
def Ent.okr (A : Nat → Prop) (n : Nat) (K : List Nat) (w : World) : Ent → Prop
  | .ro F => ∀ w', Same A n K w w' → F w'
  | _ => True
structure Chg (M : List Nat) (w w' : World) : Prop where
  os : w'.os = w.os
  tape : w'.tape = w.tape
  output : w'.output = w.output
  size : w.heap.size ≤ w'.heap.size
  block : ∀ b, b < w.heap.size → b ∉ M → w'.heap[b]? = w.heap[b]?
/-- The world that a function's own walk is in: begun at w0, of which it may turn the blocks in M alone and reads those in A. -/
structure Sat (w0 : World) (M : List Nat) (A : Nat → Prop) (es : List Ent) (w : World) : Prop where
  chg : Chg M w0 w
  dis : ∀ b, A b → b < w0.heap.size ∧ b ∉ M
  nodup : (keys es).Nodup
  fresh : ∀ k, k ∈ keys es → k < w.heap.size ∧ (w0.heap.size ≤ k ∨ k ∈ M)
  okx : ∀ e, e ∈ es → e.okx w
  okr : ∀ e, e ∈ es → e.okr (fun b => A b ∨ b ∈ M) w0.heap.size (keys es) w
theorem Chg.refl (M : List Nat) (w : World) : Chg M w w := ⟨rfl, rfl, rfl, Nat.le_refl _, fun _ _ _ => rfl⟩
theorem Chg.below {w w' : World} (h : Chg [] w w') : Below w.heap.size w w' := ⟨h.os, h.tape, h.output, h.size, fun k hk => h.block k hk (by simp)⟩
theorem Same.refl (A : Nat → Prop) (n : Nat) (K : List Nat) (w : World) : Same A n K w w := ⟨Nat.le_refl _, fun _ _ _ _ => rfl⟩
theorem Same.trans {A : Nat → Prop} {n : Nat} {K K' : List Nat} {a b c : World} (h : Same A n K a b) (h' : Same A n K' b c) (hK : ∀ k, k < a.heap.size → k ∈ K' → k ∈ K) : Same A n K a c :=
  ⟨Nat.le_trans h.1 h'.1, fun k hk hA hn => (h'.2 k (Nat.lt_of_lt_of_le hk h.1) hA (fun hm => hn (hK k hk hm))).trans (h.2 k hk hA hn)⟩

/-! ### A new block; a block that is turned -/
theorem mem_keys {es : List Ent} {k : Nat} : k ∈ keys es ↔ ∃ e ∈ es, k ∈ e.kl := by simp [keys]
theorem keys_cons (e : Ent) (es : List Ent) : keys (e :: es) = e.kl ++ keys es := by simp [keys]
theorem keys_nil : keys [] = [] := rfl
theorem keys_append (a b : List Ent) : keys (a ++ b) = keys a ++ keys b := by simp [keys]
theorem kl_row {α : Type} {R : Rep α} {v : Value} {xs : List α} {b : Nat} (h : v.ownBlock = some b) : b ∈ (Ent.row R v xs).kl := by simp [Ent.kl, h]
theorem kl_row' {α : Type} {R : Rep α} {v : Value} {xs : List α} {b : Nat} (h : b ∈ (Ent.row R v xs).kl) : v.ownBlock = some b := by simpa [Ent.kl] using h
theorem Ent.okx_of_block {e : Ent} {w w' : World} (h : e.okx w) (hb : ∀ k, k ∈ e.kl → w'.heap[k]? = w.heap[k]?) : e.okx w' := by
  cases e with
  | box b T cs => exact (hb b (by simp [Ent.kl])).trans h
  | row R v xs =>
    refine ⟨h.1, ?_⟩
    rcases h.2 with hn | ⟨g, cap, cur, rfl, hbg, hg, rest⟩
    · exact .inl hn
    · exact .inr ⟨g, cap, cur, rfl, hbg, (hb g (kl_row rfl)).trans hg, rest⟩
  | ro F => trivial
  | obj o => exact o.stay hb h
theorem Ent.okx_lt {e : Ent} {w : World} (h : e.okx w) {k : Nat} (hk : k ∈ e.kl) : k < w.heap.size := by
  cases e with
  | box b T cs =>
    simp only [Ent.kl, List.mem_singleton] at hk
    subst hk
    exact (Array.getElem?_eq_some_iff.1 h).1
  | row R v xs => exact (World.ownsRow.lt h k (kl_row' hk)).2
  | ro F => cases hk
  | obj o => exact o.lt h k hk
theorem keys_sublist {l l' : List Ent} (h : List.Sublist l l') : List.Sublist (keys l) (keys l') := by
  induction h with
  | slnil => exact List.Sublist.refl _
  | cons a _ ih => rw [keys_cons]; exact ih.trans (List.sublist_append_right _ _)
  | cons_cons a _ ih => rw [keys_cons, keys_cons]; exact List.Sublist.append (List.Sublist.refl _) ih
theorem keys_perm {l l' : List Ent} (h : List.Perm l l') : List.Perm (keys l) (keys l') := by
  induction h with
  | nil => exact List.Perm.refl _
  | cons a _ ih => rw [keys_cons, keys_cons]; exact List.Perm.append_left _ ih
  | swap a b l => rw [keys_cons, keys_cons, keys_cons, keys_cons, ← List.append_assoc, ← List.append_assoc]; exact List.Perm.append_right _ List.perm_append_comm
  | trans _ _ h1 h2 => exact h1.trans h2
/-- The frame rule's core: the world goes from w to w', and of the blocks that were there only those in D may have turned; D lies among the keys of es; es' are the entries kept (each an entry of es whose key is not in D) and the new ones. -/
theorem Sat.step {w0 w w' : World} {M : List Nat} {A : Nat → Prop} {es : List Ent} (h : Sat w0 M A es w) (D : List Nat) (hD : ∀ k, k ∈ D → k ∈ keys es)
    (hc : Chg D w w') (keep news : List Ent) (hk : List.Sublist keep es) (hkd : ∀ k, k ∈ keys keep → k ∉ D)
    (hn1 : (keys news).Nodup) (hn2 : ∀ k, k ∈ keys news → k < w'.heap.size ∧ (w.heap.size ≤ k ∨ k ∈ D))
    (hn3 : ∀ e, e ∈ news → e.okx w')
    (hn4 : ∀ e, e ∈ news → ∀ K : List Nat, (∀ k, k ∈ keys news → k ∈ K) → (∀ k, k ∈ K → k ∈ keys news ∨ k ∈ keys keep) → e.okr (fun b => A b ∨ b ∈ M) w0.heap.size K w') :
    Sat w0 M A (keep ++ news) w' := by
  have hDM : ∀ b, b < w0.heap.size → b ∉ M → b ∉ D := fun b hb hM hd => by
    rcases (h.fresh b (hD b hd)).2 with h1 | h1
    · omega
    · exact hM h1
  have hkk : ∀ k, k ∈ keys keep → k ∈ keys es := fun k hk' => by
    obtain ⟨e, he, hek⟩ := mem_keys.1 hk'
    exact mem_keys.2 ⟨e, hk.subset he, hek⟩
  have happ : keys (keep ++ news) = keys keep ++ keys news := by simp [keys]
  refine ⟨⟨hc.os.trans h.chg.os, hc.tape.trans h.chg.tape, hc.output.trans h.chg.output, Nat.le_trans h.chg.size hc.size, fun b hb hM => ?_⟩, h.dis, ?_, ?_, ?_, ?_⟩
  · exact (hc.block b (Nat.lt_of_lt_of_le hb h.chg.size) (hDM b hb hM)).trans (h.chg.block b hb hM)
  · rw [happ, List.nodup_append]
    refine ⟨List.Nodup.sublist (keys_sublist hk) h.nodup, hn1, fun a ha b hb hab => ?_⟩
    subst hab
    rcases (hn2 a hb).2 with h1 | h1
    · have := (h.fresh a (hkk a ha)).1; omega
    · exact hkd a ha h1
  · intro k hk'
    rw [happ, List.mem_append] at hk'
    rcases hk' with h1 | h1
    · exact ⟨Nat.lt_of_lt_of_le (h.fresh k (hkk k h1)).1 hc.size, (h.fresh k (hkk k h1)).2⟩
    · refine ⟨(hn2 k h1).1, ?_⟩
      rcases (hn2 k h1).2 with h2 | h2
      · exact .inl (Nat.le_trans h.chg.size h2)
      · exact (h.fresh k (hD k h2)).2
  · intro e he
    rcases List.mem_append.1 he with h1 | h1
    · refine Ent.okx_of_block (h.okx e (hk.subset h1)) fun k hek => ?_
      exact hc.block k (Ent.okx_lt (h.okx e (hk.subset h1)) hek) (hkd k (mem_keys.2 ⟨e, h1, hek⟩))
    · exact hn3 e h1
  · intro e he
    rcases List.mem_append.1 he with h1 | h1
    · have h2 := h.okr e (hk.subset h1)
      cases e with
      | ro F =>
        intro w'' hw''
        refine h2 w'' ⟨Nat.le_trans hc.size hw''.1, fun b hb hA hbk => ?_⟩
        refine (hw''.2 b (Nat.lt_of_lt_of_le hb hc.size) hA ?_).trans (hc.block b hb (fun hd => hbk (hD b hd)))
        rw [happ, List.mem_append]
        rintro (h3 | h3)
        · exact hbk (hkk b h3)
        · rcases (hn2 b h3).2 with h4 | h4
          · omega
          · exact hbk (hD b h4)
      | box b T cs => trivial
      | row R v xs => trivial
      | obj o => trivial
    · refine hn4 e h1 _ (fun k hk' => by rw [happ]; exact List.mem_append_right _ hk') (fun k hk' => ?_)
      rw [happ, List.mem_append] at hk'
      rcases hk' with h2 | h2
      · exact .inr h2
      · exact .inl h2
end Go.J
