/- J3: the list of blocks: how it is turned, picked from, read. No program in sight. -/
import Derived.Test.YtfgekmoffcobaaaGreatDoorJ2
namespace Go.J
open Go Go.RowKit

def nth {α : Type _} : List α → Nat → Option α
  | [], _ => none
  | x :: _, 0 => some x
  | _ :: l, n + 1 => nth l n
theorem nth_eq {α : Type _} (l : List α) (n : Nat) : nth l n = l[n]? := by
  induction l generalizing n with
  | nil => cases n <;> rfl
  | cons x l ih => cases n with
    | zero => rfl
    | succ n => simpa [nth] using ih n
def setN {α : Type _} : List α → Nat → α → List α
  | [], _, _ => []
  | _ :: l, 0, y => y :: l
  | x :: l, n + 1, y => x :: setN l n y
theorem setN_eq {α : Type _} (l : List α) (n : Nat) (y : α) : setN l n y = l.set n y := by
  induction l generalizing n with
  | nil => cases n <;> rfl
  | cons x l ih => cases n with
    | zero => rfl
    | succ n => simp [setN, ih n]
/-- takes the k-th out -/
def pick1 {α : Type _} : List α → Nat → Option (α × List α)
  | [], _ => none
  | x :: l, 0 => some (x, l)
  | x :: l, n + 1 => match pick1 l n with
    | some (y, r) => some (y, x :: r)
    | none => none
theorem pick1_perm {α : Type _} {l : List α} {k : Nat} {x : α} {r : List α} (h : pick1 l k = some (x, r)) : List.Perm l (x :: r) := by
  induction l generalizing k x r with
  | nil => cases k <;> cases h
  | cons y l ih =>
    cases k with
    | zero => cases h; exact List.Perm.refl _
    | succ k =>
      simp only [pick1] at h
      cases h2 : pick1 l k with
      | none => rw [h2] at h; cases h
      | some p =>
        obtain ⟨z, q⟩ := p
        rw [h2] at h
        cases h
        exact (List.Perm.cons y (ih h2)).trans (List.Perm.swap x y q)
/-- takes out one after the other (each place is told of what is left) -/
def picks {α : Type _} : List Nat → List α → Option (List α × List α)
  | [], l => some ([], l)
  | k :: ks, l => match pick1 l k with
    | some (x, r) => match picks ks r with
      | some (xs, r') => some (x :: xs, r')
      | none => none
    | none => none
theorem picks_perm {α : Type _} {ks : List Nat} {l xs r : List α} (h : picks ks l = some (xs, r)) : List.Perm l (xs ++ r) := by
  induction ks generalizing l xs r with
  | nil => cases h; exact List.Perm.refl _
  | cons k ks ih =>
    simp only [picks] at h
    cases h2 : pick1 l k with
    | none => rw [h2] at h; cases h
    | some p =>
      obtain ⟨z, q⟩ := p
      rw [h2] at h
      simp only at h
      cases h3 : picks ks q with
      | none => rw [h3] at h; cases h
      | some p2 =>
        obtain ⟨zs, q2⟩ := p2
        rw [h3] at h
        cases h
        exact (pick1_perm h2).trans (List.Perm.cons z (ih h3))

section
variable {w0 w w' : World} {M : List Nat} {A : Nat → Prop} {es es' : List Ent}
theorem okr_congr {e : Ent} {n : Nat} {K K' : List Nat} (h : e.okr A n K w) (hK : ∀ b, b ∈ K' → b ∈ K) : e.okr A n K' w := by
  cases e with
  | ro F => exact fun w' hs => h w' ⟨hs.1, fun b hb hA hn => hs.2 b hb hA (fun hm => hn (hK b hm))⟩
  | box b T cs => trivial
  | row R v xs => trivial
  | obj o => trivial
theorem Sat.perm (h : Sat w0 M A es w) (hp : List.Perm es es') : Sat w0 M A es' w :=
  ⟨h.chg, h.dis, (keys_perm hp).nodup_iff.1 h.nodup, fun k hk => h.fresh k ((keys_perm hp).mem_iff.2 hk), fun e he => h.okx e (hp.mem_iff.2 he),
    fun e he => okr_congr (h.okr e (hp.mem_iff.2 he)) fun _ hb => (keys_perm hp).mem_iff.2 hb⟩
theorem Sat.sublist (h : Sat w0 M A es w) (hp : List.Sublist es' es) : Sat w0 M A es' w :=
  ⟨h.chg, h.dis, List.Nodup.sublist (keys_sublist hp) h.nodup, fun k hk => h.fresh k ((keys_sublist hp).subset hk), fun e he => h.okx e (hp.subset he),
    fun e he => okr_congr (h.okr e (hp.subset he)) fun _ hb => (keys_sublist hp).subset hb⟩
/-- some of the entries, in whatever order -/
theorem Sat.picks (h : Sat w0 M A es w) (ks : List Nat) {xs r : List Ent} (hp : J.picks ks es = some (xs, r)) : Sat w0 M A xs w :=
  (h.perm (picks_perm hp)).sublist (List.sublist_append_left xs r)
/-- the same heap -/
theorem Sat.heap_eq (h : Sat w0 M A es w) (h1 : w'.heap = w.heap) (h2 : w'.os = w.os) (h3 : w'.tape = w.tape) (h4 : w'.output = w.output) : Sat w0 M A es w' := by
  refine ⟨⟨h2.trans h.chg.os, h3.trans h.chg.tape, h4.trans h.chg.output, by rw [h1]; exact h.chg.size, fun b hb hM => by rw [h1]; exact h.chg.block b hb hM⟩, h.dis, h.nodup, fun k hk => by rw [h1]; exact h.fresh k hk, ?_, ?_⟩
  · exact fun e he => Ent.okx_of_block (h.okx e he) fun k _ => by rw [h1]
  · intro e he
    have := h.okr e he
    cases e with
    | ro F => exact fun w'' hs => this w'' ⟨by rw [← h1]; exact hs.1, fun b hb hA hn => by rw [← h1]; exact hs.2 b (by rw [h1]; exact hb) hA hn⟩
    | box b T cs => trivial
    | row R v xs => trivial
    | obj o => trivial
theorem Sat.drew (h : Sat w0 M A es w) : Sat w0 M A es { w with drawn := w.drawn + 1 } := h.heap_eq rfl rfl rfl rfl
theorem nth_mem {k : Nat} {e : Ent} (hk : nth es k = some e) : e ∈ es := by
  rw [nth_eq] at hk
  exact List.mem_of_getElem? hk
theorem Sat.box (h : Sat w0 M A es w) {k b : Nat} {T : TypeId} {cs : List Value} (hk : nth es k = some (.box b T cs)) : w.heap[b]? = some (.cells cs.toArray T (0, 0)) := h.okx _ (nth_mem hk)
theorem Sat.row (h : Sat w0 M A es w) {α : Type} {k : Nat} {R : Rep α} {v : Value} {xs : List α} (hk : nth es k = some (.row R v xs)) : w.ownsRow 0 R.T R.sz v xs.length (R.cells xs) := h.okx _ (nth_mem hk)
theorem Sat.ro (h : Sat w0 M A es w) {k : Nat} {F : World → Prop} (hk : nth es k = some (.ro F)) : F w := h.okr _ (nth_mem hk) w (Same.refl _ _ _ _)
/-- a new block -/
theorem Sat.alloc (h : Sat w0 M A es w) (T : TypeId) (cs : List Value) : Sat w0 M A (.box w.heap.size T cs :: es) (w.alloc (.cells cs.toArray T)) := by
  have := h.step (w' := w.alloc (.cells cs.toArray T)) [] (by simp) ⟨rfl, rfl, rfl, by simp, fun b hb _ => Below.heap_alloc w _ b hb⟩ es [.box w.heap.size T cs] (List.Sublist.refl _) (by simp)
    (by simp [keys, Ent.kl]) (by intro k hk; simp [keys, Ent.kl] at hk; subst hk; exact ⟨by simp, .inl (Nat.le_refl _)⟩)
    (by intro e he; simp at he; subst he; exact heap_alloc_new w _) (by intro e he; simp at he; subst he; intros; trivial)
  exact this.perm List.perm_append_comm
theorem pick1_split {α : Type _} {l : List α} {k : Nat} {x : α} (h : nth l k = some x) : ∃ a b, l = a ++ x :: b ∧ ∀ y, setN l k y = a ++ y :: b := by
  induction l generalizing k with
  | nil => cases k <;> cases h
  | cons z l ih =>
    cases k with
    | zero => cases h; exact ⟨[], l, rfl, fun y => rfl⟩
    | succ k =>
      obtain ⟨a, b, h1, h2⟩ := ih h
      exact ⟨z :: a, b, by rw [h1]; rfl, fun y => by simp only [setN, h2 y]; rfl⟩
/-- an entry is exchanged: its blocks alone may turn (or new ones take their place) -/
theorem Sat.swap' (h : Sat w0 M A es w) {k : Nat} {e e' : Ent} (hk : nth es k = some e) (hc : Chg e.kl w w') (hok : e'.okx w') (hnd' : e'.kl.Nodup)
    (hkey : ∀ b, b ∈ e'.kl → b < w'.heap.size ∧ (w.heap.size ≤ b ∨ b ∈ e.kl)) (hro : ∀ F, e' ≠ .ro F) : Sat w0 M A (setN es k e') w' := by
  obtain ⟨a, b, h1, h2⟩ := pick1_split hk
  rw [h2 e']
  subst h1
  have hkeys : keys (a ++ e :: b) = keys a ++ (e.kl ++ keys b) := by rw [keys_append, keys_cons]
  have hnd := h.nodup
  rw [hkeys, List.nodup_append] at hnd
  obtain ⟨hn1, hn2, hn3⟩ := hnd
  rw [List.nodup_append] at hn2
  obtain ⟨hn4, hn5, hn6⟩ := hn2
  have hst := h.step (w' := w') e.kl (by intro x hx; rw [hkeys]; simp [hx]) hc (a ++ b) [e']
    (List.Sublist.append (List.Sublist.refl _) (List.sublist_cons_self _ _))
    (by
      intro x hx hx'
      rw [keys_append, List.mem_append] at hx
      rcases hx with hx | hx
      · exact hn3 x hx x (List.mem_append_left _ hx') rfl
      · exact hn6 x hx' x hx rfl)
    (by rw [keys_cons, keys_nil, List.append_nil]; exact hnd')
    (by
      intro x hx
      rw [keys_cons, keys_nil, List.append_nil] at hx
      exact hkey x hx)
    (by intro x hx; simp at hx; subst hx; exact hok)
    (by
      intro x hx
      simp at hx
      subst hx
      intro K _ _
      cases x with
      | ro F => exact (hro F rfl).elim
      | box b T cs => trivial
      | row R v xs => trivial
      | obj o => trivial)
  refine hst.perm ?_
  rw [List.append_assoc]
  exact List.Perm.append_left a List.perm_append_comm
theorem Sat.swap (h : Sat w0 M A es w) {k : Nat} {e e' : Ent} (hk : nth es k = some e) (hc : Chg e.key.toList w w') (hok : e'.okx w')
    (hkey : ∀ b, e'.key = some b → b < w'.heap.size ∧ (w.heap.size ≤ b ∨ e.key = some b)) (hro : ∀ F, e' ≠ .ro F) (h1 : ∀ o, e ≠ .obj o := by intro o h; cases h) (h2 : ∀ o, e' ≠ .obj o := by intro o h; cases h) : Sat w0 M A (setN es k e') w' := by
  have hkl : ∀ e : Ent, (∀ o, e ≠ .obj o) → e.kl = e.key.toList := by
    intro e he
    cases e with
    | obj o => exact (he o rfl).elim
    | box b T cs => rfl
    | row R v xs => rfl
    | ro F => rfl
  refine h.swap' hk (by rw [hkl e h1]; exact hc) hok ?_ ?_ hro
  · rw [hkl e' h2]; cases e'.key <;> simp
  · intro b hb
    rw [hkl e' h2] at hb
    have := hkey b (by simpa using hb)
    exact ⟨this.1, this.2.imp id (fun h3 => by rw [hkl e h1, h3]; simp)⟩
/-- a cell of a box is written -/
theorem Sat.set_box (h : Sat w0 M A es w) {k b : Nat} {T : TypeId} {cs cs' : List Value} (hk : nth es k = some (.box b T cs)) :
    Sat w0 M A (setN es k (.box b T cs')) (w.setRow b cs'.toArray) := by
  refine h.swap hk ?_ ?_ ?_ (fun F hF => by cases hF)
  · exact ⟨rfl, rfl, rfl, by simp, fun x _ hx => setRow_other w b x _ (fun e => hx (by simp [Ent.key, e]))⟩
  · exact setRow_heap w b cs.toArray _ T (0, 0) (h.box hk)
  · intro x hx; simp [Ent.key] at hx; subst hx; exact ⟨by simp; exact (Array.getElem?_eq_some_iff.1 (h.box hk)).1, .inr rfl⟩
/-- one more fact -/
theorem Sat.add_ro (h : Sat w0 M A es w) {F : World → Prop} (hF : ∀ w', Same (fun b => A b ∨ b ∈ M) w0.heap.size (keys es) w w' → F w') : Sat w0 M A (.ro F :: es) w := by
  refine ⟨h.chg, h.dis, h.nodup, h.fresh, ?_, ?_⟩
  · intro e he
    rcases List.mem_cons.1 he with h1 | h1
    · subst h1; trivial
    · exact h.okx e h1
  · intro e he
    rcases List.mem_cons.1 he with h1 | h1
    · subst h1; exact hF
    · exact h.okr e h1
end

/-! ### What is read -/
theorem RdS.of_row {α : Type} {R : Rep α} {v : Value} {xs : List α} {w : World} (h : w.ownsRow 0 R.T R.sz v xs.length (R.cells xs)) : RdS R v xs w := by
  rcases h.2 with ⟨h1, h2⟩ | ⟨g, cap, cur, h1, _, hg, hn, hcm, hcs, ht⟩
  · have : xs = [] := List.eq_nil_of_length_eq_zero h2
    subst this
    exact ⟨by simp [maxLen], .inl ⟨rfl, none, 0, h1, by simp [maxLen]⟩⟩
  · refine ⟨Nat.le_trans hn hcm, .inr ⟨g, 0, cap, h1, hn, hcm, fun j u hu => ?_⟩⟩
    rw [Nat.zero_add, cell_of_row w g j cur R.T (0, 0) hg]
    rw [← ht, List.getElem?_take] at hu
    split at hu
    · simpa using hu
    · cases hu
theorem RdS.of_block {α : Type} {R : Rep α} {v : Value} {xs : List α} {w w' : World} (h : RdS R v xs w) (hs : ∀ b, v.ownBlock = some b → w'.heap[b]? = w.heap[b]?) : RdS R v xs w' := by
  refine ⟨h.1, ?_⟩
  rcases h.2 with hn | ⟨b, off, cap, rfl, h1, h2, h3⟩
  · exact .inl hn
  · exact .inr ⟨b, off, cap, rfl, h1, h2, fun j u hu => (World.cell?_of_block (a := ⟨b, off + j, none⟩) (hs b rfl)).trans (h3 j u hu)⟩
/-- a world that goes on, and turns nothing -/
def Ext (w w' : World) : Prop := w.heap.size ≤ w'.heap.size ∧ ∀ b, b < w.heap.size → w'.heap[b]? = w.heap[b]?
theorem Ext.refl (w : World) : Ext w w := ⟨Nat.le_refl _, fun _ _ => rfl⟩
theorem RdS.ext {α : Type} {R : Rep α} {v : Value} {xs : List α} {w w' : World} (h : RdS R v xs w) (hw : Ext w w') : RdS R v xs w' := by
  refine ⟨h.1, ?_⟩
  rcases h.2 with hn | ⟨b, off, cap, hv, h1, h2, h3⟩
  · exact .inl hn
  · refine .inr ⟨b, off, cap, hv, h1, h2, fun j u hu => ?_⟩
    have h4 := h3 j u hu
    refine (World.cell?_of_block (a := ⟨b, off + j, none⟩) (hw.2 b ?_)).trans h4
    by_cases hb : b < w.heap.size
    · exact hb
    · unfold World.cell? at h4
      rw [Array.getElem?_eq_none (by simpa using hb)] at h4
      cases h4
/-- a fact that the list of blocks holds -/
inductive FactAt (es : List Ent) : (World → Prop) → Prop where
  | ro {F : World → Prop} (j : Nat) (h : nth es j = some (.ro F)) : FactAt es F
  | row {α : Type} {R : Rep α} {v : Value} {xs : List α} (j : Nat) (h : nth es j = some (.row R v xs)) : FactAt es (RdS R v xs)
  | box {b : Nat} {T : TypeId} {cs : List Value} (j : Nat) (h : nth es j = some (.box b T cs)) : FactAt es (fun w => w.heap[b]? = some (.cells cs.toArray T (0, 0)))
  | obj {o : OW} (j : Nat) (h : nth es j = some (.obj o)) : FactAt es o.ok
  | der {fs : List (World → Prop)} {G : World → Prop} (hfs : ∀ F, F ∈ fs → FactAt es F) (h : ∀ w, (∀ F, F ∈ fs → ∀ w', Ext w w' → F w') → G w) : FactAt es G
/-- .. and goes on to hold while no block of ours but those in K' turns -/
theorem FactAt.stay {xs rest : List Ent} {F : World → Prop} (h : FactAt rest F) {w0 w w' : World} {M : List Nat} {A : Nat → Prop} (hs : Sat w0 M A (xs ++ rest) w)
    (hw : w.heap.size ≤ w'.heap.size ∧ ∀ b, b < w.heap.size → b ∉ keys xs → w'.heap[b]? = w.heap[b]?) : F w' := by
  have hk : keys (xs ++ rest) = keys xs ++ keys rest := by simp [keys]
  induction h generalizing w' with
  | ro j h =>
    rename_i F
    have hm : Ent.ro F ∈ xs ++ rest := List.mem_append_right _ (by rw [nth_eq] at h; exact List.mem_of_getElem? h)
    exact hs.okr _ hm w' ⟨hw.1, fun b hb _ hn => hw.2 b hb fun hx => hn (by rw [hk]; exact List.mem_append_left _ hx)⟩
  | row j h =>
    rename_i α R v ys
    have hm0 : Ent.row R v ys ∈ rest := by rw [nth_eq] at h; exact List.mem_of_getElem? h
    have hm : Ent.row R v ys ∈ xs ++ rest := List.mem_append_right _ hm0
    have hok : w.ownsRow 0 R.T R.sz v ys.length (R.cells ys) := hs.okx _ hm
    refine (RdS.of_row hok).of_block fun b hb => ?_
    refine hw.2 b (World.ownsRow.lt hok b hb).2 fun hx => ?_
    have hnd := hs.nodup
    rw [hk, List.nodup_append] at hnd
    exact hnd.2.2 b hx b (mem_keys.2 ⟨_, hm0, kl_row hb⟩) rfl
  | box j h =>
    rename_i b T cs
    have hm0 : Ent.box b T cs ∈ rest := by rw [nth_eq] at h; exact List.mem_of_getElem? h
    have hok : w.heap[b]? = some (.cells cs.toArray T (0, 0)) := hs.okx _ (List.mem_append_right xs hm0)
    refine (hw.2 b (Array.getElem?_eq_some_iff.1 hok).1 fun hx => ?_).trans hok
    have hnd := hs.nodup
    rw [hk, List.nodup_append] at hnd
    exact hnd.2.2 b hx b (mem_keys.2 ⟨_, hm0, by simp [Ent.kl]⟩) rfl
  | obj j h =>
    rename_i o
    have hm0 : Ent.obj o ∈ rest := by rw [nth_eq] at h; exact List.mem_of_getElem? h
    have hok : o.ok w := hs.okx _ (List.mem_append_right xs hm0)
    refine o.stay (fun b hb => hw.2 b (o.lt hok b hb) fun hx => ?_) hok
    have hnd := hs.nodup
    rw [hk, List.nodup_append] at hnd
    exact hnd.2.2 b hx b (mem_keys.2 ⟨_, hm0, hb⟩) rfl
  | der _ h ih => exact h w' fun F hF w'' he => ih F hF ⟨Nat.le_trans hw.1 he.1, fun b hb hn => (he.2 b (Nat.lt_of_lt_of_le hb hw.1)).trans (hw.2 b hb hn)⟩
theorem FactAt.get {es : List Ent} {F : World → Prop} (h : FactAt es F) {w0 w : World} {M : List Nat} {A : Nat → Prop} (hs : Sat w0 M A es w) : F w :=
  h.stay (xs := []) hs ⟨Nat.le_refl _, fun _ _ _ => rfl⟩
theorem FactAt.imp {es : List Ent} {G F : World → Prop} (h : FactAt es G) (hi : ∀ w, G w → F w) : FactAt es F :=
  .der (fs := [G]) (fun F hF => by simp at hF; subst hF; exact h) fun w hw => hi w (hw G (by simp) w (Ext.refl w))
theorem FactAt.and {es : List Ent} {G F : World → Prop} (h1 : FactAt es G) (h2 : FactAt es F) : FactAt es (fun w => G w ∧ F w) :=
  .der (fs := [G, F]) (fun X hX => by simp at hX; rcases hX with hX | hX <;> subst hX <;> assumption) fun w hw => ⟨hw G (by simp) w (Ext.refl w), hw F (by simp) w (Ext.refl w)⟩
theorem FactAt.tru {es : List Ent} {p : Prop} (h : p) : FactAt es (fun _ => p) := .der (fs := []) (fun _ hF => by cases hF) fun _ _ => h
/-- a fact that lasts: of blocks that nobody turns any more -/
inductive FactRo (es : List Ent) : (World → Prop) → Prop where
  | ro {F : World → Prop} (j : Nat) (h : nth es j = some (.ro F)) : FactRo es F
  | der {fs : List (World → Prop)} {G : World → Prop} (hfs : ∀ F, F ∈ fs → FactRo es F) (h : ∀ w, (∀ F, F ∈ fs → ∀ w', Ext w w' → F w') → G w) : FactRo es G
theorem FactRo.imp {es : List Ent} {G F : World → Prop} (h : FactRo es G) (hi : ∀ w, G w → F w) : FactRo es F :=
  .der (fs := [G]) (fun F hF => by simp at hF; subst hF; exact h) fun w hw => hi w (hw G (by simp) w (Ext.refl w))
theorem FactRo.and {es : List Ent} {G F : World → Prop} (h1 : FactRo es G) (h2 : FactRo es F) : FactRo es (fun w => G w ∧ F w) :=
  .der (fs := [G, F]) (fun X hX => by simp at hX; rcases hX with hX | hX <;> subst hX <;> assumption) fun w hw => ⟨hw G (by simp) w (Ext.refl w), hw F (by simp) w (Ext.refl w)⟩
theorem FactRo.tru {es : List Ent} {p : Prop} (h : p) : FactRo es (fun _ => p) := .der (fs := []) (fun _ hF => by cases hF) fun _ _ => h
theorem FactRo.stays {es : List Ent} {F : World → Prop} (h : FactRo es F) {w0 w : World} {M : List Nat} {A : Nat → Prop} (hs : Sat w0 M A es w) :
    ∀ w', Same (fun b => A b ∨ b ∈ M) w0.heap.size (keys es) w w' → F w' := by
  induction h with
  | ro j h => exact fun w' hw' => hs.okr _ (nth_mem h) w' hw'
  | der _ h ih => exact fun w' hw' => h w' fun F hF w'' he => ih F hF w'' ⟨Nat.le_trans hw'.1 he.1, fun b hb hA hn => (he.2 b (Nat.lt_of_lt_of_le hb hw'.1)).trans (hw'.2 b hb hA hn)⟩
/-- an owned row is owned no more, but read -/
theorem Sat.freeze {w0 w : World} {M : List Nat} {A : Nat → Prop} {es rest : List Ent} {α : Type} {R : Rep α} {v : Value} {xs : List α} (h : Sat w0 M A es w) {k : Nat} (hk : pick1 es k = some (.row R v xs, rest)) :
    Sat w0 M A (.ro (RdS R v xs) :: rest) w := by
  have h2 := h.perm (pick1_perm hk)
  have hrow : w.ownsRow 0 R.T R.sz v xs.length (R.cells xs) := h2.okx _ (List.mem_cons_self ..)
  refine (h2.sublist (List.sublist_cons_self _ _)).add_ro fun w' hw' => (RdS.of_row hrow).of_block fun b hb => ?_
  have hb1 : b ∈ keys (.row R v xs :: rest) := mem_keys.2 ⟨_, List.mem_cons_self .., kl_row hb⟩
  refine hw'.2 b (h2.fresh b hb1).1 ?_ ?_
  · rcases (h2.fresh b hb1).2 with h3 | h3
    · exact .inr h3
    · exact .inl (.inr h3)
  · have hnd := h2.nodup
    have hkk : keys (.row R v xs :: rest) = b :: keys rest := by
      rw [keys_cons]
      have : Ent.kl (.row R v xs) = [b] := by simp [Ent.kl, hb]
      rw [this]; rfl
    rw [hkk, List.nodup_cons] at hnd
    exact hnd.1
inductive Facts (es : List Ent) : List (World → Prop) → Prop where
  | nil : Facts es []
  | cons {F : World → Prop} {fs : List (World → Prop)} (h : FactAt es F) (t : Facts es fs) : Facts es (F :: fs)
theorem Facts.mem {es : List Ent} {fs : List (World → Prop)} (h : Facts es fs) {F : World → Prop} (hF : F ∈ fs) : FactAt es F := by
  induction h with
  | nil => cases hF
  | cons h _ ih =>
    rcases List.mem_cons.1 hF with h1 | h1
    · subst h1; exact h
    · exact ih h1

/-! ### What a function promises -/
def noRo : List Ent → Bool
  | [] => true
  | .ro _ :: _ => false
  | _ :: es => noRo es
theorem noRo_mem {es : List Ent} (h : noRo es = true) {F : World → Prop} : Ent.ro F ∉ es := by
  induction es with
  | nil => simp
  | cons e es ih =>
    intro hm
    rcases List.mem_cons.1 hm with h1 | h1
    · subst h1; cases h
    · cases e with
      | ro G => cases h
      | box b T cs => exact ih h h1
      | row R v xs => exact ih h h1
      | obj o => exact ih h h1
/-- Called with args, in whatever world in which the blocks xs are the call's to turn and the facts fs hold: it returns V x, and leaves what 'post x' says, x some value. -/
def Ctr (P : Program) (f : FuncId) (args : Array Value) (xs : List Ent) (fs : List (World → Prop)) {X : Type} (V : X → Value) (post : X → List Ent) : Prop :=
  ∀ w A, Sat w (keys xs) A (xs ++ fs.map Ent.ro) w → Calls P f args w fun e w' => ∃ x, e = .returned (V x) ∧ Sat w (keys xs) A (post x) w'
theorem keys_ros (fs : List (World → Prop)) : keys (fs.map Ent.ro) = [] := by
  induction fs with
  | nil => rfl
  | cons F fs ih => rw [List.map_cons, keys_cons]; exact ih
/-- how a caller comes to a contract: the blocks xs are handed over, the facts hold of what is left -/
theorem Ctr.use {P : Program} {f : FuncId} {args : Array Value} {xs : List Ent} {fs : List (World → Prop)} {X : Type} {V : X → Value} {post : X → List Ent} (hc : Ctr P f args xs fs V post)
    {w0 w : World} {M : List Nat} {A : Nat → Prop} {es rest : List Ent} (hs : Sat w0 M A es w) {ks : List Nat} (hp : picks ks es = some (xs, rest)) (hxs : noRo xs = true) (hfs : Facts rest fs) (hpost : ∀ x, noRo (post x) = true) :
    Calls P f args w fun e w' => ∃ x, e = .returned (V x) ∧ Sat w0 M A (post x ++ rest) w' := by
  have hs2 := hs.perm (picks_perm hp)
  have hk2 : keys (xs ++ rest) = keys xs ++ keys rest := keys_append _ _
  have hnd := hs2.nodup
  rw [hk2, List.nodup_append] at hnd
  have henter : Sat w (keys xs) (fun b => b < w.heap.size ∧ b ∉ keys xs) (xs ++ fs.map Ent.ro) w := by
    have hk3 : keys (xs ++ fs.map Ent.ro) = keys xs := by rw [keys_append, keys_ros, List.append_nil]
    refine ⟨Chg.refl _ _, fun b hb => hb, by rw [hk3]; exact hnd.1, fun k hk => ?_, ?_, ?_⟩
    · rw [hk3] at hk
      exact ⟨(hs2.fresh k (by rw [hk2]; exact List.mem_append_left _ hk)).1, .inr hk⟩
    · intro e he
      rcases List.mem_append.1 he with h1 | h1
      · exact hs2.okx e (List.mem_append_left _ h1)
      · obtain ⟨F, _, rfl⟩ := List.mem_map.1 h1; trivial
    · intro e he
      rcases List.mem_append.1 he with h1 | h1
      · cases e with
        | ro F => exact (noRo_mem hxs h1).elim
        | box b T cs => trivial
        | row R v xs => trivial
        | obj o => trivial
      · obtain ⟨F, hF, rfl⟩ := List.mem_map.1 h1
        intro w' hw'
        refine (hfs.mem hF).stay hs2 ⟨hw'.1, fun b hb hbx => hw'.2 b hb (.inl (.inl ⟨hb, hbx⟩)) ?_⟩
        rw [hk3]; exact hbx
  refine (hc w _ henter).mono ?_
  rintro e w' ⟨x, he, hx⟩
  refine ⟨x, he, ?_⟩
  have hst := hs2.step (w' := w') (keys xs) (fun k hk => by rw [hk2]; exact List.mem_append_left _ hk) hx.chg rest (post x) (List.sublist_append_right _ _)
    (fun k hk hk' => hnd.2.2 k hk' k hk rfl) hx.nodup (fun k hk => hx.fresh k hk) hx.okx
    (fun e he K _ _ => by
      cases e with
      | ro F => exact (noRo_mem (hpost x) he).elim
      | box b T cs => trivial
      | row R v xs => trivial
      | obj o => trivial)
  exact hst.perm List.perm_append_comm
/-- .. where facts are handed back: those that are handed over last -/
inductive FactsRo (es : List Ent) : List (World → Prop) → Prop where
  | nil : FactsRo es []
  | cons {F : World → Prop} {fs : List (World → Prop)} (h : FactRo es F) (t : FactsRo es fs) : FactsRo es (F :: fs)
theorem FactsRo.mem {es : List Ent} {fs : List (World → Prop)} (h : FactsRo es fs) {F : World → Prop} (hF : F ∈ fs) : FactRo es F := by
  induction h with
  | nil => cases hF
  | cons h _ ih =>
    rcases List.mem_cons.1 hF with h1 | h1
    · subst h1; exact h
    · exact ih h1
theorem Ctr.useN {P : Program} {f : FuncId} {args : Array Value} {xs : List Ent} {fs : List (World → Prop)} {X : Type} {V : X → Value} {post : X → List Ent} (hc : Ctr P f args xs fs V post)
    {w0 w : World} {M : List Nat} {A : Nat → Prop} {es rest : List Ent} (hs : Sat w0 M A es w) {ks : List Nat} (hp : picks ks es = some (xs, rest)) (hxs : noRo xs = true) (hfs : FactsRo rest fs) :
    Calls P f args w fun e w' => ∃ x, e = .returned (V x) ∧ Sat w0 M A (post x ++ rest) w' := by
  have hs2 := hs.perm (picks_perm hp)
  have hk2 : keys (xs ++ rest) = keys xs ++ keys rest := keys_append _ _
  have hnd := hs2.nodup
  rw [hk2, List.nodup_append] at hnd
  have hrest := hs2.sublist (List.sublist_append_right xs rest)
  have henter : Sat w (keys xs) (fun b => b < w.heap.size ∧ ((A b ∨ b ∈ M) ∨ w0.heap.size ≤ b) ∧ b ∉ keys (xs ++ rest)) (xs ++ fs.map Ent.ro) w := by
    have hk3 : keys (xs ++ fs.map Ent.ro) = keys xs := by rw [keys_append, keys_ros, List.append_nil]
    refine ⟨Chg.refl _ _, fun b hb => ⟨hb.1, fun h => hb.2.2 (by rw [hk2]; exact List.mem_append_left _ h)⟩, by rw [hk3]; exact hnd.1, fun k hk => ?_, ?_, ?_⟩
    · rw [hk3] at hk
      exact ⟨(hs2.fresh k (by rw [hk2]; exact List.mem_append_left _ hk)).1, .inr hk⟩
    · intro e he
      rcases List.mem_append.1 he with h1 | h1
      · exact hs2.okx e (List.mem_append_left _ h1)
      · obtain ⟨F, _, rfl⟩ := List.mem_map.1 h1; trivial
    · intro e he
      rcases List.mem_append.1 he with h1 | h1
      · cases e with
        | ro F => exact (noRo_mem hxs h1).elim
        | box b T cs => trivial
        | row R v xs => trivial
        | obj o => trivial
      · obtain ⟨F, hF, rfl⟩ := List.mem_map.1 h1
        intro w' hw'
        -- of the blocks that last, and of those alone, the fact speaks
        have key : ∀ {F : World → Prop}, FactRo rest F → ∀ w', Same (fun b => (b < w.heap.size ∧ ((A b ∨ b ∈ M) ∨ w0.heap.size ≤ b) ∧ b ∉ keys (xs ++ rest)) ∨ b ∈ keys xs) w.heap.size (keys (xs ++ fs.map Ent.ro)) w w' → F w' := by
          intro F hF
          induction hF with
          | ro j h =>
            intro w' hw'
            have hm := List.mem_append_right xs (nth_mem h)
            refine hs2.okr _ hm w' ⟨hw'.1, fun b hb hA hn => hw'.2 b hb (.inl (.inl ⟨hb, ?_, hn⟩)) ?_⟩
            · exact hA
            · rw [hk3]; intro hx; exact hn (by rw [hk2]; exact List.mem_append_left _ hx)
          | der _ h ih => exact fun w' hw' => h w' fun F hF w'' he => ih F hF w'' ⟨Nat.le_trans hw'.1 he.1, fun b hb hA hn => (he.2 b (Nat.lt_of_lt_of_le hb hw'.1)).trans (hw'.2 b hb hA hn)⟩
        exact key (hfs.mem hF) w' hw'
  refine (hc w _ henter).mono ?_
  rintro e w' ⟨x, he, hx⟩
  refine ⟨x, he, ?_⟩
  have hst := hs2.step (w' := w') (keys xs) (fun k hk => by rw [hk2]; exact List.mem_append_left _ hk) hx.chg rest (post x) (List.sublist_append_right _ _)
    (fun k hk hk' => hnd.2.2 k hk' k hk rfl) hx.nodup (fun k hk => hx.fresh k hk) hx.okx
    (fun e he K hK1 hK2 => by
      cases e with
      | ro F =>
        intro w'' hw''
        refine hx.okr _ he w'' ⟨hw''.1, fun b hb hA hn => hw''.2 b hb ?_ fun hbK => ?_⟩
        · rcases hA with (hA | hA) | hA
          · exact hA.2.1
          · rcases (hs2.fresh b (by rw [hk2]; exact List.mem_append_left _ hA)).2 with h3 | h3
            · exact .inr h3
            · exact .inl (.inr h3)
          · exact .inr (Nat.le_trans hs2.chg.size hA)
        · rcases hK2 b hbK with h3 | h3
          · exact hn h3
          · rcases hA with (hA | hA) | hA
            · exact hA.2.2 (by rw [hk2]; exact List.mem_append_right _ h3)
            · exact hnd.2.2 b hA b h3 rfl
            · have := (hs2.fresh b (by rw [hk2]; exact List.mem_append_right _ h3)).1; omega
      | box b T cs => trivial
      | row R v xs => trivial
      | obj o => trivial)
  exact hst.perm List.perm_append_comm
end Go.J
