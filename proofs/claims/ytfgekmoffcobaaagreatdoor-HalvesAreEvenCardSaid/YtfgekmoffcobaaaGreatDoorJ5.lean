/- J5: the operations on memory, calls, returns. No program in sight. -/
import Derived.Test.YtfgekmoffcobaaaGreatDoorJ4
namespace Go.J
open Go Go.RowKit

/-! ### Reading a slice -/
def getI {α : Type} (xs : List α) (i : Int) : Option α := if 0 ≤ i then xs[i.toNat]? else none
theorem getI_spec {α : Type} {xs : List α} {i : Int} {x : α} (h : getI xs i = some x) : 0 ≤ i ∧ xs[i.toNat]? = some x := by
  unfold getI at h
  split at h
  · exact ⟨‹_›, h⟩
  · cases h
theorem getI_nat {α : Type} {xs : List α} {i : Nat} : getI xs (i : Int) = xs[i]? := by unfold getI; simp
theorem RdS.n {α : Type} {R : Rep α} {s : SV} {xs : List α} {w : World} (h : RdS R s.v xs w) : s.n = xs.length := by
  rcases h.2 with ⟨h2, x, cap, h1, _⟩ | ⟨b, off, cap, h1, _⟩
  · injection h1 with h3 h4 h5; subst h2; simpa using h4
  · injection h1
theorem RdS.at_ {α : Type} {R : Rep α} {s : SV} {xs : List α} {w : World} (h : RdS R s.v xs w) {i : Nat} {x : α} (hx : xs[i]? = some x) :
    ∃ b off, s.a = some ⟨b, off, none⟩ ∧ ∀ j u, (R.enc x)[j]? = some u → w.cell? ⟨b, off + (i * R.sz + j), none⟩ = some u := by
  rcases h.2 with ⟨h2, y, cap, h1, _⟩ | ⟨b, off, cap, h1, _, _, h4⟩
  · subst h2; cases hx
  · injection h1 with h5 h6 h7
    refine ⟨b, off, h5, fun j u hu => h4 _ u ?_⟩
    have hj : j < R.sz := by rw [← R.len x]; exact (List.getElem?_eq_some_iff.1 hu).1
    rw [R.cells_get xs i j x hx hj]; exact hu
theorem add_at (b off k : Nat) : (⟨b, off, none⟩ : Addr).add k = ⟨b, off + k, none⟩ := Addr.add_lit b off k
/-- fields -/
def FldF (P : Program) (T : TypeId) (f o : Nat) : Prop := ∀ a w, (Instr.fieldAt T (.pointer (some a)) f).run P w = .ok (.pointer (some (a.add o))) w

section
variable {P : Program} {N : NN} {l : Fr} {d : Option Nat} {ty : Nat} {pos : String} {af : Array Edge} {g : Option (Nat × Bool)} {x y z : Operand} {v u : Value} {k : IntKind} {m n : Int} {T E : TypeId}
variable {w0 : World} {M : List Nat} {A : Nat → Prop} {es : List Ent} {α : Type} {R : Rep α} {s t : SV} {xs ys : List α} {e : α} {i o j b off : Nat} {sz by_ : Nat} {zs cs vs : List Value}
theorem p_len (hT : P.underlying T = some (.slice E)) (hx : ev l x = some s.v) (hr : FactAt es (RdS R s.v xs)) :
    PureOp P N ⟨d, .call { callee := .builtin .len, args := #[x], argTypes := #[T] }, ty, pos, af, g⟩ l (Sat w0 M A es) (.int .i64 xs.length) := fun a w hf hw => by
  have := (hr.get hw).n
  simp [execOp, resolve, invoke, builtin, hf.ev hx, Builtin.len_, run_underlying hT, goInt, this]
theorem p_lenN {H : World → Prop} (hT : P.underlying T = some (.slice E)) (hx : ev l x = some (.slice none 0 0)) :
    PureOp P N ⟨d, .call { callee := .builtin .len, args := #[x], argTypes := #[T] }, ty, pos, af, g⟩ l H (.int .i64 0) := fun a w hf hw => by
  simp [execOp, resolve, invoke, builtin, hf.ev hx, Builtin.len_, run_underlying hT, goInt]
theorem p_idx {agg : Bool} (hT : P.underlying T = some (.slice R.T)) (hE : TyF P R.T agg R.sz by_ zs) (hx : ev l x = some s.v) (hy : ev l y = some (.int k m)) (hr : FactAt es (RdS R s.v xs)) (he : getI xs m = some e) :
    PureOp P N ⟨d, .indexAddr T x y, ty, pos, af, g⟩ l (Sat w0 M A es) (s.p (m.toNat * R.sz)) := fun a w hf hw => by
  obtain ⟨h0, h1⟩ := getI_spec he
  have hr' := hr.get hw
  obtain ⟨b, off, ha, _⟩ := hr'.at_ h1
  have hlt : m.toNat < xs.length := (List.getElem?_eq_some_iff.1 h1).1
  have hn := hr'.n
  have hm : m < (s.n : Int) := by omega
  simp [execOp, hf.ev hx, hf.ev hy, Instr.indexAt, run_underlying hT, asIntOf, ha, h0, hm, hE.size w, SV.p, SV.at_, add_at]
theorem run_loadVar_s (hE : TyF P T false sz by_ zs) {a : Addr} {w : World} (hc : w.cell? a = some v) : (loadVar T a).run P w = .ok v w := by
  simp [loadVar, hE.agg w, hc]
theorem run_loadVar_a (hE : TyF P T true sz by_ zs) {a : Addr} {w : World} (hl : vs.length = sz) (hc : ∀ j v, vs[j]? = some v → w.cell? (a.add j) = some v) : (loadVar T a).run P w = .ok (.agg vs.toArray) w := by
  have := run_loadCells_list (P := P) w a vs hc
  rw [hl] at this
  simp [loadVar, hE.agg w, hE.size w, this]
/-- one cell of an element -/
theorem p_lde {q : Nat} (hE : TyF P T false 1 by_ zs) (hx : ev l x = some (s.p q)) (hq : q = i * R.sz + o) (hr : FactAt es (RdS R s.v xs)) (he : xs[i]? = some e) (hv : nth (R.enc e) o = some v) :
    PureOp P N ⟨d, .load T x, ty, pos, af, g⟩ l (Sat w0 M A es) v := fun a w hf hw => by
  subst hq
  obtain ⟨b, off, ha, hc⟩ := (hr.get hw).at_ he
  rw [nth_eq] at hv
  have h := hc o v hv
  simp [execOp, hf.ev hx, Instr.loadAt, Instr.sureAddr, SV.p, SV.at_, ha, run_loadVar_s hE h]
/-- a whole element -/
theorem p_lea (hE : TyF P T true R.sz by_ zs) (hx : ev l x = some (s.p (i * R.sz))) (hr : FactAt es (RdS R s.v xs)) (he : xs[i]? = some e) :
    PureOp P N ⟨d, .load T x, ty, pos, af, g⟩ l (Sat w0 M A es) (.agg (R.enc e).toArray) := fun a w hf hw => by
  obtain ⟨b, off, ha, hc⟩ := (hr.get hw).at_ he
  have h : (loadVar T ⟨b, off + i * R.sz, none⟩).run P w = .ok (.agg (R.enc e).toArray) w := run_loadVar_a hE (R.len e) fun j v hv => by rw [add_at, Nat.add_assoc]; exact hc j v hv
  simp [execOp, hf.ev hx, Instr.loadAt, Instr.sureAddr, SV.p, SV.at_, ha, h]
/-- the address of an element's field -/
theorem p_fae {q : Nat} (hF : FldF P T j o) (hx : ev l x = some (s.p q)) (hr : FactAt es (RdS R s.v xs)) (he : xs[i]? = some e) :
    PureOp P N ⟨d, .fieldAddr T x j, ty, pos, af, g⟩ l (Sat w0 M A es) (s.p (q + o)) := fun a w hf hw => by
  obtain ⟨b, off, ha, _⟩ := (hr.get hw).at_ he
  have h := hF ⟨b, off + q, none⟩ w
  rw [add_at, Nat.add_assoc] at h
  simp [execOp, hf.ev hx, SV.p, SV.at_, ha, h]
theorem p_nce {q : Nat} (hx : ev l x = some (s.p q)) (hr : FactAt es (RdS R s.v xs)) (he : xs[i]? = some e) :
    PureOp P N ⟨d, .nilCheck x, ty, pos, af, g⟩ l (Sat w0 M A es) (s.p q) := fun a w hf hw => by
  obtain ⟨b, off, ha, _⟩ := (hr.get hw).at_ he
  simp [execOp, hf.ev hx, SV.p, SV.at_, ha]
/-- boxes -/
theorem p_fab {H : World → Prop} (hF : FldF P T j o) (hx : ev l x = some (.pointer (some ⟨b, off, none⟩))) : PureOp P N ⟨d, .fieldAddr T x j, ty, pos, af, g⟩ l H (.pointer (some ⟨b, off + o, none⟩)) := fun a w hf _ => by
  have h := hF ⟨b, off, none⟩ w
  rw [add_at] at h
  simp [execOp, hf.ev hx, h]
theorem p_lbs {Tb : TypeId} (hE : TyF P T false 1 by_ zs) (hx : ev l x = some (.pointer (some ⟨b, off, none⟩))) (hk : nth es j = some (.box b Tb cs)) (hv : nth cs off = some v) :
    PureOp P N ⟨d, .load T x, ty, pos, af, g⟩ l (Sat w0 M A es) v := fun a w hf hw => by
  have h : w.cell? ⟨b, off, none⟩ = some v := by rw [cell_of_row w b off _ _ _ (hw.box hk)]; rw [nth_eq] at hv; simpa using hv
  simp [execOp, hf.ev hx, Instr.loadAt, Instr.sureAddr, run_loadVar_s hE h]
def cut {α : Type _} : List α → Nat → Nat → List α
  | [], _, _ => []
  | _ :: cs, n + 1, k => cut cs n k
  | _, 0, 0 => []
  | c :: cs, 0, k + 1 => c :: cut cs 0 k
theorem cut_eq {α : Type _} (cs : List α) (n k : Nat) : cut cs n k = (cs.drop n).take k := by
  induction cs generalizing n k with
  | nil => simp [cut]
  | cons c cs ih =>
    cases n with
    | succ n => simpa [cut] using ih n k
    | zero => cases k with
      | zero => rfl
      | succ k => have := ih 0 k; simp at this; simp [cut, this]
/-- a struct out of a box: the whole or a part -/
theorem p_lba {Tb : TypeId} (hE : TyF P T true sz by_ zs) (hx : ev l x = some (.pointer (some ⟨b, off, none⟩))) (hk : nth es j = some (.box b Tb cs)) (hl : Nat.ble (off + sz) cs.length = true) :
    PureOp P N ⟨d, .load T x, ty, pos, af, g⟩ l (Sat w0 M A es) (.agg (cut cs off sz).toArray) := fun a w hf hw => by
  have hl' : off + sz ≤ cs.length := by simpa [Nat.ble_eq] using hl
  have h : (loadVar T ⟨b, off, none⟩).run P w = .ok (.agg (cut cs off sz).toArray) w := run_loadVar_a hE (by rw [cut_eq]; simp; omega) fun q v hv => by
    rw [add_at, cell_of_row w b (off + q) _ _ _ (hw.box hk)]
    rw [cut_eq, List.getElem?_take] at hv
    split at hv
    · simpa using hv
    · cases hv
  simp [execOp, hf.ev hx, Instr.loadAt, Instr.sureAddr, h]
theorem p_lbw {Tb : TypeId} (hE : TyF P T true sz by_ zs) (hx : ev l x = some (.pointer (some ⟨b, 0, none⟩))) (hk : nth es j = some (.box b Tb cs)) (hl : cs.length = sz) :
    PureOp P N ⟨d, .load T x, ty, pos, af, g⟩ l (Sat w0 M A es) (.agg cs.toArray) := fun a w hf hw => by
  have h : (loadVar T ⟨b, 0, none⟩).run P w = .ok (.agg cs.toArray) w := run_loadVar_a hE hl fun q v hv => by
    rw [add_at, Nat.zero_add, cell_of_row w b q _ _ _ (hw.box hk)]; simpa using hv
  simp [execOp, hf.ev hx, Instr.loadAt, Instr.sureAddr, h]
/-- a struct's field out of the value -/
theorem p_fd {H : World → Prop} (hx : ev l x = some u) (hr : ∀ w, (Instr.field T u j).run P w = .ok v w) : PureOp P N ⟨d, .field T x j, ty, pos, af, g⟩ l H v := fun a w hf _ => by
  simp [execOp, hf.ev hx, hr]
def evP (l : Fr) : List (Nat × Operand) → Option (List (Nat × Value))
  | [] => some []
  | (i, x) :: r => match ev l x with
    | some v => match evP l r with
      | some q => some ((i, v) :: q)
      | none => none
    | none => none
theorem Frm.evP {a : Act} (hf : Frm N l a) {ps : List (Nat × Operand)} {pv : List (Nat × Value)} (h : J.evP l ps = some pv) : ps.map (fun (i, x) => (i, a.eval x)) = pv := by
  induction ps generalizing pv with
  | nil => cases h; rfl
  | cons p r ih =>
    obtain ⟨i, x⟩ := p
    simp only [J.evP] at h
    cases h1 : J.ev l x with
    | none => rw [h1] at h; cases h
    | some v =>
      rw [h1] at h
      simp only at h
      cases h2 : J.evP l r with
      | none => rw [h2] at h; cases h
      | some q =>
        rw [h2] at h
        cases h
        simp only [List.map_cons, ih h2, hf.ev h1]
def evA (l : Fr) : List Operand → Option (List Value)
  | [] => some []
  | x :: r => match ev l x with
    | some v => match evA l r with
      | some q => some (v :: q)
      | none => none
    | none => none
theorem Frm.evA {a : Act} (hf : Frm N l a) {ps : List Operand} {pv : List Value} (h : J.evA l ps = some pv) : ps.map a.eval = pv := by
  induction ps generalizing pv with
  | nil => cases h; rfl
  | cons x r ih =>
    simp only [J.evA] at h
    cases h1 : J.ev l x with
    | none => rw [h1] at h; cases h
    | some v =>
      rw [h1] at h
      simp only at h
      cases h2 : J.evA l r with
      | none => rw [h2] at h; cases h
      | some q =>
        rw [h2] at h
        cases h
        simp only [List.map_cons, ih h2, hf.ev h1]
/-- a struct is put together: its cells cs, held against the model's own reckoning -/
theorem p_bld {H : World → Prop} {ps : List (Nat × Operand)} {pv : List (Nat × Value)} (cs : List Value) (hp : evP l ps = some pv) (hb : ∀ w, (Instr.build T pv.toArray).run P w = .ok (.agg cs.toArray) w) :
    PureOp P N ⟨d, .build T ps.toArray, ty, pos, af, g⟩ l H (.agg cs.toArray) := fun a w hf _ => by
  have h := hf.evP hp
  have h2 : (ps.toArray.map fun (i, x) => (i, a.eval x)) = pv.toArray := by rw [← h]; simp
  simp [execOp, h2, hb]
end

/-! ### Writing -/
section
variable {P : Program} {Rp : Post} {K : List Lay} {N : NN} {l : Fr} {ops : Array Oper} {rest : List Oper} {d : Nat} {ty : Nat} {pos : String} {af : Array Edge} {x y z : Operand} {v u : Value} {T E Tb : TypeId}
variable {w0 : World} {M : List Nat} {A : Nat → Prop} {es : List Ent} {α : Type} {R : Rep α} {s t : SV} {xs ys : List α} {e : α} {i o j b off : Nat} {sz by_ : Nat} {zs cs vs : List Value}
theorem r_al {ag : Bool} (hE' : TyF P T ag sz by_ zs) (hd : Nat.blt d N.n = true) (h : ∀ b, LJ P Rp ops rest K N ((d, .pointer (some ⟨b, 0, none⟩)) :: l) (Sat w0 M A (.box b T zs :: es))) :
    LJ P Rp ops (⟨some d, .alloc T, ty, pos, af, none⟩ :: rest) K N l (Sat w0 M A es) := by
  obtain ⟨zv, hz1, hz2⟩ := hE'.zero
  intro a w hf hw
  refine wpList_plain rfl fun K' hK => ?_
  unfold Oper.wp
  have : (execOp a.eval ⟨some d, .alloc T, ty, pos, af, none⟩).run P w = .ok (.value (.pointer (some ⟨w.heap.size, 0, none⟩))) (w.alloc (.cells zs.toArray T)) := by
    simp [execOp, Instr.alloc, hz2, newVar, newRow, hz1]
  rw [this]
  exact hK _ _ (h w.heap.size _ _ (hf.put hd _) (hw.alloc T zs))
theorem r_bx (hx : ev l x = some v) (hv : v.cells = cs.toArray) (hd : Nat.blt d N.n = true) (h : ∀ b, LJ P Rp ops rest K N ((d, .pointer (some ⟨b, 0, none⟩)) :: l) (Sat w0 M A (.box b T cs :: es))) :
    LJ P Rp ops (⟨some d, .box T x, ty, pos, af, none⟩ :: rest) K N l (Sat w0 M A es) := by
  intro a w hf hw
  refine wpList_plain rfl fun K' hK => ?_
  unfold Oper.wp
  have : (execOp a.eval ⟨some d, .box T x, ty, pos, af, none⟩).run P w = .ok (.value (.pointer (some ⟨w.heap.size, 0, none⟩))) (w.alloc (.cells cs.toArray T)) := by
    simp [execOp, Instr.box, hf.ev hx, newVar, newRow, hv]
  rw [this]
  exact hK _ _ (h w.heap.size _ _ (hf.put hd _) (hw.alloc T cs))
def ov {α : Type _} : List α → List α → List α
  | _ :: cs, v :: vs => v :: ov cs vs
  | cs, [] => cs
  | [], _ => []
def splice {α : Type _} : List α → Nat → List α → List α
  | c :: cs, n + 1, vs => c :: splice cs n vs
  | cs, 0, vs => ov cs vs
  | [], _, _ => []
theorem ov_eq {α : Type _} (cs vs : List α) (h : vs.length ≤ cs.length) : ov cs vs = vs ++ cs.drop vs.length := by
  induction cs generalizing vs with
  | nil => cases vs with
    | nil => rfl
    | cons v vs => simp at h
  | cons c cs ih => cases vs with
    | nil => rfl
    | cons v vs => simp [ov]; exact ih vs (by simpa using h)
theorem splice_eq {α : Type _} (cs : List α) (n : Nat) (vs : List α) (h : n + vs.length ≤ cs.length) : splice cs n vs = cs.take n ++ vs ++ cs.drop (n + vs.length) := by
  induction cs generalizing n with
  | nil =>
    have h1 : n = 0 := by simp at h; omega
    have h2 : vs = [] := by simp at h; exact List.eq_nil_of_length_eq_zero (by simp [h.2])
    subst h1; subst h2; rfl
  | cons c cs ih => cases n with
    | zero => rw [splice, ov_eq _ _ (by simpa using h)]; simp
    | succ n =>
      have := ih n (by simp at h ⊢; omega)
      simp [splice, this, Nat.add_right_comm n 1]
/-- into a box: v's cells vs, from off on -/
theorem r_sb {ag : Bool} (hE : TyF P T ag sz by_ zs) (hx : ev l x = some (.pointer (some ⟨b, off, none⟩))) (hy : ev l y = some v) (hv : v.cells = vs.toArray) (h1 : vs.all (·.oneCell') = true) (hs : Nat.beq vs.length sz = true)
    (hk : nth es j = some (.box b Tb cs)) (hl : Nat.ble (off + sz) cs.length = true) (h : LJ P Rp ops rest K N l (Sat w0 M A (setN es j (.box b Tb (splice cs off vs))))) :
    LJ P Rp ops (⟨none, .store T x y, ty, pos, af, none⟩ :: rest) K N l (Sat w0 M A es) := by
  intro a w hf hw
  have hl' : off + sz ≤ cs.length := by simpa [Nat.ble_eq] using hl
  have hs' : vs.length = sz := by simpa using hs
  refine wpList_plain rfl fun K' hK => ?_
  unfold Oper.wp
  have hst := run_storeCells_at P b off Tb vs 0 cs.toArray w (hw.box hk) (by simp; omega) (fun v hv => List.all_eq_true.1 h1 v hv)
  have : (execOp a.eval ⟨none, .store T x y, ty, pos, af, none⟩).run P w = .ok .skip (w.setRow b (splice cs off vs).toArray) := by
    simp only [Nat.add_zero] at hst
    rw [splice_eq _ _ _ (by omega)]
    simp [execOp, hf.ev hx, hf.ev hy, Instr.storeAt, Instr.sureAddr, storeVar, hv, hE.size w, hs', hst]
  rw [this]
  exact hK _ _ (h _ _ (hf.put_none undef) (hw.set_box hk))
/-- a new slice of written-out elements -/
theorem r_bs {T : TypeId} {n : Nat} {ps : List (Nat × Operand)} {pv : List (Nat × Value)} (R : Rep α) (xs : List α) (hp : evP l ps = some pv) (hn : Nat.beq xs.length n = true) (hm : Nat.ble n 1000000 = true)
    (hb : ∀ w, (Instr.buildSlice T n pv.toArray).run P w = .ok (.slice (some ⟨w.heap.size, 0, none⟩) n n) (w.alloc (.cells (R.cells xs).toArray R.T))) (hd : Nat.blt d N.n = true)
    (h : ∀ s : SV, LJ P Rp ops rest K N ((d, s.v) :: l) (Sat w0 M A (.row R s.v xs :: es))) :
    LJ P Rp ops (⟨some d, .buildSlice T n ps.toArray, ty, pos, af, none⟩ :: rest) K N l (Sat w0 M A es) := by
  intro a w hf hw
  have hn' : xs.length = n := by simpa using hn
  have hm' : n ≤ 1000000 := by simpa [Nat.ble_eq] using hm
  refine wpList_plain rfl fun K' hK => ?_
  unfold Oper.wp
  have he := hf.evP hp
  have h2 : (ps.toArray.map fun (i, x) => (i, a.eval x)) = pv.toArray := by rw [← he]; simp
  have : (execOp a.eval ⟨some d, .buildSlice T n ps.toArray, ty, pos, af, none⟩).run P w = .ok (.value (.slice (some ⟨w.heap.size, 0, none⟩) n n)) (w.alloc (.cells (R.cells xs).toArray R.T)) := by
    simp [execOp, h2, hb]
  rw [this]
  refine hK _ _ (h ⟨some ⟨w.heap.size, 0, none⟩, n, n⟩ _ _ (hf.put hd _) ?_)
  have hal := hw.alloc R.T (R.cells xs)
  have := hal.swap (w' := w.alloc (.cells (R.cells xs).toArray R.T)) (k := 0) (e := .box w.heap.size R.T (R.cells xs)) (e' := .row R (SV.v ⟨some ⟨w.heap.size, 0, none⟩, n, n⟩) xs) rfl (Chg.refl _ _)
    ⟨by rw [R.cells_len], .inr ⟨w.heap.size, n, _, by rw [hn'], Nat.zero_le _, Go.heap_alloc_new w _, by omega, by unfold maxLen; omega, by simp [R.cells_len, hn'], by rw [← R.cells_len]; simp⟩⟩
    (by intro q hq; simp only [Ent.key, Value.ownBlock, Option.some.injEq] at hq; subst hq; exact ⟨by simp, .inr rfl⟩) (fun F hF => by cases hF)
  exact this
end
end Go.J
