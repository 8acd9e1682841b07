/- J4: the operations: one rule a form. No program in sight. -/
import Derived.Test.YtfgekmoffcobaaaGreatDoorJ3
namespace Go.J
open Go Go.RowKit

/-- a slice header's parts: so that a slice's value shows its form -/
structure SV where
  a : Option Addr
  n : Nat
  c : Nat
@[reducible] def SV.v (s : SV) : Value := .slice s.a s.n s.c
def nilS : SV := ⟨none, 0, 0⟩
/-- the address of a cell of a slice's elements -/
def SV.at_ (s : SV) (k : Nat) : Option Addr := s.a.map fun a => ⟨a.block, a.off + k, none⟩
@[reducible] def SV.p (s : SV) (k : Nat) : Value := .pointer (s.at_ k)

/-! ### Facts on types -/
structure TyF (P : Program) (T : TypeId) (agg : Bool) (sz by_ : Nat) (zs : List Value) : Prop where
  agg : ∀ w, (isAgg T).run P w = .ok agg w
  info : ∃ i z, P.info? T = some i ∧ i.zero = some z ∧ z.cells = zs.toArray ∧ i.size = sz ∧ i.bytes = by_
def descAgg : TypeDesc → Bool
  | .struct _ | .array _ _ => true
  | _ => false
theorem TyF.mk' {P : Program} {T : TypeId} {d : TypeDesc} {z : Value} {sz by_ : Nat} {zs : List Value} {agg : Bool} (hu : P.underlying T = some d) (hd : descAgg d = agg)
    (hi : (P.info? T).map (fun i => (i.zero, i.size, i.bytes)) = some (some z, sz, by_)) (hz : z.cells = zs.toArray) : TyF P T agg sz by_ zs := by
  refine ⟨fun w => ?_, ?_⟩
  · unfold isAgg
    rw [Sem.run_bind, run_underlying hu w]
    subst hd
    cases d <;> rfl
  · obtain ⟨i, h1, h2, h3, h4⟩ := info_parts hi
    exact ⟨i, z, h1, h2, hz, h3, h4⟩
theorem TyF.size {P : Program} {T : TypeId} {agg : Bool} {sz by_ : Nat} {zs : List Value} (h : TyF P T agg sz by_ zs) (w : World) : (sizeOf T).run P w = .ok sz w := by
  obtain ⟨i, z, h1, h2, h3, h4, h5⟩ := h.info
  simp [sizeOf, typeInfo, h1, h4]
theorem TyF.zero {P : Program} {T : TypeId} {agg : Bool} {sz by_ : Nat} {zs : List Value} (h : TyF P T agg sz by_ zs) : ∃ z, z.cells = zs.toArray ∧ ∀ w, (zeroValue T).run P w = .ok z w := by
  obtain ⟨i, z, h1, h2, h3, h4, h5⟩ := h.info
  exact ⟨z, h3, fun w => by simp [zeroValue, typeInfo, h1, h2]⟩

/-! ### Operations that leave the world alone -/
def PureOp (P : Program) (N : NN) (o : Oper) (l : Fr) (H : World → Prop) (v : Value) : Prop := ∀ a w, Frm N l a → H w → (execOp a.eval o).run P w = .ok (.value v) w
section
variable {P : Program} {R : Post} {K : List Lay} {N : NN} {l : Fr} {H : World → Prop} {ops : Array Oper} {rest : List Oper} {d ty : Nat} {op : Op} {pos : String} {af : Array Edge} {v : Value}
theorem lp (hd : Nat.blt d N.n = true) (hp : PureOp P N ⟨some d, op, ty, pos, af, none⟩ l H v) (h : LJ P R ops rest K N ((d, v) :: l) H) : LJ P R ops (⟨some d, op, ty, pos, af, none⟩ :: rest) K N l H := by
  intro a w hf hw
  refine wpList_plain rfl fun K' hK => ?_
  unfold Oper.wp
  rw [hp a w hf hw]
  exact hK _ _ (h _ _ (hf.put hd v) hw)
/-- the guard's slot -/
def gslot (ops : List Oper) (j : Nat) : Option Nat := match nth ops j with | some o => o.dst | none => none
theorem wanted_eq {opl : List Oper} {o : Oper} {j e : Nat} {b b' : Bool} {a : Act} (hg : o.guard = some (j, b)) (hs : gslot opl j = some e) (hf : Frm N l a) (hv : look l e = some (.bool b')) (he : Nat.blt e N.n = true) :
    Region.wanted o (yielded opl.toArray a.tmps) = (b' == b) := by
  have he' : e < N.n := Nat.lt_of_succ_le (by simpa [Nat.blt] using he)
  have h1 := hf.vals e _ hv
  have h2 : a.tmps[e]? = some (.bool b') := by
    rw [← hf.size] at he'
    rw [Array.getElem?_eq_getElem he']
    rw [Array.getD_eq_getD_getElem?, Array.getElem?_eq_getElem he'] at h1
    simpa using h1
  unfold gslot at hs
  have h3 : (opl.toArray[j]?).bind (·.dst) = some e := by
    rw [List.getElem?_toArray, ← nth_eq]
    cases h4 : nth opl j with
    | none => rw [h4] at hs; cases hs
    | some o' => rw [h4] at hs; exact hs
  unfold Region.wanted yielded
  rw [hg]
  simp only [h3, Option.bind_some, h2]
  cases b <;> cases b' <;> rfl
theorem wanted_undef {opl : List Oper} {o : Oper} {j e : Nat} {b : Bool} {a : Act} (hg : o.guard = some (j, b)) (hs : gslot opl j = some e) (hf : Frm N l a) (hv : look l e = some undef) (he : Nat.blt e N.n = true) :
    Region.wanted o (yielded opl.toArray a.tmps) = false := by
  have he' : e < N.n := Nat.lt_of_succ_le (by simpa [Nat.blt] using he)
  have h1 := hf.vals e _ hv
  have h2 : a.tmps[e]? = some undef := by
    rw [← hf.size] at he'
    rw [Array.getElem?_eq_getElem he']
    rw [Array.getD_eq_getD_getElem?, Array.getElem?_eq_getElem he'] at h1
    simpa using h1
  unfold gslot at hs
  have h3 : (opl.toArray[j]?).bind (·.dst) = some e := by
    rw [List.getElem?_toArray, ← nth_eq]
    cases h4 : nth opl j with
    | none => rw [h4] at hs; cases hs
    | some o' => rw [h4] at hs; exact hs
  unfold Region.wanted yielded
  rw [hg]
  simp only [h3, Option.bind_some, h2]
  cases b <;> rfl
variable {opl : List Oper} {j e : Nat}
theorem lg (b : Bool) (hs : gslot opl j = some e) (hv : look l e = some (.bool b)) (he : Nat.blt e N.n = true)
    (h : LJ P R opl.toArray (⟨some d, op, ty, pos, af, none⟩ :: rest) K N l H) : LJ P R opl.toArray (⟨some d, op, ty, pos, af, some (j, b)⟩ :: rest) K N l H := by
  intro a w hf hw
  have h1 := h a w hf hw
  have h2 := wanted_eq (o := ⟨some d, op, ty, pos, af, some (j, b)⟩) rfl hs hf hv he
  unfold wpList at h1 ⊢
  rw [if_pos (by rw [h2]; simp)]
  rw [if_pos (by simp [Region.wanted])] at h1
  exact h1
/-- a guard that says no -/
theorem ls (b : Bool) (hs : gslot opl j = some e) (hv : look l e = some (.bool (!b))) (he : Nat.blt e N.n = true) (hd : Nat.blt d N.n = true)
    (h : LJ P R opl.toArray rest K N ((d, undef) :: l) H) : LJ P R opl.toArray (⟨some d, op, ty, pos, af, some (j, b)⟩ :: rest) K N l H := by
  intro a w hf hw
  have h2 := wanted_eq (o := ⟨some d, op, ty, pos, af, some (j, b)⟩) rfl hs hf hv he
  exact wpList_skip (by rw [h2]; cases b <;> rfl) (h _ _ (hf.put hd undef) hw)
theorem lsu {b : Bool} (hs : gslot opl j = some e) (hv : look l e = some undef) (he : Nat.blt e N.n = true) (hd : Nat.blt d N.n = true)
    (h : LJ P R opl.toArray rest K N ((d, undef) :: l) H) : LJ P R opl.toArray (⟨some d, op, ty, pos, af, some (j, b)⟩ :: rest) K N l H := by
  intro a w hf hw
  have h2 := wanted_undef (o := ⟨some d, op, ty, pos, af, some (j, b)⟩) rfl hs hf hv he
  exact wpList_skip h2 (h _ _ (hf.put hd undef) hw)
/-- the ways part at a Bool that stands in a slot -/
theorem lcase {i : Nat} (b : Bool) (hv : look l i = some (.bool b)) (ht : b = true → LJ P R ops rest K N ((i, .bool true) :: l) H) (hf : b = false → LJ P R ops rest K N ((i, .bool false) :: l) H) : LJ P R ops rest K N l H := by
  have key : ∀ b', b = b' → LJ P R ops rest K N ((i, .bool b') :: l) H → LJ P R ops rest K N l H := by
    intro b' e h a w hfr hw
    subst e
    refine h a w ⟨hfr.defers, hfr.size, fun k u hu => ?_⟩ hw
    rw [look_cons] at hu
    by_cases e : i = k
    · subst e; rw [if_pos rfl] at hu; cases hu; exact hfr.vals i _ hv
    · rw [if_neg e] at hu; exact hfr.vals k u hu
  cases hb : b with
  | true => exact key true hb (ht hb)
  | false => exact key false hb (hf hb)
/-- a list of operations is cut: what stands before is shown to end in a state that what stands behind begins in -/
theorem lj_forget {l' : Fr} {H' : World → Prop} (hl : SubF l' l) (hH : ∀ w, H w → H' w) (h : LJ P R ops rest K N l' H') : LJ P R ops rest K N l H := h.sub hl hH
end

/-! ### Plain operations -/
section
variable {P : Program} {N : NN} {l : Fr} {H : World → Prop} {d : Option Nat} {ty : Nat} {pos : String} {af : Array Edge} {g : Option (Nat × Bool)} {x y z : Operand} {v u : Value} {k : IntKind} {m n : Int} {T T' : TypeId} {b c : Bool} {s t : ByteArray}
theorem p_mv (h : ev l x = some v) : PureOp P N ⟨d, .move x, ty, pos, af, g⟩ l H v := fun a w hf _ => by rw [← hf.ev h]; rfl
theorem p_as (h : ev l x = some v) : PureOp P N ⟨d, .assign x, ty, pos, af, g⟩ l H v := fun a w hf _ => by rw [← hf.ev h]; rfl
theorem p_bin {bop : BinOp} (hx : ev l x = some v) (hy : ev l y = some u) {r : Value} (hr : ∀ w, ((do eqGuard bop T x y v u; binOp bop T v u : Sem Value)).run P w = .ok r w) : PureOp P N ⟨d, .binOp bop T x y T', ty, pos, af, g⟩ l H r := fun a w hf _ => by
  simp only [execOp, hf.ev hx, hf.ev hy, Sem.run_bind]
  have := hr w
  simp only [Sem.run_bind] at this
  rw [this]
  rfl
theorem p_add (hx : ev l x = some (.int .i64 m)) (hy : ev l y = some (.int .i64 n)) : PureOp P N ⟨d, .binOp .add T x y T', ty, pos, af, g⟩ l H (.int .i64 (w64 (m + n))) := p_bin hx hy fun w => by simp [go_sem, Op.intArith, w64]
theorem p_sub (hx : ev l x = some (.int .i64 m)) (hy : ev l y = some (.int .i64 n)) : PureOp P N ⟨d, .binOp .sub T x y T', ty, pos, af, g⟩ l H (.int .i64 (w64 (m - n))) := p_bin hx hy fun w => by simp [go_sem, Op.intArith, w64]
theorem p_mul (hx : ev l x = some (.int .i64 m)) (hy : ev l y = some (.int .i64 n)) : PureOp P N ⟨d, .binOp .mul T x y T', ty, pos, af, g⟩ l H (.int .i64 (w64 (m * n))) := p_bin hx hy fun w => by simp [go_sem, Op.intArith, w64]
theorem p_quo (hx : ev l x = some (.int .i64 m)) (hy : ev l y = some (.int .i64 n)) (h : n ≠ 0) : PureOp P N ⟨d, .binOp .quo T x y T', ty, pos, af, g⟩ l H (.int .i64 (w64 (m.tdiv n))) := p_bin hx hy fun w => by simp [go_sem, Op.intDiv, w64, h]
theorem p_rem (hx : ev l x = some (.int .i64 m)) (hy : ev l y = some (.int .i64 n)) (h : n ≠ 0) : PureOp P N ⟨d, .binOp .rem T x y T', ty, pos, af, g⟩ l H (.int .i64 (m.tmod n)) := p_bin hx hy fun w => by simp [go_sem, Op.intDiv, h]
theorem p_lss (hx : ev l x = some (.int k m)) (hy : ev l y = some (.int k n)) : PureOp P N ⟨d, .binOp .lss T x y T', ty, pos, af, g⟩ l H (.bool (decide (m < n))) := p_bin hx hy fun w => by simp [go_sem]
theorem p_leq (hx : ev l x = some (.int k m)) (hy : ev l y = some (.int k n)) : PureOp P N ⟨d, .binOp .leq T x y T', ty, pos, af, g⟩ l H (.bool (decide (m ≤ n))) := p_bin hx hy fun w => by simp [go_sem]
theorem p_gtr (hx : ev l x = some (.int k m)) (hy : ev l y = some (.int k n)) : PureOp P N ⟨d, .binOp .gtr T x y T', ty, pos, af, g⟩ l H (.bool (decide (m > n))) := p_bin hx hy fun w => by simp [go_sem]
theorem p_geq (hx : ev l x = some (.int k m)) (hy : ev l y = some (.int k n)) : PureOp P N ⟨d, .binOp .geq T x y T', ty, pos, af, g⟩ l H (.bool (decide (m ≥ n))) := p_bin hx hy fun w => by simp [go_sem]
theorem p_eql (hx : ev l x = some (.int k m)) (hy : ev l y = some (.int k n)) : PureOp P N ⟨d, .binOp .eql T x y T', ty, pos, af, g⟩ l H (.bool (m == n)) := p_bin hx hy fun w => by simp [go_sem]
theorem p_neq (hx : ev l x = some (.int k m)) (hy : ev l y = some (.int k n)) : PureOp P N ⟨d, .binOp .neq T x y T', ty, pos, af, g⟩ l H (.bool (m != n)) := p_bin hx hy fun w => by simp [go_sem]
theorem p_eqb (hT : P.underlying T = some .bool) (hx : ev l x = some (.bool b)) (hy : ev l y = some (.bool c)) : PureOp P N ⟨d, .binOp .eql T x y T', ty, pos, af, g⟩ l H (.bool (b == c)) := p_bin hx hy fun w => by rw [eqGuard_at_bool]; simp [run_eql_bool w T b c hT]
theorem p_neb (hT : P.underlying T = some .bool) (hx : ev l x = some (.bool b)) (hy : ev l y = some (.bool c)) : PureOp P N ⟨d, .binOp .neq T x y T', ty, pos, af, g⟩ l H (.bool (!(b == c))) := p_bin hx hy fun w => by rw [eqGuard_at_bool]; simp [run_neq_bool w T b c hT]
theorem p_eqs (hx : ev l x = some (.string s)) (hy : ev l y = some (.string t)) : PureOp P N ⟨d, .binOp .eql T x y T', ty, pos, af, g⟩ l H (.bool (s.toList == t.toList)) := p_bin hx hy fun w => by rw [eqGuard_at_string]; simp [binOp, Op.stringOp]
theorem p_nes (hx : ev l x = some (.string s)) (hy : ev l y = some (.string t)) : PureOp P N ⟨d, .binOp .neq T x y T', ty, pos, af, g⟩ l H (.bool (!(s.toList == t.toList))) := p_bin hx hy fun w => by rw [eqGuard_at_string]; simp [binOp, Op.stringOp]
theorem p_lts (hx : ev l x = some (.string s)) (hy : ev l y = some (.string t)) : PureOp P N ⟨d, .binOp .lss T x y T', ty, pos, af, g⟩ l H (.bool (Op.bytesLess s.toList t.toList)) := p_bin hx hy fun w => by rw [eqGuard_at_string]; simp [binOp, Op.stringOp]
theorem p_les (hx : ev l x = some (.string s)) (hy : ev l y = some (.string t)) : PureOp P N ⟨d, .binOp .leq T x y T', ty, pos, af, g⟩ l H (.bool (Op.bytesLess s.toList t.toList || s.toList == t.toList)) := p_bin hx hy fun w => by rw [eqGuard_at_string]; simp [binOp, Op.stringOp]
theorem p_cat (hx : ev l x = some (.string s)) (hy : ev l y = some (.string t)) (h : s.size + t.size ≤ 9223372036854775807) : PureOp P N ⟨d, .binOp .add T x y T', ty, pos, af, g⟩ l H (.string (s ++ t)) := p_bin hx hy fun w => by
  rw [eqGuard_at_string]
  have h' : ¬ (9223372036854775807 : Int) < (s.size : Int) + (t.size : Int) := by omega
  simp [binOp, Op.stringOp, IntKind.max_i64, h']
theorem p_not (hx : ev l x = some (.bool b)) : PureOp P N ⟨d, .unOp .not T x, ty, pos, af, g⟩ l H (.bool (!b)) := fun a w hf _ => by simp [execOp, hf.ev hx, Op.unary]
theorem p_neg (hx : ev l x = some (.int .i64 m)) : PureOp P N ⟨d, .unOp .neg T x, ty, pos, af, g⟩ l H (.int .i64 (w64 (0 - m))) := fun a w hf _ => by simp [execOp, hf.ev hx, Op.unary, Op.intArith, w64]
theorem p_pkt (hx : ev l x = some (.bool true)) (hy : ev l y = some v) : PureOp P N ⟨d, .pick x y z, ty, pos, af, g⟩ l H v := fun a w hf _ => by simp [execOp, hf.ev hx, hf.ev hy, asBool]
theorem p_pkf (hx : ev l x = some (.bool false)) (hy : ev l z = some v) : PureOp P N ⟨d, .pick x y z, ty, pos, af, g⟩ l H v := fun a w hf _ => by simp [execOp, hf.ev hx, hf.ev hy, asBool]
theorem p_nc {a : Addr} (hx : ev l x = some (.pointer (some a))) : PureOp P N ⟨d, .nilCheck x, ty, pos, af, g⟩ l H (.pointer (some a)) := fun a w hf _ => by simp [execOp, hf.ev hx]
theorem p_ncs {sv : SV} {k : Nat} (hx : ev l x = some (sv.p k)) (ha : sv.a.isSome = true) : PureOp P N ⟨d, .nilCheck x, ty, pos, af, g⟩ l H (sv.p k) := fun a w hf _ => by
  obtain ⟨q, hq⟩ := Option.isSome_iff_exists.1 ha
  simp [execOp, hf.ev hx, SV.p, SV.at_, hq]
theorem p_ext {vs : List Value} {i : Nat} (hx : ev l x = some (.tuple vs.toArray)) (hi : nth vs i = some v) : PureOp P N ⟨d, .extract x i, ty, pos, af, g⟩ l H v := fun a w hf _ => by
  rw [nth_eq] at hi
  simp [execOp, hf.ev hx, Instr.extract, hi]
theorem p_fn {fn : Fn} {cap : List Operand} {cv : List Value} (hc : cap.mapM (ev l) = some cv) : PureOp P N ⟨d, .makeFunc fn #[] cap.toArray, ty, pos, af, g⟩ l H (.func fn #[] cv.toArray) := fun a w hf _ => by
  have : cap.map a.eval = cv := by
    induction cap generalizing cv with
    | nil => simpa using hc
    | cons q cap ih =>
      simp only [List.mapM_cons, Option.bind_eq_bind, Option.bind_eq_some_iff, Option.pure_def, Option.some.injEq] at hc
      obtain ⟨u, hu, us, hus, rfl⟩ := hc
      simp [hf.ev hu, ih hus]
  simp [execOp, Instr.makeFunc, this]
theorem p_max (hx : ev l x = some (.int k m)) (hy : ev l y = some (.int k n)) {ats : Array TypeId} : PureOp P N ⟨d, .call { callee := .builtin .max, args := #[x, y], argTypes := ats }, ty, pos, af, g⟩ l H (.int k (max m n)) := fun a w hf _ => by
  have : (if n > m then n else m) = max m n := by rw [Int.max_def]; split <;> split <;> omega
  simp [execOp, resolve, invoke, builtin, hf.ev hx, hf.ev hy, run_max_int2, this]
theorem p_min (hx : ev l x = some (.int k m)) (hy : ev l y = some (.int k n)) {ats : Array TypeId} : PureOp P N ⟨d, .call { callee := .builtin .min, args := #[x, y], argTypes := ats }, ty, pos, af, g⟩ l H (.int k (min m n)) := fun a w hf _ => by
  have : (if n < m then n else m) = min m n := by rw [Int.min_def]; split <;> split <;> omega
  simp [execOp, resolve, invoke, builtin, hf.ev hx, hf.ev hy, run_min_int2, this]
theorem p_lens {T : TypeId} (hT : P.underlying T = some .string) (hx : ev l x = some (.string s)) : PureOp P N ⟨d, .call { callee := .builtin .len, args := #[x], argTypes := #[T] }, ty, pos, af, g⟩ l H (.int .i64 s.size) := fun a w hf _ => by
  simp [execOp, resolve, invoke, builtin, hf.ev hx, Builtin.len_, run_underlying hT, goInt]
end
end Go.J
