/- JB: the rules (J17..J42), in one text. No program in sight. -/
import Derived.Test.YtmocokkjfgfkbacGreatDoorJA
import Derived.RangeFuncRecord
import Derived.RangeFuncIn
import Derived.Lib.AppendStr
import Derived.Lib.UnsafeStr
import Derived.Lib.Builder
import Derived.MapKept
import Derived.Lib.Bytealg
import Derived.Lib.SlicesCompact
import Derived.Lib.AppendZeros
import Derived.Laws.MakeOwn
/- J17: conversions; an error held against nil. No program in sight. -/
namespace Go.J
open Go Go.RowKit
section
variable {P : Program} {N : NN} {l : Fr} {H : World → Prop} {dd : Option Nat} {ty : Nat} {pos : String} {af : Array Edge} {g : Option (Nat × Bool)} {x : Operand} {T T' : TypeId} {m : Int} {k k' : IntKind} {dS : TypeDesc}
theorem p_cvi (hS : P.underlying T = some dS) (hT : P.underlying T' = some (.int k)) (hx : ev l x = some (.int k' m)) : PureOp P N ⟨dd, .convert T T' x, ty, pos, af, g⟩ l H (.int k (k.wrap m)) := fun a w hf _ => by
  simp [execOp, hf.ev hx, convert, run_underlying hS, run_underlying hT, Conv.intToInt]
end
end Go.J

/- J18: code in a round of a range over a function; functions that leave with a mark. No program in sight. -/
namespace Go.J
open Go Go.RowKit

/-! ### code that does the same in a round -/
def noDefer (o : Oper) : Bool := match o.op with | .defer _ => false | _ => true
def rcode : Code → Bool
  | .seq x y => rcode x && rcode y
  | .region _ ops _ => ops.toList.all noDefer
  | .cond _ x y => rcode x && rcode y
  | .block _ c => rcode c
  | .loop c => rcode c
  | .exit _ | .ret | .skip => true
  | _ => false
/-! ### a block that holds no cells -/
def oneO (b : Nat) (o : Obj) : OW := ⟨[b], fun w => w.heap[b]? = some o, fun h hk => (h b (by simp)).trans hk, fun h k hk => by simp at hk; subst hk; exact (Array.getElem?_eq_some_iff.1 h).1⟩
section
variable {w0 w : World} {M : List Nat} {A : Nat → Prop} {es : List Ent} {b k : Nat} {o o' : Obj}
theorem Sat.allocO (h : Sat w0 M A es w) (o : Obj) : Sat w0 M A (.obj (oneO w.heap.size o) :: es) (w.alloc o) := by
  have := h.step (w' := w.alloc o) [] (by simp) ⟨rfl, rfl, rfl, by simp, fun b hb _ => Below.heap_alloc w _ b hb⟩ es [.obj (oneO w.heap.size o)] (List.Sublist.refl _) (by simp)
    (by simp [keys, Ent.kl, oneO]) (by intro k hk; simp [keys, Ent.kl, oneO] at hk; subst hk; exact ⟨by simp, .inl (Nat.le_refl _)⟩)
    (by intro e he; simp at he; subst he; exact Go.heap_alloc_new w _) (by intro e he; simp at he; subst he; intros; trivial)
  exact this.perm List.perm_append_comm
theorem Sat.objAt (h : Sat w0 M A es w) {q : OW} (hk : nth es k = some (.obj q)) : q.ok w := h.okx _ (nth_mem hk)
end

/-! ### functions that leave with a mark -/
def markOf (D : Nat) : Deferred := { target := .collected D, args := #[] }
def defO (D : Nat) : OW := oneO D (.deferred (some []))
/-- what the body of such a function must achieve -/
def markPost (P : Program) (fn : Func) (R : Ending → World → Prop) : Post := fun e a w => match e with
  | .normal | .ret => LeavesInM Fence.wide 0 P fn a.tmps R a.defers .returning w
  | _ => False
instance {P : Program} {fn : Func} {R : Ending → World → Prop} : PanicOk (markPost P fn R) := ⟨fun _ _ _ _ _ h => h⟩
section
variable {P : Program} {K : List Lay} {l : Fr} {w0 : World} {M : List Nat} {A : Nat → Prop} {es r : List Ent} {rs : List ResultVar} {vs : List Value} {fn : Func} {X : Type} {V : X → Value} {post : X → List Ent}
end
end Go.J

/- J19: 'for i, x := range slices.Backward(s)'. No program in sight. -/
namespace Go.J
open Go Go.RowKit
/-- the model of the loop -/
def rangeB {α σ ρ : Type} (step : Nat → α → σ → Option (Flow σ ρ)) (xs : List α) (s : σ) : Option (Flow σ ρ) := rangeM (fun j x s => step (xs.length - 1 - j) x s) 0 xs.reverse s
/-- the library's closure -/
def backCode (TS TE TF TI TB : Nat) (p q : String) : Code :=
  .seq (.region 0 #[⟨some 4, .load TS (.tmp 1), TS, p, #[], none⟩, ⟨some 5, .call { callee := .builtin .len, args := #[.tmp 4], argTypes := #[TS] }, TI, p, #[⟨0, .data⟩], none⟩,
      ⟨some 6, .binOp .sub TI (.tmp 5) (.const (.int .i64 1)) TI, TI, p, #[⟨1, .data⟩], none⟩, ⟨some 3, .assign (.tmp 6), TI, p, #[⟨2, .data⟩, ⟨0, .phase⟩, ⟨1, .phase⟩, ⟨2, .phase⟩], none⟩] false)
    (.block 0 (.loop (.seq (.seq (.region 1 #[⟨some 7, .move (.tmp 3), TI, p, #[], none⟩, ⟨some 8, .binOp .geq TI (.tmp 7) (.const (.int .i64 0)) TI, TB, p, #[⟨0, .data⟩], none⟩] false) (.cond (.tmp 8) .skip (.exit 0)))
      (.seq (.block 1 (.seq (.region 3 #[⟨some 11, .move (.tmp 0), TF, q, #[], none⟩, ⟨some 12, .move (.tmp 3), TI, q, #[], none⟩, ⟨some 13, .load TS (.tmp 1), TS, q, #[], none⟩, ⟨some 14, .move (.tmp 3), TI, q, #[], none⟩,
          ⟨some 15, .indexAddr TS (.tmp 13) (.tmp 14), 0, q, #[⟨2, .data⟩, ⟨3, .data⟩], none⟩, ⟨some 16, .load TE (.tmp 15), TE, q, #[⟨4, .data⟩], none⟩,
          ⟨some 17, .call { callee := .value (.tmp 11), args := #[.tmp 12, .tmp 16], argTypes := #[TI, TE] }, TB, q, #[⟨0, .data⟩, ⟨1, .data⟩, ⟨5, .data⟩], none⟩, ⟨some 18, .unOp .not TB (.tmp 17), TB, q, #[⟨6, .data⟩], none⟩] false) (.cond (.tmp 18) .ret .skip)))
        (.region 2 #[⟨some 9, .move (.tmp 3), TI, p, #[], none⟩, ⟨some 10, .binOp .sub TI (.tmp 9) (.const (.int .i64 1)) TI, TI, p, #[⟨0, .data⟩], none⟩,
          ⟨some 3, .assign (.tmp 10), TI, p, #[⟨1, .data⟩, ⟨0, .phase⟩, ⟨1, .phase⟩], none⟩] false)))))
section
variable {P : Program} {N : NN} {l : Fr} {H : World → Prop} {Q : Post} {a : Act} {w : World} {ops : Array Oper}
end
section
variable {P : Program} {w0 : World} {M : List Nat} {A : Nat → Prop} {α σ γ ρ : Type} {R : Rep α} {xs : List α} {sv : SV} {fn : Func} {kb bx TS TE TF TI TB by_ by2 : Nat} {p q : String} {zs zs2 : List Value}
end
end Go.J

/- J20: strings.Builder: what it holds as an entry of ours; append of a string; a string over bytes. No program in sight. -/
namespace Go.J
open Go Go.RowKit
set_option linter.unusedSimpArgs false
/-- bytes in memory -/
def RB (T : TypeId) : Rep UInt8 := ⟨T, 1, 1, fun u => [.int .u8 u.toNat], fun _ => rfl, fun x u hu => by simp only [List.mem_singleton] at hu; subst hu; rfl, by decide⟩
/-- a builder in block b: its bytes are l, s is the header of their row -/
def bldO (Tb T8 : TypeId) (b : Nat) (s : SV) (l : List UInt8) : OW := {
  ks := b :: s.v.ownBlock.toList
  ok := fun w => (b :: s.v.ownBlock.toList).Nodup ∧ (∃ q, (q = none ∨ q = some ⟨b, 0, none⟩) ∧ w.heap[b]? = some (.cells [.pointer q, s.v].toArray Tb (0, 0))) ∧ w.ownsRow 0 T8 1 s.v l.length ((RB T8).cells l) ∧ (l = [] → s = nilS) ∧ (l ≠ [] → s.a ≠ none)
  stay := fun {w w'} h hk => by
    refine ⟨hk.1, ?_, ?_, hk.2.2.2⟩
    · obtain ⟨q, h1, h2⟩ := hk.2.1
      exact ⟨q, h1, (h b (List.mem_cons_self ..)).trans h2⟩
    · exact Ent.okx_of_block (e := .row (RB T8) s.v l) (w := w) hk.2.2.1 (fun k hk => h k (List.mem_cons_of_mem _ hk))
  lt := fun {w} hk k hkm => by
    rcases List.mem_cons.1 hkm with rfl | h
    · obtain ⟨q, -, h2⟩ := hk.2.1
      exact (Array.getElem?_eq_some_iff.1 h2).1
    · exact Ent.okx_lt (e := .row (RB T8) s.v l) (w := w) hk.2.2.1 h }
section
variable {w0 w : World} {M : List Nat} {A : Nat → Prop} {es : List Ent} {Tb T8 b : Nat} {s : SV} {l : List UInt8}
theorem Sat.cast1 {fs : List Ent} {e : Ent} (h : Sat w0 M A (fs ++ es) w) (hk : keys fs = e.kl) (hok : e.okx w) (hro : ∀ F, e ≠ .ro F) : Sat w0 M A (e :: es) w := by
  have hkk : keys (e :: es) = keys (fs ++ es) := by rw [keys_append, keys_cons, hk]
  refine ⟨h.chg, h.dis, by rw [hkk]; exact h.nodup, fun k hm => h.fresh k (by rw [← hkk]; exact hm), fun f hf => ?_, fun f hf => ?_⟩
  · rcases List.mem_cons.1 hf with h1 | h1
    · subst h1; exact hok
    · exact h.okx f (List.mem_append_right _ h1)
  · rcases List.mem_cons.1 hf with h1 | h1
    · subst h1
      cases f with
      | ro F => exact (hro F rfl).elim
      | box b T cs => trivial
      | row R v xs => trivial
      | obj o => trivial
    · rw [hkk]; exact h.okr f (List.mem_append_right _ h1)
end
section
variable {P : Program} {Rp : Post} {K : List Lay} {N : NN} {l : Fr} {ops : Array Oper} {rest : List Oper} {d : Nat} {dd : Option Nat} {ty : Nat} {pos : String} {af : Array Edge} {g : Option (Nat × Bool)} {x y : Operand} {T T' T8 Tb b : TypeId} {c : Code}
variable {w0 : World} {M : List Nat} {A : Nat → Prop} {es : List Ent} {s : SV} {bs : List UInt8} {t : ByteArray} {k : Nat} {zs : List Value}
end
end Go.J

/- J21: pointers against nil, against themselves, through unsafe.Pointer; a call that the model answers itself. No program in sight. -/
namespace Go.J
open Go Go.RowKit
section
variable {P : Program} {Rp : Post} {K : List Lay} {N : NN} {l : Fr} {ops : Array Oper} {rest : List Oper} {d : Nat} {dd : Option Nat} {ty : Nat} {pos : String} {af : Array Edge} {g : Option (Nat × Bool)} {x y : Operand} {T T' Te Tb : TypeId}
variable {w0 : World} {M : List Nat} {A : Nat → Prop} {es : List Ent} {H : World → Prop} {k b : Nat} {cs : List Value}
end
end Go.J

/- J22: maps of plain things: a block of ours that holds a map; look, put, entry and store, delete, length. No program in sight. -/
namespace Go.J
open Go Go.RowKit
set_option linter.unusedSimpArgs false
set_option linter.unusedSectionVars false
/-! ### the plain side: a map is its entries, in the order in which they came -/
section
variable {K V V' : Type} [DecidableEq K]
def lkM (l : List (K × V)) (k : K) : Option V := (l.find? fun p => decide (p.1 = k)).map (·.2)
def hasM (l : List (K × V)) (k : K) : Bool := l.any fun p => decide (p.1 = k)
def putM (l : List (K × V)) (k : K) (v : V) : List (K × V) := if hasM l k then l.map (fun p => if p.1 = k then (k, v) else p) else l ++ [(k, v)]
def delM (l : List (K × V)) (k : K) : List (K × V) := l.filter fun p => !decide (p.1 = k)
def mpV (f : V → V') (l : List (K × V)) : List (K × V') := l.map fun p => (p.1, f p.2)
theorem lkM_map (f : V → V') (l : List (K × V)) (k : K) : lkM (mpV f l) k = (lkM l k).map f := by
  unfold lkM mpV
  induction l with
  | nil => rfl
  | cons p l ih =>
    simp only [List.map_cons, List.find?_cons]
    cases decide (p.1 = k)
    · exact ih
    · rfl
theorem hasM_map (f : V → V') (l : List (K × V)) (k : K) : hasM (mpV f l) k = hasM l k := by
  unfold hasM mpV
  rw [List.any_map]; rfl
theorem putM_map (f : V → V') (l : List (K × V)) (k : K) (v : V) : putM (mpV f l) k (f v) = mpV f (putM l k v) := by
  unfold putM
  rw [hasM_map]
  split
  · simp only [mpV, List.map_map]
    refine List.map_congr_left fun p _ => ?_
    simp only [Function.comp]
    by_cases h : p.1 = k <;> simp [h]
  · simp [mpV]
theorem hasM_iff (l : List (K × V)) (k : K) : hasM l k = true ↔ k ∈ l.map Prod.fst := by
  unfold hasM
  simp only [List.any_eq_true, decide_eq_true_eq, List.mem_map]
theorem lkM_some {l : List (K × V)} {k : K} {v : V} (hn : (l.map Prod.fst).Nodup) (i : Nat) (h : l[i]? = some (k, v)) : lkM l k = some v := by
  induction l generalizing i with
  | nil => cases h
  | cons p l ih =>
    simp only [List.map_cons, List.nodup_cons] at hn
    cases i with
    | zero => simp at h; subst h; simp [lkM]
    | succ i =>
      have h' : l[i]? = some (k, v) := by simpa using h
      have hne : p.1 ≠ k := fun e => hn.1 (by rw [e]; exact List.mem_map.2 ⟨(k, v), List.mem_of_getElem? h', rfl⟩)
      have := ih hn.2 i h'
      unfold lkM at this ⊢
      rw [List.find?_cons, decide_eq_false hne]
      exact this
theorem lkM_none {l : List (K × V)} {k : K} (h : ∀ p ∈ l, p.1 ≠ k) : lkM l k = none := by
  unfold lkM
  rw [List.find?_eq_none.2 (fun p hp => by simpa using h p hp)]; rfl
theorem hasM_none {l : List (K × V)} {k : K} (h : ∀ p ∈ l, p.1 ≠ k) : hasM l k = false := by
  unfold hasM
  rw [List.any_eq_false]
  exact fun p hp => by simpa using h p hp
theorem putM_at {l : List (K × V)} {k : K} {v u : V} (hn : (l.map Prod.fst).Nodup) (i : Nat) (h : l[i]? = some (k, u)) : putM l k v = l.set i (k, v) := by
  have hh : hasM l k = true := (hasM_iff l k).2 (List.mem_map.2 ⟨(k, u), List.mem_of_getElem? h, rfl⟩)
  unfold putM
  rw [if_pos hh]
  refine List.ext_getElem? fun j => ?_
  rw [List.getElem?_map, List.getElem?_set]
  by_cases hij : i = j
  · subst hij
    have hi := (List.getElem?_eq_some_iff.1 h).1
    rw [h]; simp [hi]
  · rw [if_neg hij]
    cases hj : l[j]? with
    | none => rfl
    | some p =>
      have hne : p.1 ≠ k := fun e => hij (by
        have hi := (List.getElem?_eq_some_iff.1 h)
        have hj := (List.getElem?_eq_some_iff.1 hj)
        have h1 : (l.map Prod.fst)[i]'(by simpa using hi.1) = (l.map Prod.fst)[j]'(by simpa using hj.1) := by
          simp only [List.getElem_map]
          rw [hi.2, hj.2]
          exact e.symm
        exact (List.getElem_inj hn).1 h1)
      simp [hne]
theorem putM_new {l : List (K × V)} {k : K} {v : V} (h : ∀ p ∈ l, p.1 ≠ k) : putM l k v = l ++ [(k, v)] := by
  unfold putM
  rw [if_neg (by rw [hasM_none h]; simp)]
end
/-! ### keys -/
structure KeyF (P : Program) (T : TypeId) {K : Type} [DecidableEq K] (kv : K → Value) : Prop where
  chk : ∀ em k w, (Instr.checkKey em 10000 T (kv k)).run P w = .ok () w
  eq : ∀ x y w, (Op.equal T (kv x) (kv y)).run P w = .ok (decide (x = y)) w
  now : ∃ d, P.underlying T = some d ∧ ((∀ x y, Instr.sameNow d (kv x) (kv y) = some (decide (x = y))) ∨ ∀ x y, Instr.sameNow d (kv x) (kv y) = none)
  same : ∀ k, Instr.sameBits 10000 (kv k) (kv k) = true
section
variable {P : Program} {T : TypeId} {K : Type} [DecidableEq K] {kv : K → Value}
def EL (kv : K → Value) (es : List MapEntry) (l : List (K × Value)) : Prop := es.map (fun e => (e.key, e.val)) = l.map fun p => (kv p.1, p.2)
theorem findNow_some {d : TypeDesc} (h : ∀ x y, Instr.sameNow d (kv x) (kv y) = some (decide (x = y))) (k : K) : ∀ (l : List (K × Value)) (es : List MapEntry) (n : Nat), EL kv es l →
    (∃ i v, Instr.findNow d (kv k) es n = some (some (n + i, v)) ∧ l[i]? = some (k, v)) ∨ (Instr.findNow d (kv k) es n = some none ∧ ∀ p ∈ l, p.1 ≠ k) := by
  intro l
  induction l with
  | nil => intro es n he; right; cases es with
    | nil => exact ⟨rfl, fun p hp => by cases hp⟩
    | cons e es => simp [EL] at he
  | cons p l ih =>
    intro es n he
    cases es with
    | nil => simp [EL] at he
    | cons e es =>
      simp only [EL, List.map_cons, List.cons.injEq, Prod.mk.injEq] at he
      obtain ⟨⟨h1, h2⟩, h3⟩ := he
      simp only [Instr.findNow, h1, h]
      by_cases hk : k = p.1
      · left
        rw [decide_eq_true hk]
        exact ⟨0, e.val, rfl, by rw [hk, h2]; rfl⟩
      · rw [decide_eq_false hk]
        rcases ih es (n + 1) h3 with ⟨i, v, a, b⟩ | ⟨a, b⟩
        · left; exact ⟨i + 1, v, by show Instr.findNow d (kv k) es (n + 1) = _; rw [a, Nat.add_assoc, Nat.add_comm 1], by simpa using b⟩
        · right; exact ⟨a, fun q hq => by
            rcases List.mem_cons.1 hq with rfl | hq
            · exact fun e => hk e.symm
            · exact b q hq⟩
theorem findAsk_some (h : ∀ x y w, (Op.equal T (kv x) (kv y)).run P w = .ok (decide (x = y)) w) (k : K) (w : World) : ∀ (l : List (K × Value)) (es : List MapEntry) (n : Nat), EL kv es l →
    (∃ i v, (Instr.findAsking T (kv k) es n).run P w = .ok (some (n + i, v)) w ∧ l[i]? = some (k, v)) ∨ ((Instr.findAsking T (kv k) es n).run P w = .ok none w ∧ ∀ p ∈ l, p.1 ≠ k) := by
  intro l
  induction l with
  | nil => intro es n he; right; cases es with
    | nil => exact ⟨by simp [Instr.findAsking], fun p hp => by cases hp⟩
    | cons e es => simp [EL] at he
  | cons p l ih =>
    intro es n he
    cases es with
    | nil => simp [EL] at he
    | cons e es =>
      simp only [EL, List.map_cons, List.cons.injEq, Prod.mk.injEq] at he
      obtain ⟨⟨h1, h2⟩, h3⟩ := he
      by_cases hk : k = p.1
      · left
        refine ⟨0, e.val, ?_, by rw [hk, h2]; rfl⟩
        simp [Instr.findAsking, h1, h, hk]
      · rcases ih es (n + 1) h3 with ⟨i, v, a, b⟩ | ⟨a, b⟩
        · left; exact ⟨i + 1, v, by simp [Instr.findAsking, h1, h, hk, a, Nat.add_assoc, Nat.add_comm 1], by simpa using b⟩
        · right; exact ⟨by simp [Instr.findAsking, h1, h, hk, a], fun q hq => by
            rcases List.mem_cons.1 hq with rfl | hq
            · exact fun e => hk e.symm
            · exact b q hq⟩
theorem findNow_none {d : TypeDesc} (h : ∀ x y, Instr.sameNow d (kv x) (kv y) = none) (k : K) (l : List (K × Value)) (es : List MapEntry) (he : EL kv es l) : Instr.findNow d (kv k) es 0 = none ∨ (es = [] ∧ l = []) := by
  cases l with
  | nil => cases es with
    | nil => exact .inr ⟨rfl, rfl⟩
    | cons e es => simp [EL] at he
  | cons p l => cases es with
    | nil => simp [EL] at he
    | cons e es =>
      simp only [EL, List.map_cons, List.cons.injEq, Prod.mk.injEq] at he
      left
      simp [Instr.findNow, he.1.1, h]
theorem KeyF.find (hK : KeyF P T kv) (k : K) (w : World) (l : List (K × Value)) (es : List MapEntry) (he : EL kv es l) :
    (∃ i v, (Instr.findKey T (kv k) es).run P w = .ok (some (i, v)) w ∧ l[i]? = some (k, v)) ∨ ((Instr.findKey T (kv k) es).run P w = .ok none w ∧ ∀ p ∈ l, p.1 ≠ k) := by
  obtain ⟨d, hd, h | h⟩ := hK.now
  · rcases findNow_some h k l es 0 he with ⟨i, v, a, b⟩ | ⟨a, b⟩
    · left; exact ⟨i, v, by simp [Instr.findKey, run_underlying hd, a], b⟩
    · right; exact ⟨by simp [Instr.findKey, run_underlying hd, a], b⟩
  · rcases findNow_none h k l es he with a | ⟨rfl, rfl⟩
    · rcases findAsk_some hK.eq k w l es 0 he with ⟨i, v, c, b⟩ | ⟨c, b⟩
      · left; exact ⟨i, v, by simp [Instr.findKey, run_underlying hd, a, c], b⟩
      · right; exact ⟨by simp [Instr.findKey, run_underlying hd, a, c], b⟩
    · right; exact ⟨by simp [Instr.findKey, run_underlying hd, Instr.findNow], fun p hp => by cases hp⟩
end
/-! ### a map in a block of ours -/
section
variable {K : Type} [DecidableEq K]
structure MapAt (kv : K → Value) (b : Nat) (l : List (K × Value)) (es : Array MapEntry) (clock : Nat) (w : World) : Prop where
  heap : w.heap[b]? = some (.map es clock)
  el : EL kv es.toList l
  nd : (l.map Prod.fst).Nodup
  born : ∀ e ∈ es.toList, e.born < clock
  bnd : (es.toList.map (·.born)).Nodup
def mapO (kv : K → Value) (b : Nat) (l : List (K × Value)) (es : Array MapEntry) (clock : Nat) : OW := {
  ks := [b]
  ok := MapAt kv b l es clock
  stay := fun {w w'} h m => ⟨(h b (List.mem_singleton.2 rfl)).trans m.heap, m.el, m.nd, m.born, m.bnd⟩
  lt := fun {w} m k hkm => by
    rw [List.mem_singleton.1 hkm]
    exact (Array.getElem?_eq_some_iff.1 m.heap).1 }
/-- which entry was born as the n-th -/
def BornAt (l : List (K × Value)) (es : Array MapEntry) (k : K) (n : Nat) : Prop := ∃ (i : Nat) (e : MapEntry), es.toList[i]? = some e ∧ e.born = n ∧ ∃ v, l[i]? = some (k, v)
theorem EL.len {kv : K → Value} {es : List MapEntry} {l : List (K × Value)} (h : EL kv es l) : es.length = l.length := by
  have := congrArg List.length h
  simpa using this
theorem EL.set {kv : K → Value} {es : List MapEntry} {l : List (K × Value)} (h : EL kv es l) (i : Nat) (k : K) (v : Value) (f : MapEntry → MapEntry) (hf : ∀ e, es[i]? = some e → (f e).key = kv k ∧ (f e).val = v) :
    EL kv (es.modify i f) (l.set i (k, v)) := by
  unfold EL at h ⊢
  refine List.ext_getElem? fun j => ?_
  have hj := congrArg (·[j]?) h
  simp only [List.getElem?_map] at hj ⊢
  rw [List.getElem?_modify, List.getElem?_set]
  by_cases hij : i = j
  · subst hij
    rw [if_pos rfl]
    cases he : es[i]? with
    | none =>
      have : ¬ i < l.length := by
        rw [← EL.len h]
        exact fun hlt => by rw [List.getElem?_eq_getElem hlt] at he; cases he
      simp [this]
    | some e =>
      have : i < l.length := by
        rw [← EL.len h]
        exact (List.getElem?_eq_some_iff.1 he).1
      have h1 := hf e he
      simp [this, h1.1, h1.2]
  · rw [if_neg hij]
    simp only [if_neg hij]
    simpa using hj
theorem EL.push {kv : K → Value} {es : List MapEntry} {l : List (K × Value)} (h : EL kv es l) (k : K) (v : Value) (e : MapEntry) (h1 : e.key = kv k) (h2 : e.val = v) : EL kv (es ++ [e]) (l ++ [(k, v)]) := by
  unfold EL at h ⊢
  rw [List.map_append, List.map_append, h]
  simp [h1, h2]
theorem mod_born (es : List MapEntry) (i : Nat) (f : MapEntry → MapEntry) (hf : ∀ e, (f e).born = e.born) : (es.modify i f).map (·.born) = es.map (·.born) := by
  refine List.ext_getElem? fun j => ?_
  simp only [List.getElem?_map, List.getElem?_modify]
  by_cases hij : i = j
  · subst hij; cases es[i]? <;> simp [hf]
  · simp only [if_neg hij]; cases es[j]? <;> rfl
theorem MapAt.put {kv : K → Value} {b : Nat} {l : List (K × Value)} {es : Array MapEntry} {clock : Nat} {w w' : World} (m : MapAt kv b l es clock w) {i : Nat} {k : K} {v u : Value} (hi : l[i]? = some (k, u)) (f : MapEntry → MapEntry)
    (hf : ∀ e, es[i]? = some e → (f e).key = kv k ∧ (f e).val = v) (hb : ∀ e, (f e).born = e.born) (hw : w'.heap[b]? = some (.map (es.modify i f) clock)) : MapAt kv b (l.set i (k, v)) (es.modify i f) clock w' := by
  have hbm := mod_born es.toList i f hb
  refine ⟨hw, ?_, ?_, ?_, ?_⟩
  · rw [Array.toList_modify]
    exact m.el.set i k v f fun e he => hf e (by simpa using he)
  · have : (l.set i (k, v)).map Prod.fst = l.map Prod.fst := by
      rw [List.map_set]
      have h2 := List.getElem?_eq_some_iff.1 hi
      have h3 : k = (l.map Prod.fst)[i]'(by simpa using h2.1) := by simp [h2.2]
      show (l.map Prod.fst).set i k = _
      conv => lhs; rw [h3]
      rw [List.set_getElem_self]
    rw [this]; exact m.nd
  · rw [Array.toList_modify]
    intro e he
    have : e.born ∈ (es.toList.modify i f).map (·.born) := List.mem_map_of_mem he
    rw [hbm] at this
    obtain ⟨e', he', h⟩ := List.mem_map.1 this
    rw [← h]; exact m.born e' he'
  · rw [Array.toList_modify, hbm]; exact m.bnd
theorem MapAt.push {kv : K → Value} {b : Nat} {l : List (K × Value)} {es : Array MapEntry} {clock : Nat} {w w' : World} (m : MapAt kv b l es clock w) {k : K} {v : Value} (hk : ∀ p ∈ l, p.1 ≠ k) (hw : w'.heap[b]? = some (.map (es.push ⟨kv k, v, clock⟩) (clock + 1))) :
    MapAt kv b (l ++ [(k, v)]) (es.push ⟨kv k, v, clock⟩) (clock + 1) w' := by
  refine ⟨hw, ?_, ?_, ?_, ?_⟩
  · rw [Array.toList_push]; exact m.el.push k v _ rfl rfl
  · rw [List.map_append, List.nodup_append]
    refine ⟨m.nd, by simp, fun a ha c hc => ?_⟩
    simp at hc; subst hc
    obtain ⟨p, hp, rfl⟩ := List.mem_map.1 ha
    exact hk p hp
  · rw [Array.toList_push]
    intro e he
    rcases List.mem_append.1 he with h | h
    · have := m.born e h; omega
    · simp at h; subst h; simp
  · rw [Array.toList_push, List.map_append, List.nodup_append]
    refine ⟨m.bnd, by simp, fun a ha c hc => ?_⟩
    simp at hc; subst hc
    obtain ⟨e, he, rfl⟩ := List.mem_map.1 ha
    have := m.born e he
    omega
end
end Go.J

/- J23: what the program does with a map of ours. No program in sight. -/
namespace Go.J
open Go Go.RowKit
set_option linter.unusedSimpArgs false
set_option linter.unusedSectionVars false
section
variable {P : Program} {K : Type} [DecidableEq K] {kv : K → Value} {b : Nat} {l : List (K × Value)} {es : Array MapEntry} {clock : Nat} {w : World} {T E Tk : TypeId} {k : K} {z v : Value}
theorem MapAt.entry (m : MapAt kv b l es clock w) {i : Nat} {u : Value} (h : l[i]? = some (k, u)) : ∃ e, es.toList[i]? = some e ∧ e.key = kv k ∧ e.val = u := by
  have hj := congrArg (·[i]?) m.el
  simp only [List.getElem?_map, h] at hj
  cases he : es.toList[i]? with
  | none => rw [he] at hj; cases hj
  | some e =>
    rw [he] at hj
    simp at hj
    exact ⟨e, rfl, hj.1, hj.2⟩
theorem run_lookup_own (hT : P.underlying T = some (.map Tk E)) (hK : KeyF P Tk kv) (hz : ∀ w, (zeroValue E).run P w = .ok z w) (m : MapAt kv b l es clock w) (c : Bool) :
    (Instr.lookup T (.map (some b)) (kv k) c).run P w = .ok (if c then .tuple #[(lkM l k).getD z, .bool (hasM l k)] else (lkM l k).getD z) w := by
  rcases hK.find k w l es.toList m.el with ⟨i, v, h1, h2⟩ | ⟨h1, h2⟩
  · have h3 := lkM_some m.nd i h2
    have h4 : hasM l k = true := (hasM_iff l k).2 (List.mem_map.2 ⟨(k, v), List.mem_of_getElem? h2, rfl⟩)
    cases c <;> simp [Instr.lookup, run_underlying hT, MapKept.run_getObj_map m.heap, hK.chk, h1, h3, h4]
  · have h3 := lkM_none h2
    have h4 := hasM_none h2
    cases c <;> simp [Instr.lookup, run_underlying hT, MapKept.run_getObj_map m.heap, hK.chk, h1, h3, h4, hz]
theorem keyStays (hK : KeyF P Tk kv) (k : K) (w : World) : (Instr.keyThatStays (kv k) (kv k)).run P w = .ok (kv k) w := by
  simp [Instr.keyThatStays, hK.same k]
theorem run_mapUpdate_own (hT : P.underlying T = some (.map Tk E)) (hK : KeyF P Tk kv) (m : MapAt kv b l es clock w) : ∃ es' clock', (Instr.mapUpdate T (.map (some b)) (kv k) v).run P w = .ok () (w.putObj b (.map es' clock')) ∧ MapAt kv b (putM l k v) es' clock' (w.putObj b (.map es' clock')) := by
  have hlt := (Array.getElem?_eq_some_iff.1 m.heap).1
  have hput : ∀ o : Obj, (setObj b o).run P w = .ok () (w.putObj b o) := fun o => by rw [MapKept.run_setObj_map o m.heap]; rfl
  rcases hK.find k w l es.toList m.el with ⟨i, u, h1, h2⟩ | ⟨h1, h2⟩
  · obtain ⟨e, he, hk, hv⟩ := m.entry h2
    have he' : es[i]? = some e := by simpa using he
    refine ⟨es.modify i fun e => { e with key := kv k, val := v }, clock, ?_, ?_⟩
    · simp [Instr.mapUpdate, run_underlying hT, MapKept.run_getObj_map m.heap, hK.chk, h1, he', hk, keyStays hK, hput]
    · rw [putM_at m.nd i h2]
      exact m.put h2 _ (fun e _ => ⟨rfl, rfl⟩) (fun _ => rfl) (World.putObj_heap_same hlt)
  · refine ⟨es.push ⟨kv k, v, clock⟩, clock + 1, ?_, ?_⟩
    · simp [Instr.mapUpdate, run_underlying hT, MapKept.run_getObj_map m.heap, hK.chk, h1, hput]
    · rw [putM_new h2]
      exact m.push h2 (World.putObj_heap_same hlt)
end
section
variable {P : Program} {Rp : Post} {Kk : List Lay} {N : NN} {l : Fr} {ops : Array Oper} {rest : List Oper} {d : Nat} {dd : Option Nat} {ty : Nat} {pos : String} {af : Array Edge} {g : Option (Nat × Bool)} {x y u : Operand} {T E Tk : TypeId} {c : Code}
variable {w0 : World} {M : List Nat} {A : Nat → Prop} {es : List Ent} {j b : Nat} {K V : Type} [DecidableEq K] {kv : K → Value} {vv : V → Value} {L : List (K × V)} {k : K} {v z : V} {mes : Array MapEntry} {mcl : Nat}
theorem Sat.swapO {w w' : World} {o o' : OW} (h : Sat w0 M A es w) (hk : nth es j = some (.obj o)) (h1 : o.ks = [b]) (h2 : o'.ks = [b]) (hc : Chg [b] w w') (hok : o'.ok w') : Sat w0 M A (setN es j (.obj o')) w' := by
  have hlt : b < w.heap.size := o.lt (h.objAt hk) b (by rw [h1]; exact List.mem_singleton.2 rfl)
  refine h.swap' hk (by show Chg o.ks w w'; rw [h1]; exact hc) hok (by show o'.ks.Nodup; rw [h2]; simp) (fun q hq => ?_) (fun F hF => by cases hF)
  have hq' : q ∈ o'.ks := hq
  rw [h2] at hq'
  rw [List.mem_singleton.1 hq']
  exact ⟨Nat.lt_of_lt_of_le hlt hc.size, .inr (by show b ∈ o.ks; rw [h1]; exact List.mem_singleton.2 rfl)⟩
theorem chg_put {w : World} {o o' : Obj} (_ : w.heap[b]? = some o) : Chg [b] w (w.putObj b o') := ⟨rfl, rfl, rfl, by simp, fun x _ hx => World.putObj_heap_other (fun e => hx (by simp [e]))⟩
theorem r_mkmap (kv : K → Value) (vv : V → Value) (hd : Nat.blt d N.n = true) (h : ∀ b, LJ P Rp ops rest Kk N ((d, .map (some b)) :: l) (Sat w0 M A (.obj (mapO kv b (mpV vv []) #[] 0) :: es))) :
    LJ P Rp ops (⟨some d, .makeMap T none, ty, pos, af, none⟩ :: rest) Kk N l (Sat w0 M A es) := by
  intro a w hf hw
  refine wpList_plain rfl fun K' hK => ?_
  unfold Oper.wp
  have : (execOp a.eval ⟨some d, .makeMap T none, ty, pos, af, none⟩).run P w = .ok (.value (.map (some w.heap.size))) (w.alloc (.map #[] 0)) := by
    simp [execOp, Instr.makeMap]
  rw [this]
  refine hK _ _ (h _ _ _ (hf.put hd _) ?_)
  have hal := hw.allocO (.map #[] 0)
  refine Sat.swapO (b := w.heap.size) (j := 0) hal rfl rfl rfl (Chg.refl _ _) ?_
  exact ⟨Go.heap_alloc_new w _, rfl, by simp [mpV], by simp, by simp⟩
theorem p_lkm (hT : P.underlying T = some (.map Tk E)) (hK : KeyF P Tk kv) (hz : ∀ w, (zeroValue E).run P w = .ok (vv z) w) (hj : FactAt es (MapAt kv b (mpV vv L) mes mcl)) (hx : ev l x = some (.map (some b))) (hy : ev l y = some (kv k)) :
    PureOp P N ⟨dd, .lookup T x y false, ty, pos, af, g⟩ l (Sat w0 M A es) (vv ((lkM L k).getD z)) := fun a w hf hw => by
  have m := hj.get hw
  have h := run_lookup_own (P := P) (k := k) hT hK hz m false
  rw [lkM_map] at h
  have e : (Option.map vv (lkM L k)).getD (vv z) = vv ((lkM L k).getD z) := by cases lkM L k <;> rfl
  simp only [e] at h
  simp [execOp, hf.ev hx, hf.ev hy, h]
theorem p_lko (hT : P.underlying T = some (.map Tk E)) (hK : KeyF P Tk kv) (hz : ∀ w, (zeroValue E).run P w = .ok (vv z) w) (hj : FactAt es (MapAt kv b (mpV vv L) mes mcl)) (hx : ev l x = some (.map (some b))) (hy : ev l y = some (kv k)) :
    PureOp P N ⟨dd, .lookup T x y true, ty, pos, af, g⟩ l (Sat w0 M A es) (.tuple #[vv ((lkM L k).getD z), .bool (hasM L k)]) := fun a w hf hw => by
  have m := hj.get hw
  have h := run_lookup_own (P := P) (k := k) hT hK hz m true
  rw [lkM_map, hasM_map] at h
  have e : (Option.map vv (lkM L k)).getD (vv z) = vv ((lkM L k).getD z) := by cases lkM L k <;> rfl
  simp only [e] at h
  simp [execOp, hf.ev hx, hf.ev hy, h]
theorem r_mpu (hT : P.underlying T = some (.map Tk E)) (hK : KeyF P Tk kv) (hj : nth es j = some (.obj (mapO kv b (mpV vv L) mes mcl))) (hx : ev l x = some (.map (some b))) (hy : ev l y = some (kv k)) (hu : ev l u = some (vv v))
    (h : ∀ es' cl', LJ P Rp ops rest Kk N l (Sat w0 M A (setN es j (.obj (mapO kv b (mpV vv (putM L k v)) es' cl'))))) :
    LJ P Rp ops (⟨none, .mapUpdate T x y u, ty, pos, af, none⟩ :: rest) Kk N l (Sat w0 M A es) := by
  intro a w hf hw
  refine wpList_plain rfl fun K' hKk => ?_
  unfold Oper.wp
  have m : MapAt kv b (mpV vv L) mes mcl w := hw.objAt hj
  obtain ⟨es2, cl2, h1, h2⟩ := run_mapUpdate_own (P := P) (k := k) (v := vv v) hT hK m
  have : (execOp a.eval ⟨none, .mapUpdate T x y u, ty, pos, af, none⟩).run P w = .ok .skip (w.putObj b (.map es2 cl2)) := by
    simp [execOp, hf.ev hx, hf.ev hy, hf.ev hu, h1]
  rw [this]
  rw [putM_map] at h2
  exact hKk _ _ (h es2 cl2 _ _ (hf.put_none undef) (Sat.swapO hw hj rfl rfl (chg_put m.heap) h2))
end
end Go.J

/- J24: what may be a map's key. No program in sight. -/
namespace Go.J
open Go Go.RowKit
set_option linter.unusedSimpArgs false
section
variable {P : Program} {T : TypeId}
theorem ba_dec (x y : ByteArray) : (x == y) = decide (x = y) := by
  rw [Bool.eq_iff_iff]; simp [ba_beq]
theorem keyF_str (h : P.underlying T = some .string) : KeyF P T (fun s : ByteArray => .string s) where
  chk := fun em k w => by
    have : ∀ n, (Instr.checkKey em (n + 1) T (.string k)).run P w = .ok () w := fun n => by simp [Instr.checkKey, run_underlying h]
    exact this 9999
  eq := fun x y w => by
    have h1 := run_equalIn_string (P := P) w 9999 T x y h
    rw [← beq_toListBytes, ba_dec] at h1
    simp [Op.equal, Op.maxDepth, h1]
  now := ⟨_, h, .inl fun x y => by simp only [Instr.sameNow]; rw [ba_dec]⟩
  same := fun k => by simp only [Instr.sameBits]; rw [ba_dec]; simp
theorem sb_agg (vs : List Value) (h : ∀ v, v ∈ vs → Instr.sameBits 9999 v v = true) : Instr.sameBits 10000 (.agg vs.toArray) (.agg vs.toArray) = true := by
  simp only [Instr.sameBits, beq_self_eq_true, Bool.true_and, List.all_eq_true]
  rintro ⟨a, b⟩ hab
  have : a = b ∧ a ∈ vs := by
    rw [List.mem_iff_getElem] at hab
    obtain ⟨i, hi, he⟩ := hab
    simp at he
    obtain ⟨rfl, rfl⟩ := he
    exact ⟨rfl, List.getElem_mem _⟩
  obtain ⟨rfl, hv⟩ := this
  exact h a hv
theorem keyF_agg {K : Type} [DecidableEq K] {R : Rep K} {fs : Array Field} (hu : P.underlying T = some (.struct fs)) (hchk : ∀ em k w, (Instr.checkKey em 10000 T (.agg (R.enc k).toArray)).run P w = .ok () w)
    (heq : ∀ x y : K, EqV P 10000 T (.agg (R.enc x).toArray) (.agg (R.enc y).toArray) (decide (x = y))) (hs : ∀ k v, v ∈ R.enc k → Instr.sameBits 9999 v v = true) : KeyF P T (fun k : K => .agg (R.enc k).toArray) where
  chk := hchk
  eq := fun x y w => by
    have h1 := heq x y w
    simp [Op.equal, Op.maxDepth, h1]
  now := ⟨_, hu, .inr fun _ _ => rfl⟩
  same := fun k => sb_agg _ (hs k)
end
theorem FactAt.map {es : List Ent} {K : Type} {kv : K → Value} [DecidableEq K] {b : Nat} {l : List (K × Value)} {mes : Array MapEntry} {mcl : Nat} (j : Nat) (h : nth es j = some (.obj (mapO kv b l mes mcl))) : FactAt es (MapAt kv b l mes mcl) := .obj j h
end Go.J

/- J25: 'for k, v := range m' over a map that stays as it is: any order of its entries. No program in sight. -/
namespace Go.J
open Go Go.RowKit
set_option linter.unusedSimpArgs false
set_option linter.unusedSectionVars false
/-- what comes out whatever the order -/
noncomputable def anyOrd {α β : Type} (L : List α) (f : List α → Option β) : Option β := by
  classical exact if h : ∃ r, ∀ L', L'.Perm L → f L' = some r then some h.choose else none
/-! ### the iterator -/
def bornOf (es : Array MapEntry) (i : Nat) : Nat := ((es[i]?).map (·.born)).getD 0
def itObj (b : Nat) (es : Array MapEntry) (clock : Nat) (idx : List Nat) : Obj := .mapIter (some b) clock (idx.map (bornOf es)).toArray clock
section
variable {P : Program} {K : Type} [DecidableEq K] {kv : K → Value} {b r : Nat} {l : List (K × Value)} {es : Array MapEntry} {clock : Nat} {w : World}
theorem MapAt.size (m : MapAt kv b l es clock w) : es.size = l.length := by
  have := EL.len m.el
  simpa using this
end
end Go.J

/- J26: 'for k, v := range m': the rules. No program in sight. -/
namespace Go.J
open Go Go.RowKit
set_option linter.unusedSimpArgs false
set_option linter.unusedSectionVars false
section
variable {P : Program} {K : Type} [DecidableEq K] {kv : K → Value} {b r : Nat} {l : List (K × Value)} {es : Array MapEntry} {clock : Nat} {w : World}
end
/-- the entries that were met, in the order in which they were met -/
def met {α : Type} (L : List α) (idx : List Nat) : List α := idx.filterMap (L[·]?)
section
variable {P : Program} {R : Post} {Kk : List Lay} {N : NN} {fr l : Fr} {ops : Array Oper} {rest : List Oper} {d : Nat} {dd : Option Nat} {ty : Nat} {pos : String} {af : Array Edge} {g : Option (Nat × Bool)} {x y u : Operand} {T E Tk : TypeId} {c : Code}
variable {w0 : World} {M : List Nat} {A : Nat → Prop} {es : List Ent} {j k b rb : Nat} {K V : Type} [DecidableEq K] {kv : K → Value} {vv : V → Value} {L : List (K × V)} {v z : V} {mes : Array MapEntry} {mcl : Nat}
end
end Go.J

/- J27: 'for k := range maps.Keys(m)': whatever the order. No program in sight. -/
namespace Go.J
open Go Go.RowKit
set_option linter.unusedSimpArgs false
set_option linter.unusedSectionVars false
/-- the library's closure -/
def keysCode (TM TK TF TB : Nat) (p q : String) : Code :=
  .seq (.region 0 #[⟨some 4, .load TM (.tmp 1), TM, p, #[], none⟩, ⟨some 5, .range TM (.tmp 4), 0, p, #[⟨0, .data⟩], none⟩] false)
    (.block 0 (.loop (.seq (.region 1 #[⟨some 6, .next (.tmp 5) false, 0, p, #[], none⟩, ⟨some 7, .extract (.tmp 6) 0, TB, p, #[⟨0, .data⟩], none⟩] false)
      (.seq (.cond (.tmp 7) .skip (.exit 0)) (.block 1 (.seq (.region 2 #[⟨some 8, .entry (.tmp 5), 0, p, #[], none⟩, ⟨some 9, .extract (.tmp 8) 0, TK, p, #[⟨0, .data⟩], none⟩, ⟨some 3, .assign (.tmp 9), TK, p, #[⟨1, .data⟩, ⟨0, .phase⟩, ⟨1, .phase⟩], none⟩] false)
        (.seq (.region 3 #[⟨some 10, .move (.tmp 0), TF, q, #[], none⟩, ⟨some 11, .move (.tmp 3), TK, q, #[], none⟩, ⟨some 12, .call { callee := .value (.tmp 10), args := #[.tmp 11], argTypes := #[TK] }, TB, q, #[⟨0, .data⟩, ⟨1, .data⟩], none⟩,
            ⟨some 13, .unOp .not TB (.tmp 12), TB, q, #[⟨2, .data⟩], none⟩] false) (.cond (.tmp 13) .ret .skip))))))))
section
variable {P : Program} {w0 : World} {M : List Nat} {A : Nat → Prop} {K V σ γ ρ β : Type} [DecidableEq K] {kv : K → Value} {vv : V → Value} {L : List (K × V)} {mes : Array MapEntry} {mcl mb : Nat} {fn : Func} {kb bx TM TE TK TF TB by2 : Nat} {p q : String} {zs2 : List Value}
end
end Go.J

/- J28: strings in order: comparing, sorting, compacting; all keys of a map. No program in sight. -/
namespace Go.G
open Go Go.J
set_option linter.unusedSimpArgs false
abbrev Bs := List UInt8
theorem u8_tri (a b : UInt8) : a < b ∨ a = b ∨ b < a := by
  rcases Nat.lt_trichotomy a.toNat b.toNat with h | h | h
  · exact .inl (UInt8.lt_iff_toNat_lt.2 h)
  · exact .inr (.inl (UInt8.toNat_inj.1 h))
  · exact .inr (.inr (UInt8.lt_iff_toNat_lt.2 h))
theorem u8_irr (a : UInt8) : ¬ a < a := fun h => by have := UInt8.lt_iff_toNat_lt.1 h; omega
theorem u8_asym {a b : UInt8} (h : a < b) : ¬ b < a := fun h2 => by have := UInt8.lt_iff_toNat_lt.1 h; have := UInt8.lt_iff_toNat_lt.1 h2; omega
theorem cb_spec : ∀ (a b : Bs), (Lib.compareBytes a b = -1 ∧ a < b) ∨ (Lib.compareBytes a b = 0 ∧ a = b) ∨ (Lib.compareBytes a b = 1 ∧ b < a) := by
  intro a
  induction a with
  | nil =>
    intro b
    cases b with
    | nil => exact .inr (.inl ⟨rfl, rfl⟩)
    | cons y t => exact .inl ⟨rfl, List.nil_lt_cons _ _⟩
  | cons x s ih =>
    intro b
    cases b with
    | nil => exact .inr (.inr ⟨rfl, List.nil_lt_cons _ _⟩)
    | cons y t =>
      unfold Lib.compareBytes
      rcases u8_tri x y with h | rfl | h
      · rw [if_pos h]; exact .inl ⟨rfl, List.cons_lt_cons_iff.2 (.inl h)⟩
      · rw [if_neg (u8_irr x), if_neg (u8_irr x)]
        rcases ih t with ⟨h1, h2⟩ | ⟨h1, h2⟩ | ⟨h1, h2⟩
        · exact .inl ⟨h1, List.cons_lt_cons_iff.2 (.inr ⟨rfl, h2⟩)⟩
        · exact .inr (.inl ⟨h1, by rw [h2]⟩)
        · exact .inr (.inr ⟨h1, List.cons_lt_cons_iff.2 (.inr ⟨rfl, h2⟩)⟩)
      · rw [if_neg (u8_asym h), if_pos h]; exact .inr (.inr ⟨rfl, List.cons_lt_cons_iff.2 (.inl h)⟩)
/-- what ends with a permutation -/
noncomputable def KfP {α ρ : Type} (L : List α) (f : Flow (List α) ρ) : Option Unit := by
  classical exact if ∃ L', L'.Perm L ∧ f = .brk L' then some () else none
def appStep {α ρ : Type} (by_ : Nat) (_ : Nat) (x : α) (u : List α) : Option (Flow (List α) ρ) := (appM by_ u [x]).bind fun q => some (.nxt q)
end Go.G

/- J29: room made ahead (slices.Grow of nil): cap of nil, append(nil, make(..)...), the cut of that room. No program in sight. -/
namespace Go.G
open Go Go.J
set_option linter.unusedSimpArgs false
/-- how often a closure may call itself -/
@[irreducible] def FUEL : Nat := 100000
/-- a row that was grown from nil by n: too long fails -/
def growM (by_ : Nat) (n : Int) : Option Unit := if 0 < n ∧ n.toNat * by_ ≤ 140737488355328 ∧ n.toNat ≤ maxLen then some () else none
theorem growM_spec {by_ : Nat} {n : Int} {u : Unit} (h : growM by_ n = some u) : ∃ k : Nat, n = k ∧ 0 < k ∧ k * by_ ≤ 140737488355328 ∧ k ≤ maxLen := by
  unfold growM at h
  split at h
  · rename_i h3
    exact ⟨n.toNat, by omega, by omega, h3.2.1, h3.2.2⟩
  · cases h
/-- a block of c elements, whatever they are -/
def spareO (T sz b c : Nat) : OW := {
  ks := [b]
  ok := fun w => c ≤ maxLen ∧ ∃ cur : Array Value, w.heap[b]? = some (.cells cur T (0, 0)) ∧ cur.size = c * sz
  stay := fun h hk => ⟨hk.1, by obtain ⟨cur, h1, h2⟩ := hk.2; exact ⟨cur, (h b (by simp)).trans h1, h2⟩⟩
  lt := fun h k hk => by
    simp at hk
    subst hk
    obtain ⟨cur, h1, -⟩ := h.2
    exact (Array.getElem?_eq_some_iff.1 h1).1 }
section
variable {P : Program} {α : Type} {R : Rep α} {Rp : Post} {K : List Lay} {N : NN} {l : Fr} {ops : Array Oper} {rest : List Oper} {d : Nat} {dd : Option Nat} {ty : Nat} {pos : String} {af : Array Edge} {g : Option (Nat × Bool)} {x y : Operand} {T Ti by_ : Nat} {zs : List Value}
variable {w0 : World} {M : List Nat} {A : Nat → Prop} {es : List Ent} {b c k n : Nat} {m : Int} {u : Unit}
theorem p_capN {H : World → Prop} {E : TypeId} (hT : P.underlying T = some (.slice E)) (hx : ev l x = some (.slice none 0 0)) :
    PureOp P N ⟨dd, .call { callee := .builtin .cap, args := #[x], argTypes := #[T] }, ty, pos, af, g⟩ l H (.int .i64 0) := fun a w hf hw => by
  simp [execOp, resolve, invoke, builtin, hf.ev hx, Builtin.cap_, run_underlying hT, goInt]
theorem r_growN {ag : Bool} (hT : P.underlying T = some (.slice R.T)) (hTi : P.underlying Ti = some (.int .i64)) (hE : TyF P R.T ag R.sz by_ zs) (hsz : 0 < R.sz) (hzs : zs.length = R.sz) (hx : ev l x = some (.slice none 0 0)) (hy : ev l y = some (.int .i64 m)) (hq : growM by_ m = some u) (hd : Nat.blt d N.n = true)
    (h : ∀ (b c n : Nat), n ≤ c → LJ P Rp ops rest K N ((d, .slice (some ⟨b, 0, none⟩) n c) :: l) (Sat w0 M A (.obj (spareO R.T R.sz b c) :: es))) :
    LJ P Rp ops (⟨some d, .call { callee := .builtin .append, args := #[x, y], argTypes := #[T, Ti] }, ty, pos, af, none⟩ :: rest) K N l (Sat w0 M A es) := by
  intro a w hf hw
  obtain ⟨n, rfl, h0, h1, h2⟩ := growM_spec hq
  obtain ⟨i, z, hi, hz, hzc, hs, hb⟩ := hE.info
  have hz2 : z.cells.size = R.sz := by rw [hzc]; simpa using hzs
  refine wpList_plain rfl fun K' hK => ?_
  have hr := Lib.run_append_nil_zeros (P := P) w T Ti ty R.T i z .i64 .i64 hT hTi hi hz n h0 (by omega) (by unfold maxLen at h2; omega) (by rw [hb]; omega)
  refine Lib.wp_append_run w x y T Ti rfl _ _ (hf.ev hx) (hf.ev hy) _ _ hr ?_
  have hge := grownCap_ge w n 0 R.T
  refine hK _ _ (h _ _ _ hge _ _ (hf.put hd _) ?_)
  have hal := hw.drew.allocO (.cells (Builtin.zeroCells z.cells n ++ Builtin.zeroCells z.cells (grownCap w n 0 R.T - n)) R.T)
  refine hal.swapO (j := 0) (b := w.heap.size) rfl rfl rfl ⟨rfl, rfl, rfl, Nat.le_refl _, fun _ _ _ => rfl⟩ ⟨grownCap_le_maxLen w n 0 R.T h2, _, hal.objAt (k := 0) rfl, ?_⟩
  simp only [Array.size_append, size_zeroCells', hz2, ← Nat.add_mul]
  congr 1
  omega
/-- nothing of the room is in use: an empty row -/
theorem r_cutG {ag : Bool} (hT : P.underlying T = some (.slice R.T)) (hE : TyF P R.T ag R.sz by_ zs) (hx : ev l x = some (.slice (some ⟨b, 0, none⟩) n c)) (hy : ev l y = some (.int .i64 0)) (hnc : n ≤ c) (hk : nth es k = some (.obj (spareO R.T R.sz b c))) (hd : Nat.blt d N.n = true)
    (h : ∀ s' : SV, LJ P Rp ops rest K N ((d, s'.v) :: l) (Sat w0 M A (setN es k (.row R s'.v [])))) :
    LJ P Rp ops (⟨some d, .slice T x none (some y) none, ty, pos, af, none⟩ :: rest) K N l (Sat w0 M A es) := by
  intro a w hf hw
  have hB := run_sliceBounds (P := P) (w := w) (c := c) (n := n) (a := 0) (b := 0) (lo := none) (hi := some (.int .i64 0)) (Nat.le_refl _) (Nat.zero_le _) hnc (.inr ⟨rfl, rfl⟩) (.inl rfl)
  refine wpList_plain rfl fun K' hK => ?_
  unfold Oper.wp
  have e1 : evO l (some y) = some (some (.int .i64 0)) := by simp [evO, hy]
  have : (execOp a.eval ⟨some d, .slice T x none (some y) none, ty, pos, af, none⟩).run P w = .ok (.value (SV.v ⟨some ⟨b, 0, none⟩, 0, c⟩)) w := by
    have hB2 : (Instr.sliceBounds true n c none (some (Value.int IntKind.i64 0)) none).run P w = .ok (0, 0, c) w := hB
    have e2 : (Instr.sliceAt T (.slice (some ⟨b, 0, none⟩) n c) none (some (.int .i64 0)) none).run P w = .ok (SV.v ⟨some ⟨b, 0, none⟩, 0, c⟩) w := by
      simp only [Instr.sliceAt, Sem.run_bind, run_underlying hT, Result.andThen_ok, Instr.slice, hB2, hE.size w, Sem.run_pure]
      simp [Addr.add]
    simp [execOp, hf.ev hx, hf.evO e1, e2]
  rw [this]
  refine hK _ _ (h ⟨some ⟨b, 0, none⟩, 0, c⟩ _ _ (hf.put hd _) ?_)
  obtain ⟨hm, cur, hcur, hcs⟩ := hw.objAt hk
  refine hw.swap' hk ⟨rfl, rfl, rfl, Nat.le_refl _, fun _ _ _ => rfl⟩ (e' := .row R (SV.v ⟨some ⟨b, 0, none⟩, 0, c⟩) []) ?_ (by simp [Ent.kl, Value.ownBlock]) ?_ (fun F hF => by cases hF)
  · exact ⟨by simp [Rep.cells], .inr ⟨b, c, cur, rfl, Nat.zero_le _, hcur, Nat.zero_le _, hm, hcs, by simp [Rep.cells]⟩⟩
  · intro q hq
    have : q = b := by simpa [Ent.kl, Value.ownBlock] using hq
    subst this
    exact ⟨(Array.getElem?_eq_some_iff.1 hcur).1, .inr (by simp [Ent.kl, spareO])⟩
end
end Go.G

/- J30: maps whose values lead to more of ours (rows of things, blocks with maps of their own): the map and all that its values lead to are one object. No program in sight. -/
namespace Go.J
open Go Go.RowKit
set_option linter.unusedSimpArgs false
set_option linter.unusedSectionVars false
section
variable {K X G : Type} [DecidableEq K]
/-! ### the plain side -/
def repM {V : Type} (l : List (K × V)) (k : K) (v : V) : List (K × V) := l.map fun p => if p.1 = k then (k, v) else p
theorem lkM_has {V : Type} (l : List (K × V)) (k : K) : hasM l k = (lkM l k).isSome := by
  unfold hasM lkM
  rw [Option.isSome_map, Bool.eq_iff_iff, List.find?_isSome, List.any_eq_true]
theorem lkM_mem {V : Type} {l : List (K × V)} {k : K} {v : V} (h : lkM l k = some v) : (k, v) ∈ l := by
  unfold lkM at h
  cases hf : l.find? fun p => decide (p.1 = k) with
  | none => rw [hf] at h; cases h
  | some p =>
    rw [hf] at h
    cases h
    have h1 := List.find?_some hf
    have h2 := List.mem_of_find?_eq_some hf
    simp at h1
    rw [← h1]; exact h2
/-! ### what the values lead to -/
def famEs (ents : X → G → List Ent) (xs : List (K × X)) (Z : List (K × G)) (hol : Option K) : List Ent :=
  (xs.zip Z).flatMap fun p => if hol = some p.1.1 then [] else ents p.1.2 p.2.2
def fem (ents : X → G → List Ent) (hol : Option K) (t : K × (X × G)) : List Ent := if hol = some t.1 then [] else ents t.2.1 t.2.2
variable (kv : K → Value) (vv : G → Value) (ents : X → G → List Ent) (b : Nat)
structure FamAt (xs : List (K × X)) (Z : List (K × G)) (hol : Option K) (es : Array MapEntry) (cl : Nat) (w : World) : Prop where
  map : MapAt kv b (mpV vv Z) es cl w
  kys : xs.map Prod.fst = Z.map Prod.fst
  own : ∀ e ∈ famEs ents xs Z hol, e.okx w
def famO (xs : List (K × X)) (Z : List (K × G)) (hol : Option K) (es : Array MapEntry) (cl : Nat) : OW := {
  ks := b :: keys (famEs ents xs Z hol)
  ok := FamAt kv vv ents b xs Z hol es cl
  stay := fun {w w'} h m => ⟨(mapO kv b (mpV vv Z) es cl).stay (fun k hk => h k (by rw [List.mem_singleton.1 hk]; exact List.mem_cons_self ..)) m.map, m.kys,
    fun e he => Ent.okx_of_block (m.own e he) fun k hk => h k (List.mem_cons_of_mem _ (mem_keys.2 ⟨e, he, hk⟩))⟩
  lt := fun {w} m k hk => by
    rcases List.mem_cons.1 hk with rfl | hk
    · exact (Array.getElem?_eq_some_iff.1 m.map.heap).1
    · obtain ⟨e, he, hek⟩ := mem_keys.1 hk
      exact Ent.okx_lt (m.own e he) hek }
variable {kv vv ents b}
theorem FamAt.ndZ {xs : List (K × X)} {Z : List (K × G)} {hol : Option K} {es : Array MapEntry} {cl : Nat} {w : World} (m : FamAt kv vv ents b xs Z hol es cl w) : (Z.map Prod.fst).Nodup := by
  have := m.map.nd
  rwa [show (mpV vv Z).map Prod.fst = Z.map Prod.fst by unfold mpV; rw [List.map_map]; rfl] at this
theorem FamAt.has {xs : List (K × X)} {Z : List (K × G)} {hol : Option K} {es : Array MapEntry} {cl : Nat} {w : World} (m : FamAt kv vv ents b xs Z hol es cl w) (k : K) : hasM Z k = hasM xs k := by
  rw [Bool.eq_iff_iff, hasM_iff, hasM_iff, m.kys]
theorem FamAt.len {xs : List (K × X)} {Z : List (K × G)} {hol : Option K} {es : Array MapEntry} {cl : Nat} {w : World} (m : FamAt kv vv ents b xs Z hol es cl w) : Z.length = xs.length := by
  have := congrArg List.length m.kys
  simpa using this.symm
theorem FamAt.lk {xs : List (K × X)} {Z : List (K × G)} {hol : Option K} {es : Array MapEntry} {cl : Nat} {w : World} (m : FamAt kv vv ents b xs Z hol es cl w) (k : K) :
    (lkM xs k = none ∧ lkM Z k = none) ∨ ∃ x g, lkM xs k = some x ∧ lkM Z k = some g := by
  have h := m.has k
  rw [lkM_has, lkM_has] at h
  cases h1 : lkM xs k with
  | none => rw [h1] at h; left; exact ⟨rfl, by simpa using h⟩
  | some x =>
    rw [h1] at h
    cases h2 : lkM Z k with
    | none => rw [h2] at h; cases h
    | some g => exact .inr ⟨x, g, rfl, rfl⟩
end
/-! ### the lists of what is ours, grouped anew -/
section
variable {w0 w w' : World} {M : List Nat} {A : Nat → Prop} {es es' rs : List Ent}
theorem Sat.regroup (h : Sat w0 M A es w) (hk : (keys es').Nodup) (hsub : ∀ k ∈ keys es', k ∈ keys es) (hok : ∀ e ∈ es', e.okx w) (hro : ∀ F, Ent.ro F ∈ es' → Ent.ro F ∈ es) : Sat w0 M A es' w :=
  ⟨h.chg, h.dis, hk, fun k hk' => h.fresh k (hsub k hk'), hok, fun e he => by
    cases e with
    | ro F => exact okr_congr (h.okr _ (hro F he)) fun _ hb => hsub _ hb
    | box b T cs => trivial
    | row R v xs => trivial
    | obj o => trivial⟩
/-- the entries 'a' in front become the entries 'a'' with (some of) the same blocks -/
theorem Sat.front {a a' : List Ent} (h : Sat w0 M A (a ++ rs) w) (hp : ∃ r, (keys a).Perm (keys a' ++ r)) (hok : ∀ e ∈ a', e.okx w) (hro : ∀ F, Ent.ro F ∉ a') : Sat w0 M A (a' ++ rs) w := by
  obtain ⟨r, hp⟩ := hp
  have hn := h.nodup
  rw [keys_append] at hn
  have hp2 : (keys a ++ keys rs).Perm (r ++ (keys a' ++ keys rs)) := by
    refine (hp.append_right _).trans ?_
    rw [← List.append_assoc]
    exact List.Perm.append_right _ List.perm_append_comm
  have hn2 := hp2.nodup_iff.1 hn
  rw [List.nodup_append] at hn2
  refine h.regroup (by rw [keys_append]; exact hn2.2.1) (fun k hk => ?_) (fun e he => ?_) (fun F hF => ?_)
  · rw [keys_append] at hk ⊢
    exact hp2.symm.subset (List.mem_append_right _ hk)
  · rcases List.mem_append.1 he with q | q
    · exact hok e q
    · exact h.okx e (List.mem_append_right _ q)
  · rcases List.mem_append.1 hF with q | q
    · exact absurd q (hro F)
    · exact List.mem_append_right _ q
end
section
variable {w0 w w' : World} {M : List Nat} {A : Nat → Prop} {es es' rs : List Ent} {K X G : Type} [DecidableEq K] {kv : K → Value} {vv : G → Value} {ents : X → G → List Ent} {b : Nat} {xs : List (K × X)} {Z : List (K × G)} {hol : Option K} {mes : Array MapEntry} {mcl : Nat} {k : K} {x : X} {g : G}
/-- what is to be put in, and what the map leads to beside it, as one object -/
def famP (kv : K → Value) (vv : G → Value) (ents : X → G → List Ent) (b : Nat) (Z : List (K × G)) (xs' : List (K × X)) (Z' : List (K × G)) (es : Array MapEntry) (cl : Nat) : OW := {
  ks := b :: keys (famEs ents xs' Z' none)
  ok := fun w => MapAt kv b (mpV vv Z) es cl w ∧ ∀ e ∈ famEs ents xs' Z' none, e.okx w
  stay := fun {w w'} h m => ⟨(mapO kv b (mpV vv Z) es cl).stay (fun k hk => h k (by rw [List.mem_singleton.1 hk]; exact List.mem_cons_self ..)) m.1,
    fun e he => Ent.okx_of_block (m.2 e he) fun k hk => h k (List.mem_cons_of_mem _ (mem_keys.2 ⟨e, he, hk⟩))⟩
  lt := fun {w} m k hk => by
    rcases List.mem_cons.1 hk with rfl | hk
    · exact (Array.getElem?_eq_some_iff.1 m.1.heap).1
    · obtain ⟨e, he, hek⟩ := mem_keys.1 hk
      exact Ent.okx_lt (m.2 e he) hek }
end
end Go.J

/- J31: what the program does with a map whose values lead to more of ours: the rules. No program in sight. -/
namespace Go.J
open Go Go.RowKit
set_option linter.unusedSimpArgs false
set_option linter.unusedSectionVars false
/-! ### rows as values -/
def rowE {α : Type} (R : Rep α) (xs : List α) (s : SV) : List Ent := [.row R s.v xs]
section
variable {P : Program} {Rp : Post} {Kk : List Lay} {N : NN} {l fr : Fr} {ops : Array Oper} {rest : List Oper} {d : Nat} {dd : Option Nat} {ty : Nat} {pos : String} {af : Array Edge} {g0 : Option (Nat × Bool)} {x y u : Operand} {T E Tk : TypeId} {c : Code}
variable {w0 : World} {M : List Nat} {A : Nat → Prop} {es rs : List Ent} {j b rb : Nat} {K X G : Type} [DecidableEq K] {kv : K → Value} {vv : G → Value} {ents : X → G → List Ent} {xs : List (K × X)} {Z : List (K × G)} {hol : Option K} {k : K} {z : G} {mes : Array MapEntry} {mcl : Nat}
theorem Sat.pick {w : World} (h : Sat w0 M A es w) (ks : List Nat) {ys r : List Ent} (hp : J.picks ks es = some (ys, r)) : Sat w0 M A (ys ++ r) w := h.perm (picks_perm hp)
end
/-! ### rows: read, taken out, given back -/
section
variable {w0 w : World} {M : List Nat} {A : Nat → Prop} {es rs : List Ent} {b : Nat} {K α : Type} [DecidableEq K] {kv : K → Value} {R : Rep α} {xs : List (K × List α)} {Z : List (K × SV)} {hol : Option K} {k : K} {mes : Array MapEntry} {mcl : Nat} {ys : List α}
theorem FamAt.row (m : FamAt kv SV.v (rowE R) b xs Z hol mes mcl w) (hh : hol ≠ some k) : w.ownsRow 0 R.T R.sz (SV.v ((lkM Z k).getD nilS)) ((lkM xs k).getD []).length (R.cells ((lkM xs k).getD [])) := by
  rcases m.lk k with ⟨h1, h2⟩ | ⟨y, g, h1, h2⟩
  · rw [h1, h2]; exact World.ownsRow_nil w 0 R.T R.sz
  · rw [h1, h2]
    refine m.own (.row R g.v y) ?_
    unfold famEs
    have hi := lkM_mem h1
    obtain ⟨i, hil, hie⟩ := List.getElem_of_mem hi
    have hzl : i < Z.length := by rw [m.len]; exact hil
    have hk : Z[i].1 = k := by
      have e1 : (xs.map Prod.fst)[i]'(by simpa using hil) = (Z.map Prod.fst)[i]'(by simpa using hzl) := by simp only [m.kys]
      simp only [List.getElem_map] at e1
      rw [← e1, hie]
    have hz : Z[i].2 = g := by
      have e2 : Z[i]? = some (k, Z[i].2) := by rw [List.getElem?_eq_getElem hzl, ← hk]
      have := lkM_some m.ndZ i e2
      rw [h2] at this
      exact (Option.some.inj this).symm
    refine List.mem_flatMap.2 ⟨(xs[i], Z[i]), List.mem_iff_getElem.2 ⟨i, by rw [List.length_zip]; omega, by rw [List.getElem_zip]⟩, ?_⟩
    rw [hie]
    simp only
    rw [if_neg hh, hz]
    exact List.mem_singleton.2 rfl
theorem FamAt.look (m : FamAt kv SV.v (rowE R) b xs Z none mes mcl w) (k : K) : RdS R (SV.v ((lkM Z k).getD nilS)) ((lkM xs k).getD []) w := RdS.of_row (m.row (by simp))
end
end Go.J

/- J32: 'for k, v := range m' over a map whose values lead to more of ours; the body may put values at keys that are there. No program in sight. -/
namespace Go.J
open Go Go.RowKit
set_option linter.unusedSimpArgs false
set_option linter.unusedSectionVars false
/-- the keys are the same, and so are the births -/
def KeptK {K G : Type} (ks : List K) (mes0 : Array MapEntry) (mcl0 : Nat) (Z : List (K × G)) (mes : Array MapEntry) (mcl : Nat) : Prop :=
  Z.map Prod.fst = ks ∧ mcl = mcl0 ∧ mes.toList.map (·.born) = mes0.toList.map (·.born)
section
variable {P : Program} {K : Type} [DecidableEq K] {kv : K → Value} {b : Nat} {l : List (K × Value)} {es : Array MapEntry} {clock : Nat} {w : World} {T E Tk : TypeId} {k : K} {v : Value}
end
section
variable {P : Program} {R : Post} {Kk : List Lay} {N : NN} {l fr : Fr} {ops : Array Oper} {rest : List Oper} {d : Nat} {dd : Option Nat} {ty : Nat} {pos : String} {af : Array Edge} {g0 : Option (Nat × Bool)} {x y u : Operand} {T E Tk : TypeId} {c : Code}
variable {w0 : World} {M : List Nat} {A : Nat → Prop} {es rs : List Ent} {j n b rb : Nat} {K X G : Type} [DecidableEq K] {kv : K → Value} {vv : G → Value} {ents : X → G → List Ent} {xs : List (K × X)} {Z : List (K × G)} {hol : Option K} {k : K} {z : G} {mes mes0 : Array MapEntry} {mcl mcl0 : Nat} {ks : List K}
theorem KeptK.has (h : KeptK ks mes0 mcl0 Z mes mcl) {i : Nat} (hi : ks[i]? = some k) : hasM Z k = true := by
  rw [hasM_iff, h.1]; exact List.mem_of_getElem? hi
theorem KeptK.refl (xs : List (K × X)) (h : xs.map Prod.fst = Z.map Prod.fst) : KeptK (xs.map Prod.fst) mes mcl Z mes mcl := ⟨h.symm, rfl, rfl⟩
end
end Go.J

/- J33: results that may be nil; pointers against nil; delete. No program in sight. -/
namespace Go.J
open Go Go.RowKit
set_option linter.unusedSimpArgs false
set_option linter.unusedSectionVars false
/-- what a pointer that may be nil leads to -/
def optE {α : Type} (o : Option α) (f : α → List Ent) : List Ent := match o with | none => [] | some t => f t
def optV {α : Type} (o : Option α) (v : Value) : Value := match o with | none => .pointer none | some _ => v
def optB {α β : Type} (o : Option α) (x : Option β) (f : α → Option β) : Option β := match o with | none => x | some t => f t
section
variable {P : Program} {Rp : Post} {Kk : List Lay} {N : NN} {l : Fr} {ops : Array Oper} {rest : List Oper} {d : Nat} {dd : Option Nat} {ty : Nat} {pos : String} {af : Array Edge} {g : Option (Nat × Bool)} {x y u : Operand} {T T' Te E Tk : TypeId} {H : World → Prop}
end
section
variable {P : Program} {K : Type} [DecidableEq K] {kv : K → Value} {b : Nat} {l : List (K × Value)} {es : Array MapEntry} {clock : Nat} {w : World} {T E Tk : TypeId} {k : K} {v : Value}
end
section
variable {P : Program} {Rp : Post} {Kk : List Lay} {N : NN} {l : Fr} {ops : Array Oper} {rest : List Oper} {d : Nat} {dd : Option Nat} {ty : Nat} {pos : String} {af : Array Edge} {x y : Operand} {T T' E Tk : TypeId}
variable {w0 : World} {M : List Nat} {A : Nat → Prop} {es : List Ent} {j b : Nat} {K V : Type} [DecidableEq K] {kv : K → Value} {vv : V → Value} {L : List (K × V)} {k : K} {mes : Array MapEntry} {mcl : Nat}
end
end Go.J

/- J34: cuts whose room ends where they end. No program in sight. -/
namespace Go.J
open Go Go.RowKit
section
variable {P : Program} {N : NN} {l : Fr} {dd : Option Nat} {ty : Nat} {pos : String} {af : Array Edge} {g : Option (Nat × Bool)} {x oh om : Operand} {T : TypeId}
variable {w0 : World} {M : List Nat} {A : Nat → Prop} {es : List Ent} {α : Type} {R : Rep α} {s : SV} {xs qs : List α} {lo hi : Int} {by_ : Nat} {zs : List Value}
end
end Go.J

/- J35: maps whose values are pointers to blocks of ours. No program in sight. -/
namespace Go.J
open Go Go.RowKit
set_option linter.unusedSimpArgs false
set_option linter.unusedSectionVars false
/-- what cannot be -/
def badO : OW := ⟨[], fun _ => False, fun _ h => h, fun h => h.elim⟩
def vvP {Q : Type} (h : Q → Nat) (g : Option Q) : Value := match g with | none => .pointer none | some q => .pointer (some ⟨h q, 0, none⟩)
def entsP {X Q : Type} (f : X → Q → List Ent) (x : X) (g : Option Q) : List Ent := match g with | none => [.obj badO] | some q => f x q
section
variable {K X G : Type} [DecidableEq K] {kv : K → Value} {vv : G → Value} {ents : X → G → List Ent} {b : Nat} {xs : List (K × X)} {Z : List (K × G)} {hol : Option K} {mes : Array MapEntry} {mcl : Nat} {k : K} {x : X} {g g' : G}
variable {w0 w : World} {M : List Nat} {A : Nat → Prop} {es rs : List Ent}
end
section
variable {K X Q : Type} [DecidableEq K] {kv : K → Value} {h : Q → Nat} {f : X → Q → List Ent} {b : Nat} {xs : List (K × X)} {Z : List (K × Option Q)} {hol : Option K} {mes : Array MapEntry} {mcl : Nat} {k : K} {t : X} {q q' : Q}
variable {P : Program} {Rp : Post} {Kk : List Lay} {N : NN} {l : Fr} {ops : Array Oper} {rest : List Oper} {d : Nat} {dd : Option Nat} {ty : Nat} {pos : String} {af : Array Edge} {g0 : Option (Nat × Bool)} {x y u : Operand} {T E Tk : TypeId} {c : Code}
variable {w0 : World} {M : List Nat} {A : Nat → Prop} {es rs : List Ent} {j : Nat}
end
end Go.J

/- J36: rows in what a pointer of a map leads to, read while the map is whole. No program in sight. -/
namespace Go.J
open Go Go.RowKit
section
variable {K X Q : Type} [DecidableEq K] {kv : K → Value} {h : Q → Nat} {f : X → Q → List Ent} {b : Nat} {xs : List (K × X)} {Z : List (K × Option Q)} {mes : Array MapEntry} {mcl : Nat} {k : K} {t : X} {q : Q}
end
end Go.J

/- J37: a new row that the library made; keys that are bools. No program in sight. -/
namespace Go.J
open Go Go.RowKit
set_option linter.unusedSimpArgs false
theorem Sat.newRowC {w0 w : World} {M : List Nat} {A : Nat → Prop} {es : List Ent} {α : Type} (R : Rep α) (h : Sat w0 M A es w) (xs : List α) (cap : Nat) {cs : List Value} (hcs : cs.take (xs.length * R.sz) = R.cells xs) (hcl : cs.length = cap * R.sz) (hle : xs.length ≤ cap) (hl : cap ≤ maxLen) :
    Sat w0 M A (.row R (SV.v ⟨some ⟨w.heap.size, 0, none⟩, xs.length, cap⟩) xs :: es) (w.alloc (.cells cs.toArray R.T)) := by
  have h1 := h.alloc R.T cs
  refine Sat.cast1 (fs := [.box w.heap.size R.T cs]) (e := .row R (SV.v ⟨some ⟨w.heap.size, 0, none⟩, xs.length, cap⟩) xs) h1 (by simp [keys, Ent.kl, SV.v, Value.ownBlock]) ?_ (fun F hF => by cases hF)
  have hb := h1.box (k := 0) rfl
  exact ⟨R.cells_len xs, .inr ⟨w.heap.size, cap, _, rfl, Nat.zero_le _, hb, hle, hl, by rw [List.size_toArray, hcl], hcs⟩⟩
theorem Sat.newRow {w0 w : World} {M : List Nat} {A : Nat → Prop} {es : List Ent} {α : Type} (R : Rep α) (h : Sat w0 M A es w) (xs : List α) {cs : List Value} (hcs : R.cells xs = cs) (hl : xs.length ≤ maxLen) :
    Sat w0 M A (.row R (SV.v ⟨some ⟨w.heap.size, 0, none⟩, xs.length, xs.length⟩) xs :: es) (w.alloc (.cells cs.toArray R.T)) := by
  subst hcs
  exact h.newRowC R xs xs.length (by rw [← R.cells_len xs]; exact List.take_length) (R.cells_len xs) (Nat.le_refl _) hl
end Go.J

/- J38: a row that make lays, of zeros; bits set and taken away. No program in sight. -/
namespace Go.G
open Go Go.J
set_option linter.unusedSimpArgs false
/-- make's model: n times zero; too long fails -/
def makeM {α : Type} (by_ : Nat) (z : α) (n : Int) : Option (List α) := if 0 ≤ n ∧ n.toNat * by_ ≤ 140737488355328 ∧ n.toNat ≤ maxLen then some (List.replicate n.toNat z) else none
theorem makeM_spec {α : Type} {by_ : Nat} {z : α} {n : Int} {q : List α} (h : makeM by_ z n = some q) : ∃ k : Nat, n = k ∧ k * by_ ≤ 140737488355328 ∧ k ≤ maxLen ∧ q = List.replicate k z := by
  unfold makeM at h
  split at h
  · rename_i h3
    cases h
    exact ⟨n.toNat, by omega, h3.2.1, h3.2.2, rfl⟩
  · cases h
theorem madeCells_enc {α : Type} (R : Rep α) (z : α) (zs : Array Value) (hz : R.enc z = zs.toList) (k : Nat) : (madeCells zs (k * R.sz)).toList = R.cells (List.replicate k z) := by
  have hs : zs.size = R.sz := by rw [← R.len z, hz, Array.length_toList]
  apply List.ext_getElem?
  intro i
  by_cases hi : i < k * R.sz
  · have hp := R.pos
    have h1 : i / R.sz < k := (Nat.div_lt_iff_lt_mul hp).2 hi
    have h2 : i % R.sz < R.sz := Nat.mod_lt _ hp
    have h3 := R.cells_get (List.replicate k z) (i / R.sz) (i % R.sz) z (by rw [List.getElem?_replicate]; simp [h1]) h2
    rw [show i / R.sz * R.sz + i % R.sz = i by rw [Nat.mul_comm]; exact Nat.div_add_mod i R.sz] at h3
    rw [h3, hz]
    have h4 : i % R.sz < zs.size := by omega
    have h5 : zs[i % R.sz]? = some zs[i % R.sz] := Array.getElem?_eq_getElem h4
    rw [show (zs.toList)[i % R.sz]? = some zs[i % R.sz] by rw [Array.getElem?_toList]; exact h5]
    simp only [madeCells, Array.getElem?_toList, Array.getElem?_map]
    rw [Array.getElem?_range, if_pos hi]
    simp only [Option.map_some, hs, getElem!_pos zs (i % R.sz) h4]
  · have h1 : (madeCells zs (k * R.sz)).toList.length = k * R.sz := by simp [madeCells]
    have h2 : (R.cells (List.replicate k z)).length = k * R.sz := by rw [R.cells_len, List.length_replicate]
    rw [List.getElem?_eq_none (by omega), List.getElem?_eq_none (by omega)]
/-- of all orders of a list one, the same for all of them -/
def permS (α : Type) : Setoid (List α) := ⟨List.Perm, .refl, .symm, .trans⟩
noncomputable def canonQ {α : Type} (q : Quotient (permS α)) : List α := Classical.choose (Quotient.exists_rep q)
noncomputable def canonM {α : Type} (l : List α) : List α := canonQ (Quotient.mk (permS α) l)
def orI (x y : Int) : Int := w64 ((BitVec.ofInt 64 x ||| BitVec.ofInt 64 y).toNat)
def andNotI (x y : Int) : Int := w64 ((BitVec.ofInt 64 x &&& ~~~BitVec.ofInt 64 y).toNat)
section
variable {P : Program} {N : NN} {l : Fr} {H : World → Prop} {d : Option Nat} {ty : Nat} {pos : String} {af : Array Edge} {g : Option (Nat × Bool)} {x y : Operand} {m n r : Int} {T T' : TypeId} {kk : IntKind}
end
section
variable {P : Program} {α : Type} {R : Rep α} {Rp : Post} {K : List Lay} {N : NN} {l : Fr} {ops : Array Oper} {rest : List Oper} {d : Nat} {ty : Nat} {pos : String} {af : Array Edge} {x y : Operand} {T by_ : Nat} {zs : List Value}
variable {w0 : World} {M : List Nat} {A : Nat → Prop} {es : List Ent} {m : Int} {q : List α} {z : α}
theorem r_mk {ag : Bool} (hT : P.underlying T = some (.slice R.T)) (hE : TyF P R.T ag R.sz by_ zs) (hz : R.enc z = zs) (hx : ev l x = some (.int .i64 m)) (hy : ev l y = some (.int .i64 m)) (hq : makeM by_ z m = some q) (hd : Nat.blt d N.n = true)
    (h : ∀ s : SV, LJ P Rp ops rest K N ((d, s.v) :: l) (Sat w0 M A (.row R s.v q :: es))) :
    LJ P Rp ops (⟨some d, .makeSlice T x y, ty, pos, af, none⟩ :: rest) K N l (Sat w0 M A es) := by
  intro a w hf hw
  obtain ⟨k, rfl, h1, h2, rfl⟩ := makeM_spec hq
  obtain ⟨i, zv, hi, hzv, hzc, hs, hb⟩ := hE.info
  refine wpList_plain rfl fun K' hK => ?_
  unfold Oper.wp
  have hml : k ≤ 9223372036854775807 := by unfold maxLen at h2; omega
  have hbk : (by_ : Int) * (k : Int) ≤ 281474976710656 := by
    have : ((by_ * k : Nat) : Int) ≤ 281474976710656 := by rw [Nat.mul_comm]; omega
    rwa [Int.natCast_mul] at this
  have hr := run_make (P := P) w T R.T i zv hT hi hzv .i64 .i64 k k (by omega) (Int.le_refl _) (by rw [hb]; exact hbk) (by omega)
  have : (execOp a.eval ⟨some d, .makeSlice T x y, ty, pos, af, none⟩).run P w = .ok (.value (.slice (some ⟨w.heap.size, 0, none⟩) k k)) (w.alloc (.cells (madeCells zv.cells (k * i.size)) R.T)) := by
    simp [execOp, hf.ev hx, hf.ev hy, hr]
  rw [this]
  refine hK _ _ (h ⟨some ⟨w.heap.size, 0, none⟩, k, k⟩ _ _ (hf.put hd _) ?_)
  have hc := madeCells_enc R z zv.cells (by rw [hz, hzc]) k
  have := hw.newRow R (List.replicate k z) (cs := (madeCells zv.cells (k * R.sz)).toList) hc.symm (by rw [List.length_replicate]; exact h2)
  rw [List.length_replicate] at this
  rw [hs]
  simpa using this
/-- a literal's row is not nil -/
theorem r_bsN {n : Nat} {ps : List (Nat × Operand)} {pv : List (Nat × Value)} (R : Rep α) (xs : List α) (hp : evP l ps = some pv) (hn : Nat.beq xs.length n = true) (hm : Nat.ble n 1000000 = true)
    (hb : ∀ w, (Instr.buildSlice T n pv.toArray).run P w = .ok (.slice (some ⟨w.heap.size, 0, none⟩) n n) (w.alloc (.cells (R.cells xs).toArray R.T))) (hd : Nat.blt d N.n = true)
    (h : ∀ s : SV, s.a.isNone = false → LJ P Rp ops rest K N ((d, s.v) :: l) (Sat w0 M A (.row R s.v xs :: es))) :
    LJ P Rp ops (⟨some d, .buildSlice T n ps.toArray, ty, pos, af, none⟩ :: rest) K N l (Sat w0 M A es) := by
  intro a w hf hw
  have hn' : xs.length = n := by simpa using hn
  have hm' : n ≤ 1000000 := by simpa [Nat.ble_eq] using hm
  refine wpList_plain rfl fun K' hK => ?_
  unfold Oper.wp
  have he := hf.evP hp
  have h2 : (ps.toArray.map fun (i, x) => (i, a.eval x)) = pv.toArray := by rw [← he]; simp
  have : (execOp a.eval ⟨some d, .buildSlice T n ps.toArray, ty, pos, af, none⟩).run P w = .ok (.value (.slice (some ⟨w.heap.size, 0, none⟩) n n)) (w.alloc (.cells (R.cells xs).toArray R.T)) := by
    simp [execOp, h2, hb]
  rw [this]
  refine hK _ _ (h ⟨some ⟨w.heap.size, 0, none⟩, n, n⟩ rfl _ _ (hf.put hd _) ?_)
  have := hw.newRow R xs rfl (by unfold maxLen; omega)
  rwa [hn'] at this
/-- what is put behind a row that is not nil is not nil -/
theorem r_appN {ag : Bool} {s t : SV} {xs ys qs : List α} {k : Nat} (hs0 : s.a.isNone = false) (hT : P.underlying T = some (.slice R.T)) (hE : TyF P R.T ag R.sz by_ zs) (hzs : zs.length = R.sz) (hx : ev l x = some s.v) (hy : ev l y = some t.v) (hk : nth es k = some (.row R s.v xs)) (hr : FactAt es (RdS R t.v ys))
    (hq : appM by_ xs ys = some qs) (hd : Nat.blt d N.n = true) (h : ∀ s' : SV, s'.a.isNone = false → LJ P Rp ops rest K N ((d, s'.v) :: l) (Sat w0 M A (setN es k (.row R s'.v qs)))) :
    LJ P Rp ops (⟨some d, .call { callee := .builtin .append, args := #[x, y], argTypes := #[T, T] }, ty, pos, af, none⟩ :: rest) K N l (Sat w0 M A es) := by
  intro a w hf hw
  obtain ⟨rfl, hb, hb2⟩ := appM_spec hq
  refine wpList_plain rfl fun K' hK => ?_
  unfold Oper.wp
  obtain ⟨s', w', hrun, hown, hc, hkey, hnn⟩ := run_app (P := P) (ty := ty) hT hE hzs (hw.row hk) (hr.get hw) hb hb2
  have : (execOp a.eval ⟨some d, .call { callee := .builtin .append, args := #[x, y], argTypes := #[T, T] }, ty, pos, af, none⟩).run P w = .ok (.value s'.v) w' := by
    simp [execOp, resolve, invoke, builtin, hf.ev hx, hf.ev hy, hrun]
  rw [this]
  refine hK _ _ (h s' (hnn s rfl hs0) _ _ (hf.put hd _) (hw.swap hk hc hown (fun b hb => ?_) (fun F hF => by cases hF)))
  exact ⟨(World.ownsRow.lt hown b hb).2, hkey b hb⟩
/-- a row that may be nil, and whether it is -/
def nrowO (R : Rep α) (s : SV) (o : Option (List α)) : OW := {
  ks := s.v.ownBlock.toList
  ok := fun w => (Ent.row R s.v (o.getD [])).okx w ∧ s.a.isNone = o.isNone
  stay := fun h hk => ⟨Ent.okx_of_block hk.1 (fun k hm => h k hm), hk.2⟩
  lt := fun h k hk => (World.ownsRow.lt h.1 k (by simpa using hk)).2 }
end
end Go.G

/- J40: rows of ours that begin behind their block's first cell (queues); rows of ours that stand in a slice of ours. No program in sight. -/
namespace Go.J
open Go Go.RowKit
set_option linter.unusedSimpArgs false
set_option linter.unusedSectionVars false
section
variable {w0 w : World} {M : List Nat} {A : Nat → Prop} {es rest : List Ent}
end
/-! ### queues -/
section
variable {P : Program} {α : Type} {R : Rep α} {w0 w : World} {M : List Nat} {A : Nat → Prop} {es rest : List Ent}
def QOk (R : Rep α) (s : SV) (q : List α) (w : World) : Prop :=
  (s = ⟨none, 0, 0⟩ ∧ q = []) ∨ ∃ g off cur, s.a = some ⟨g, off, none⟩ ∧ w.heap[g]? = some (.cells cur R.T (0, 0)) ∧ s.n = q.length ∧ q.length ≤ s.c ∧ s.c ≤ maxLen ∧ off + s.c * R.sz ≤ cur.size ∧ (cur.toList.drop off).take (q.length * R.sz) = R.cells q
def queO (R : Rep α) (s : SV) (q : List α) : OW := {
  ks := s.v.ownBlock.toList
  ok := QOk R s q
  stay := by
    intro w w' h hk
    rcases hk with hk | ⟨g, off, cur, h1, h2, h3⟩
    · exact .inl hk
    · exact .inr ⟨g, off, cur, h1, (h g (by simp [SV.v, h1, Value.ownBlock])).trans h2, h3⟩
  lt := by
    intro w hk k hm
    rcases hk with ⟨h1, _⟩ | ⟨g, off, cur, h1, h2, _⟩
    · subst h1; simp [SV.v, Value.ownBlock] at hm
    · have : k = g := by simpa [SV.v, h1, Value.ownBlock] using hm
      subst this
      exact (Array.getElem?_eq_some_iff.1 h2).1 }
theorem QOk.of_row {s : SV} {q : List α} (h : w.ownsRow 0 R.T R.sz s.v q.length (R.cells q)) : QOk R s q w := by
  rcases h.2 with ⟨h1, h2⟩ | ⟨g, cap, cur, h1, _, h2, h3, h4, h5, h6⟩
  · injection h1 with e1 e2 e3
    exact .inl ⟨by cases s; simp_all, List.eq_nil_of_length_eq_zero h2⟩
  · injection h1 with e1 e2 e3
    subst e3
    exact .inr ⟨g, 0, cur, e1, h2, e2, h3, h4, by omega, by simpa using h6⟩
theorem QOk.cut {s : SV} {q qs : List α} {lo hi : Int} (h : QOk R s q w) (hq : sliceI q lo hi = some qs) (hh : hi = q.length) : QOk R (s.sub R.sz lo.toNat hi.toNat) qs w := by
  obtain ⟨a, b, rfl, rfl, hab, hb, rfl⟩ := sliceI_spec hq
  have hbq : b = q.length := by omega
  subst hbq
  simp only [Int.toNat_natCast]
  have hlen : ((q.drop a).take (q.length - a)).length = q.length - a := by simp
  rcases h with ⟨rfl, rfl⟩ | ⟨g, off, cur, h1, h2, h3, h4, h5, h6, h7⟩
  · have : a = 0 := by simpa using hab
    subst this
    exact .inl ⟨rfl, rfl⟩
  · by_cases hc : s.c = a
    · have hqa : q.length = a := by omega
      refine .inr ⟨g, off, cur, by simp [SV.sub, hc, h1], h2, by simp [SV.sub, hqa], by simp [SV.sub, hqa], by simp [SV.sub, hc, maxLen], by simp [SV.sub, hc]; omega, ?_⟩
      rw [hlen, hqa]
      simp [Rep.cells]
    · have hmul : a * R.sz + (s.c - a) * R.sz = s.c * R.sz := by rw [← Nat.add_mul]; congr 1; omega
      refine .inr ⟨g, off + a * R.sz, cur, by simp [SV.sub, hc, h1, add_at], h2, by rw [hlen]; simp [SV.sub], by rw [hlen]; simp [SV.sub]; omega, by simp [SV.sub]; omega, by simp only [SV.sub]; omega, ?_⟩
      rw [hlen]
      have e1 : R.cells q = R.cells (q.take a) ++ R.cells (q.drop a) := by rw [← R.cells_append, List.take_append_drop]
      have e2 : (R.cells (q.take a)).length = a * R.sz := by rw [R.cells_len, List.length_take, Nat.min_eq_left (by omega)]
      have e3 : (q.drop a).take (q.length - a) = q.drop a := List.take_of_length_le (by simp)
      rw [e3, ← List.drop_drop]
      have h8 := congrArg (List.drop (a * R.sz)) h7
      rw [e1, ← e2, List.drop_left, e2, List.drop_take, ← Nat.sub_mul] at h8
      exact h8
end
section
variable {P : Program} {α : Type} {R : Rep α} {Rp : Post} {K : List Lay} {N : NN} {l : Fr} {ops : Array Oper} {rest : List Oper} {d : Nat} {ty : Nat} {pos : String} {af : Array Edge} {x y : Operand} {T by_ : Nat} {zs : List Value}
variable {w0 : World} {M : List Nat} {A : Nat → Prop} {es rs : List Ent} {s t : SV} {xs ys qs : List α} {k : Nat}
end
end Go.J

/- J41: a slice whose rows are ours, too: they can be taken out and be turned. No program in sight. -/
namespace Go.J
open Go Go.RowKit
set_option linter.unusedSimpArgs false
set_option linter.unusedSectionVars false
section
variable {α : Type} {R : Rep α} {w0 w : World} {M : List Nat} {A : Nat → Prop} {es rest : List Ent}
/-- the rows that headers lead to, all of them ours -/
def rowsO (R : Rep α) (xs : List (List α)) (xg : List (List α × SV)) : OW := {
  ks := xg.flatMap fun p => p.2.v.ownBlock.toList
  ok := fun w => xg.map Prod.fst = xs ∧ ∀ p, p ∈ xg → w.ownsRow 0 R.T R.sz p.2.v p.1.length (R.cells p.1)
  stay := by
    intro w w' h hk
    exact ⟨hk.1, fun p hp => Ent.okx_of_block (e := .row R p.2.v p.1) (hk.2 p hp) fun k hm => h k (List.mem_flatMap.2 ⟨p, hp, hm⟩)⟩
  lt := by
    intro w hk k hm
    obtain ⟨p, hp, hm⟩ := List.mem_flatMap.1 hm
    exact (World.ownsRow.lt (hk.2 p hp) k (by simpa using hm)).2 }
/-- what is known of the others -/
def LkX {α' G : Type} (D : Nst α' G) (i : Nat) (xs : List α') (xg : List (α' × G)) (w : World) : Prop := xg.map Prod.fst = xs ∧ ∀ j p, j ≠ i → xg[j]? = some p → D.inn p w
theorem LkX.set {α' G : Type} {D : Nst α' G} {i : Nat} {xs : List α'} {xg : List (α' × G)} {x : α'} {g : G} (h : LkX D i xs xg w) (h1 : D.inn (x, g) w) : Lk D (xs.set i x) (xg.set i (x, g)) w :=
  ⟨by rw [List.map_set, h.1], fun p hp => by
    obtain ⟨j, hj, hjp⟩ := List.getElem_of_mem hp
    rw [List.getElem_set] at hjp
    split at hjp
    · subst hjp; exact h1
    · rename_i hne
      exact h.2 j p (fun e => hne e.symm) (by rw [← hjp]; exact List.getElem?_eq_getElem _)⟩
end
end Go.J

/- J42: rows made of nil slices; maps whose values have slices in them. No program in sight. -/
namespace Go.G
open Go Go.J Go.RowKit
set_option linter.unusedSimpArgs false
set_option linter.unusedSectionVars false
section
variable {α G K : Type} [DecidableEq K] {D : Nst α G} {xs : List (K × α)} {xg : List (K × (α × G))} {w : World} {x z : α} {g gz : G} {k : K}
theorem mk_lk {by_ : Nat} {n : Int} {q : List α} (h : makeM by_ z n = some q) (gz : G) : ∃ qg, makeM by_ (z, gz) n = some qg ∧ qg.map Prod.fst = q ∧ ∀ p, p ∈ qg → p = (z, gz) := by
  obtain ⟨m, rfl, h1, h2, rfl⟩ := makeM_spec h
  refine ⟨List.replicate m (z, gz), ?_, by simp, fun p hp => List.eq_of_mem_replicate hp⟩
  unfold makeM
  rw [if_pos (by refine ⟨by omega, by simpa using h1, by simpa using h2⟩)]
  simp
theorem _root_.Go.J.Lk.mk {q : List α} {qg : List (α × G)} (hL : qg.map Prod.fst = q) (hm : ∀ p, p ∈ qg → p = (z, gz)) (h : D.inn (z, gz) w) : Lk D q qg w := ⟨hL, fun p hp => hm p hp ▸ h⟩
theorem cutN_d {α β : Type} {lo hi : Int} {qs : List α} (h : sliceI ([] : List α) lo hi = some qs) : sliceI ([] : List β) lo hi = some [] := by
  obtain ⟨p, q, rfl, rfl, hpq, hq, -⟩ := sliceI_spec h
  simp at hq
  unfold sliceI
  rw [if_pos (by simp; omega)]
  simp
/-- the entries of a map, and the entries with their headers -/
def LkM {α G K : Type} (D : Nst α G) (xs : List (K × α)) (xg : List (K × (α × G))) (w : World) : Prop := mpV Prod.fst xg = xs ∧ ∀ p, p ∈ xg → D.inn p.2 w
theorem _root_.Go.J.FactRo.nilM {es : List Ent} (K : Type) (D : Nst α G) : FactRo es (LkM D ([] : List (K × α)) []) := .imp (.tru trivial) fun _ _ => ⟨rfl, fun p hp => by cases hp⟩
theorem lkM_in {V : Type} {l : List (K × V)} {v : V} (h : lkM l k = some v) : (k, v) ∈ l := by
  unfold lkM at h
  cases hf : l.find? (fun p => decide (p.1 = k)) with
  | none => rw [hf] at h; cases h
  | some p =>
    rw [hf] at h
    have h1 := List.mem_of_find?_eq_some hf
    have h2 := List.find?_some hf
    simp at h h2
    subst h h2
    exact h1
theorem putM_in {V : Type} {l : List (K × V)} {v : V} {p : K × V} (h : p ∈ putM l k v) : p ∈ l ∨ p = (k, v) := by
  unfold putM at h
  split at h
  · obtain ⟨q, hq, rfl⟩ := List.mem_map.1 h
    split
    · exact .inr rfl
    · exact .inl hq
  · rcases List.mem_append.1 h with h | h
    · exact .inl h
    · exact .inr (List.mem_singleton.1 h)
theorem lkM_dget (hL : mpV Prod.fst xg = xs) (k : K) (z : α) (gz : G) : ∃ g, (lkM xg k).getD (z, gz) = ((lkM xs k).getD z, g) := by
  subst hL
  rw [lkM_map]
  cases lkM xg k with
  | none => exact ⟨gz, rfl⟩
  | some p => exact ⟨p.2, rfl⟩
theorem lkM_has (hL : mpV Prod.fst xg = xs) (k : K) : hasM xg k = hasM xs k := by rw [← hL, hasM_map]
theorem LkM.dget {y : α × G} (h : LkM D xs xg w) (hz : D.inn (z, gz) w) (hg : (lkM xg k).getD (z, gz) = y) : D.inn y w := by
  subst hg
  cases hl : lkM xg k with
  | none => exact hz
  | some p => exact h.2 _ (lkM_in hl)
theorem putM_hL (hL : mpV Prod.fst xg = xs) : mpV Prod.fst (putM xg k (x, g)) = putM xs k x := by rw [← hL]; exact (putM_map Prod.fst xg k (x, g)).symm
theorem LkM.put (h : LkM D xs xg w) (h1 : D.inn (x, g) w) : LkM D (putM xs k x) (putM xg k (x, g)) w := ⟨putM_hL h.1, fun p hp => by
  rcases putM_in hp with h2 | rfl
  · exact h.2 p h2
  · exact h1⟩
end
section
variable {P : Program} {N : NN} {l : Fr} {dd : Option Nat} {ty : Nat} {pos : String} {af : Array Edge} {g : Option (Nat × Bool)} {x y : Operand} {T E Tk : TypeId} {c : Bool}
variable {w0 : World} {M : List Nat} {A : Nat → Prop} {es : List Ent} {b : Nat} {K V : Type} [DecidableEq K] {kv : K → Value} {vv : V → Value} {L : List (K × V)} {k : K} {z y0 : V} {mes : Array MapEntry} {mcl : Nat}
theorem p_lkoD (hT : P.underlying T = some (.map Tk E)) (hK : KeyF P Tk kv) (hz : ∀ w, (zeroValue E).run P w = .ok (vv z) w) (hj : FactAt es (MapAt kv b (mpV vv L) mes mcl)) (hx : ev l x = some (.map (some b))) (hy : ev l y = some (kv k)) (hg : (lkM L k).getD z = y0) (hs : hasM L k = c) :
    PureOp P N ⟨dd, .lookup T x y true, ty, pos, af, g⟩ l (Sat w0 M A es) (.tuple #[vv y0, .bool c]) := by
  subst hg hs
  exact p_lko hT hK hz hj hx hy
end
end Go.G
