/- JB: the rules (J17..J44), in one text. No program in sight. -/
import Derived.Test.YthonhgainmokhabDoorJA
import Derived.RangeFuncRecord
import Derived.RangeFuncIn
import Derived.Lib.AppendStr
import Derived.Lib.UnsafeStr
import Derived.Lib.Builder
import Derived.MapKept
import Derived.Lib.Bytealg
import Derived.Lib.SlicesCompact
import Derived.Lib.AppendZeros
import Derived.Laws.MakeOwn
/- J17: conversions; an error held against nil. No program in sight. -/
namespace Go.J
open Go Go.RowKit
section
variable {P : Program} {N : NN} {l : Fr} {H : World → Prop} {dd : Option Nat} {ty : Nat} {pos : String} {af : Array Edge} {g : Option (Nat × Bool)} {x : Operand} {T T' : TypeId} {m : Int} {k k' : IntKind} {dS : TypeDesc}
end
end Go.J

/- J18: code in a round of a range over a function; functions that leave with a mark. No program in sight. -/
namespace Go.J
open Go Go.RowKit

/-! ### code that does the same in a round -/
def noDefer (o : Oper) : Bool := match o.op with | .defer _ => false | _ => true
def rcode : Code → Bool
  | .seq x y => rcode x && rcode y
  | .region _ ops _ => ops.toList.all noDefer
  | .cond _ x y => rcode x && rcode y
  | .block _ c => rcode c
  | .loop c => rcode c
  | .exit _ | .ret | .skip => true
  | _ => false
/-! ### a block that holds no cells -/
def oneO (b : Nat) (o : Obj) : OW := ⟨[b], fun w => w.heap[b]? = some o, fun h hk => (h b (by simp)).trans hk, fun h k hk => by simp at hk; subst hk; exact (Array.getElem?_eq_some_iff.1 h).1⟩
section
variable {w0 w : World} {M : List Nat} {A : Nat → Prop} {es : List Ent} {b k : Nat} {o o' : Obj}
theorem Sat.objAt (h : Sat w0 M A es w) {q : OW} (hk : nth es k = some (.obj q)) : q.ok w := h.okx _ (nth_mem hk)
end

/-! ### functions that leave with a mark -/
def markOf (D : Nat) : Deferred := { target := .collected D, args := #[] }
def defO (D : Nat) : OW := oneO D (.deferred (some []))
/-- what the body of such a function must achieve -/
def markPost (P : Program) (fn : Func) (R : Ending → World → Prop) : Post := fun e a w => match e with
  | .normal | .ret => LeavesInM Fence.wide 0 P fn a.tmps R a.defers .returning w
  | _ => False
instance {P : Program} {fn : Func} {R : Ending → World → Prop} : PanicOk (markPost P fn R) := ⟨fun _ _ _ _ _ h => h⟩
section
variable {P : Program} {K : List Lay} {l : Fr} {w0 : World} {M : List Nat} {A : Nat → Prop} {es r : List Ent} {rs : List ResultVar} {vs : List Value} {fn : Func} {X : Type} {V : X → Value} {post : X → List Ent}
end
end Go.J

/- J19: 'for i, x := range slices.Backward(s)'. No program in sight. -/
namespace Go.J
open Go Go.RowKit
/-- the model of the loop -/
def rangeB {α σ ρ : Type} (step : Nat → α → σ → Option (Flow σ ρ)) (xs : List α) (s : σ) : Option (Flow σ ρ) := rangeM (fun j x s => step (xs.length - 1 - j) x s) 0 xs.reverse s
/-- the library's closure -/
def backCode (TS TE TF TI TB : Nat) (p q : String) : Code :=
  .seq (.region 0 #[⟨some 4, .load TS (.tmp 1), TS, p, #[], none⟩, ⟨some 5, .call { callee := .builtin .len, args := #[.tmp 4], argTypes := #[TS] }, TI, p, #[⟨0, .data⟩], none⟩,
      ⟨some 6, .binOp .sub TI (.tmp 5) (.const (.int .i64 1)) TI, TI, p, #[⟨1, .data⟩], none⟩, ⟨some 3, .assign (.tmp 6), TI, p, #[⟨2, .data⟩, ⟨0, .phase⟩, ⟨1, .phase⟩, ⟨2, .phase⟩], none⟩] false)
    (.block 0 (.loop (.seq (.seq (.region 1 #[⟨some 7, .move (.tmp 3), TI, p, #[], none⟩, ⟨some 8, .binOp .geq TI (.tmp 7) (.const (.int .i64 0)) TI, TB, p, #[⟨0, .data⟩], none⟩] false) (.cond (.tmp 8) .skip (.exit 0)))
      (.seq (.block 1 (.seq (.region 3 #[⟨some 11, .move (.tmp 0), TF, q, #[], none⟩, ⟨some 12, .move (.tmp 3), TI, q, #[], none⟩, ⟨some 13, .load TS (.tmp 1), TS, q, #[], none⟩, ⟨some 14, .move (.tmp 3), TI, q, #[], none⟩,
          ⟨some 15, .indexAddr TS (.tmp 13) (.tmp 14), 0, q, #[⟨2, .data⟩, ⟨3, .data⟩], none⟩, ⟨some 16, .load TE (.tmp 15), TE, q, #[⟨4, .data⟩], none⟩,
          ⟨some 17, .call { callee := .value (.tmp 11), args := #[.tmp 12, .tmp 16], argTypes := #[TI, TE] }, TB, q, #[⟨0, .data⟩, ⟨1, .data⟩, ⟨5, .data⟩], none⟩, ⟨some 18, .unOp .not TB (.tmp 17), TB, q, #[⟨6, .data⟩], none⟩] false) (.cond (.tmp 18) .ret .skip)))
        (.region 2 #[⟨some 9, .move (.tmp 3), TI, p, #[], none⟩, ⟨some 10, .binOp .sub TI (.tmp 9) (.const (.int .i64 1)) TI, TI, p, #[⟨0, .data⟩], none⟩,
          ⟨some 3, .assign (.tmp 10), TI, p, #[⟨1, .data⟩, ⟨0, .phase⟩, ⟨1, .phase⟩], none⟩] false)))))
section
variable {P : Program} {N : NN} {l : Fr} {H : World → Prop} {Q : Post} {a : Act} {w : World} {ops : Array Oper}
end
section
variable {P : Program} {w0 : World} {M : List Nat} {A : Nat → Prop} {α σ γ ρ : Type} {R : Rep α} {xs : List α} {sv : SV} {fn : Func} {kb bx TS TE TF TI TB by_ by2 : Nat} {p q : String} {zs zs2 : List Value}
end
end Go.J

/- J20: strings.Builder: what it holds as an entry of ours; append of a string; a string over bytes. No program in sight. -/
namespace Go.J
open Go Go.RowKit
set_option linter.unusedSimpArgs false
/-- bytes in memory -/
def RB (T : TypeId) : Rep UInt8 := ⟨T, 1, 1, fun u => [.int .u8 u.toNat], fun _ => rfl, fun x u hu => by simp only [List.mem_singleton] at hu; subst hu; rfl, by decide⟩
/-- a builder in block b: its bytes are l, s is the header of their row -/
def bldO (Tb T8 : TypeId) (b : Nat) (s : SV) (l : List UInt8) : OW := {
  ks := b :: s.v.ownBlock.toList
  ok := fun w => (b :: s.v.ownBlock.toList).Nodup ∧ (∃ q, (q = none ∨ q = some ⟨b, 0, none⟩) ∧ w.heap[b]? = some (.cells [.pointer q, s.v].toArray Tb (0, 0))) ∧ w.ownsRow 0 T8 1 s.v l.length ((RB T8).cells l) ∧ (l = [] → s = nilS) ∧ (l ≠ [] → s.a ≠ none)
  stay := fun {w w'} h hk => by
    refine ⟨hk.1, ?_, ?_, hk.2.2.2⟩
    · obtain ⟨q, h1, h2⟩ := hk.2.1
      exact ⟨q, h1, (h b (List.mem_cons_self ..)).trans h2⟩
    · exact Ent.okx_of_block (e := .row (RB T8) s.v l) (w := w) hk.2.2.1 (fun k hk => h k (List.mem_cons_of_mem _ hk))
  lt := fun {w} hk k hkm => by
    rcases List.mem_cons.1 hkm with rfl | h
    · obtain ⟨q, -, h2⟩ := hk.2.1
      exact (Array.getElem?_eq_some_iff.1 h2).1
    · exact Ent.okx_lt (e := .row (RB T8) s.v l) (w := w) hk.2.2.1 h }
section
variable {w0 w : World} {M : List Nat} {A : Nat → Prop} {es : List Ent} {Tb T8 b : Nat} {s : SV} {l : List UInt8}
theorem Sat.cast1 {fs : List Ent} {e : Ent} (h : Sat w0 M A (fs ++ es) w) (hk : keys fs = e.kl) (hok : e.okx w) (hro : ∀ F, e ≠ .ro F) : Sat w0 M A (e :: es) w := by
  have hkk : keys (e :: es) = keys (fs ++ es) := by rw [keys_append, keys_cons, hk]
  refine ⟨h.chg, h.dis, by rw [hkk]; exact h.nodup, fun k hm => h.fresh k (by rw [← hkk]; exact hm), fun f hf => ?_, fun f hf => ?_⟩
  · rcases List.mem_cons.1 hf with h1 | h1
    · subst h1; exact hok
    · exact h.okx f (List.mem_append_right _ h1)
  · rcases List.mem_cons.1 hf with h1 | h1
    · subst h1
      cases f with
      | ro F => exact (hro F rfl).elim
      | box b T cs => trivial
      | row R v xs => trivial
      | obj o => trivial
    · rw [hkk]; exact h.okr f (List.mem_append_right _ h1)
end
section
variable {P : Program} {Rp : Post} {K : List Lay} {N : NN} {l : Fr} {ops : Array Oper} {rest : List Oper} {d : Nat} {dd : Option Nat} {ty : Nat} {pos : String} {af : Array Edge} {g : Option (Nat × Bool)} {x y : Operand} {T T' T8 Tb b : TypeId} {c : Code}
variable {w0 : World} {M : List Nat} {A : Nat → Prop} {es : List Ent} {s : SV} {bs : List UInt8} {t : ByteArray} {k : Nat} {zs : List Value}
end
end Go.J

/- J21: pointers against nil, against themselves, through unsafe.Pointer; a call that the model answers itself. No program in sight. -/
namespace Go.J
open Go Go.RowKit
section
variable {P : Program} {Rp : Post} {K : List Lay} {N : NN} {l : Fr} {ops : Array Oper} {rest : List Oper} {d : Nat} {dd : Option Nat} {ty : Nat} {pos : String} {af : Array Edge} {g : Option (Nat × Bool)} {x y : Operand} {T T' Te Tb : TypeId}
variable {w0 : World} {M : List Nat} {A : Nat → Prop} {es : List Ent} {H : World → Prop} {k b : Nat} {cs : List Value}
end
end Go.J

/- J22: maps of plain things: a block of ours that holds a map; look, put, entry and store, delete, length. No program in sight. -/
namespace Go.J
open Go Go.RowKit
set_option linter.unusedSimpArgs false
set_option linter.unusedSectionVars false
/-! ### the plain side: a map is its entries, in the order in which they came -/
section
variable {K V V' : Type} [DecidableEq K]
def lkM (l : List (K × V)) (k : K) : Option V := (l.find? fun p => decide (p.1 = k)).map (·.2)
def hasM (l : List (K × V)) (k : K) : Bool := l.any fun p => decide (p.1 = k)
def putM (l : List (K × V)) (k : K) (v : V) : List (K × V) := if hasM l k then l.map (fun p => if p.1 = k then (k, v) else p) else l ++ [(k, v)]
def delM (l : List (K × V)) (k : K) : List (K × V) := l.filter fun p => !decide (p.1 = k)
def mpV (f : V → V') (l : List (K × V)) : List (K × V') := l.map fun p => (p.1, f p.2)
theorem hasM_map (f : V → V') (l : List (K × V)) (k : K) : hasM (mpV f l) k = hasM l k := by
  unfold hasM mpV
  rw [List.any_map]; rfl
theorem putM_map (f : V → V') (l : List (K × V)) (k : K) (v : V) : putM (mpV f l) k (f v) = mpV f (putM l k v) := by
  unfold putM
  rw [hasM_map]
  split
  · simp only [mpV, List.map_map]
    refine List.map_congr_left fun p _ => ?_
    simp only [Function.comp]
    by_cases h : p.1 = k <;> simp [h]
  · simp [mpV]
theorem hasM_iff (l : List (K × V)) (k : K) : hasM l k = true ↔ k ∈ l.map Prod.fst := by
  unfold hasM
  simp only [List.any_eq_true, decide_eq_true_eq, List.mem_map]
theorem lkM_some {l : List (K × V)} {k : K} {v : V} (hn : (l.map Prod.fst).Nodup) (i : Nat) (h : l[i]? = some (k, v)) : lkM l k = some v := by
  induction l generalizing i with
  | nil => cases h
  | cons p l ih =>
    simp only [List.map_cons, List.nodup_cons] at hn
    cases i with
    | zero => simp at h; subst h; simp [lkM]
    | succ i =>
      have h' : l[i]? = some (k, v) := by simpa using h
      have hne : p.1 ≠ k := fun e => hn.1 (by rw [e]; exact List.mem_map.2 ⟨(k, v), List.mem_of_getElem? h', rfl⟩)
      have := ih hn.2 i h'
      unfold lkM at this ⊢
      rw [List.find?_cons, decide_eq_false hne]
      exact this
end
/-! ### keys -/
structure KeyF (P : Program) (T : TypeId) {K : Type} [DecidableEq K] (kv : K → Value) : Prop where
  chk : ∀ em k w, (Instr.checkKey em 10000 T (kv k)).run P w = .ok () w
  eq : ∀ x y w, (Op.equal T (kv x) (kv y)).run P w = .ok (decide (x = y)) w
  now : ∃ d, P.underlying T = some d ∧ ((∀ x y, Instr.sameNow d (kv x) (kv y) = some (decide (x = y))) ∨ ∀ x y, Instr.sameNow d (kv x) (kv y) = none)
  same : ∀ k, Instr.sameBits 10000 (kv k) (kv k) = true
section
variable {P : Program} {T : TypeId} {K : Type} [DecidableEq K] {kv : K → Value}
def EL (kv : K → Value) (es : List MapEntry) (l : List (K × Value)) : Prop := es.map (fun e => (e.key, e.val)) = l.map fun p => (kv p.1, p.2)
end
/-! ### a map in a block of ours -/
section
variable {K : Type} [DecidableEq K]
structure MapAt (kv : K → Value) (b : Nat) (l : List (K × Value)) (es : Array MapEntry) (clock : Nat) (w : World) : Prop where
  heap : w.heap[b]? = some (.map es clock)
  el : EL kv es.toList l
  nd : (l.map Prod.fst).Nodup
  born : ∀ e ∈ es.toList, e.born < clock
  bnd : (es.toList.map (·.born)).Nodup
def mapO (kv : K → Value) (b : Nat) (l : List (K × Value)) (es : Array MapEntry) (clock : Nat) : OW := {
  ks := [b]
  ok := MapAt kv b l es clock
  stay := fun {w w'} h m => ⟨(h b (List.mem_singleton.2 rfl)).trans m.heap, m.el, m.nd, m.born, m.bnd⟩
  lt := fun {w} m k hkm => by
    rw [List.mem_singleton.1 hkm]
    exact (Array.getElem?_eq_some_iff.1 m.heap).1 }
/-- which entry was born as the n-th -/
def BornAt (l : List (K × Value)) (es : Array MapEntry) (k : K) (n : Nat) : Prop := ∃ (i : Nat) (e : MapEntry), es.toList[i]? = some e ∧ e.born = n ∧ ∃ v, l[i]? = some (k, v)
theorem EL.len {kv : K → Value} {es : List MapEntry} {l : List (K × Value)} (h : EL kv es l) : es.length = l.length := by
  have := congrArg List.length h
  simpa using this
theorem EL.set {kv : K → Value} {es : List MapEntry} {l : List (K × Value)} (h : EL kv es l) (i : Nat) (k : K) (v : Value) (f : MapEntry → MapEntry) (hf : ∀ e, es[i]? = some e → (f e).key = kv k ∧ (f e).val = v) :
    EL kv (es.modify i f) (l.set i (k, v)) := by
  unfold EL at h ⊢
  refine List.ext_getElem? fun j => ?_
  have hj := congrArg (·[j]?) h
  simp only [List.getElem?_map] at hj ⊢
  rw [List.getElem?_modify, List.getElem?_set]
  by_cases hij : i = j
  · subst hij
    rw [if_pos rfl]
    cases he : es[i]? with
    | none =>
      have : ¬ i < l.length := by
        rw [← EL.len h]
        exact fun hlt => by rw [List.getElem?_eq_getElem hlt] at he; cases he
      simp [this]
    | some e =>
      have : i < l.length := by
        rw [← EL.len h]
        exact (List.getElem?_eq_some_iff.1 he).1
      have h1 := hf e he
      simp [this, h1.1, h1.2]
  · rw [if_neg hij]
    simp only [if_neg hij]
    simpa using hj
theorem mod_born (es : List MapEntry) (i : Nat) (f : MapEntry → MapEntry) (hf : ∀ e, (f e).born = e.born) : (es.modify i f).map (·.born) = es.map (·.born) := by
  refine List.ext_getElem? fun j => ?_
  simp only [List.getElem?_map, List.getElem?_modify]
  by_cases hij : i = j
  · subst hij; cases es[i]? <;> simp [hf]
  · simp only [if_neg hij]; cases es[j]? <;> rfl
theorem MapAt.put {kv : K → Value} {b : Nat} {l : List (K × Value)} {es : Array MapEntry} {clock : Nat} {w w' : World} (m : MapAt kv b l es clock w) {i : Nat} {k : K} {v u : Value} (hi : l[i]? = some (k, u)) (f : MapEntry → MapEntry)
    (hf : ∀ e, es[i]? = some e → (f e).key = kv k ∧ (f e).val = v) (hb : ∀ e, (f e).born = e.born) (hw : w'.heap[b]? = some (.map (es.modify i f) clock)) : MapAt kv b (l.set i (k, v)) (es.modify i f) clock w' := by
  have hbm := mod_born es.toList i f hb
  refine ⟨hw, ?_, ?_, ?_, ?_⟩
  · rw [Array.toList_modify]
    exact m.el.set i k v f fun e he => hf e (by simpa using he)
  · have : (l.set i (k, v)).map Prod.fst = l.map Prod.fst := by
      rw [List.map_set]
      have h2 := List.getElem?_eq_some_iff.1 hi
      have h3 : k = (l.map Prod.fst)[i]'(by simpa using h2.1) := by simp [h2.2]
      show (l.map Prod.fst).set i k = _
      conv => lhs; rw [h3]
      rw [List.set_getElem_self]
    rw [this]; exact m.nd
  · rw [Array.toList_modify]
    intro e he
    have : e.born ∈ (es.toList.modify i f).map (·.born) := List.mem_map_of_mem he
    rw [hbm] at this
    obtain ⟨e', he', h⟩ := List.mem_map.1 this
    rw [← h]; exact m.born e' he'
  · rw [Array.toList_modify, hbm]; exact m.bnd
end
end Go.J

/- J23: what the program does with a map of ours. No program in sight. -/
namespace Go.J
open Go Go.RowKit
set_option linter.unusedSimpArgs false
set_option linter.unusedSectionVars false
section
variable {P : Program} {K : Type} [DecidableEq K] {kv : K → Value} {b : Nat} {l : List (K × Value)} {es : Array MapEntry} {clock : Nat} {w : World} {T E Tk : TypeId} {k : K} {z v : Value}
theorem MapAt.entry (m : MapAt kv b l es clock w) {i : Nat} {u : Value} (h : l[i]? = some (k, u)) : ∃ e, es.toList[i]? = some e ∧ e.key = kv k ∧ e.val = u := by
  have hj := congrArg (·[i]?) m.el
  simp only [List.getElem?_map, h] at hj
  cases he : es.toList[i]? with
  | none => rw [he] at hj; cases hj
  | some e =>
    rw [he] at hj
    simp at hj
    exact ⟨e, rfl, hj.1, hj.2⟩
end
section
variable {P : Program} {Rp : Post} {Kk : List Lay} {N : NN} {l : Fr} {ops : Array Oper} {rest : List Oper} {d : Nat} {dd : Option Nat} {ty : Nat} {pos : String} {af : Array Edge} {g : Option (Nat × Bool)} {x y u : Operand} {T E Tk : TypeId} {c : Code}
variable {w0 : World} {M : List Nat} {A : Nat → Prop} {es : List Ent} {j b : Nat} {K V : Type} [DecidableEq K] {kv : K → Value} {vv : V → Value} {L : List (K × V)} {k : K} {v z : V} {mes : Array MapEntry} {mcl : Nat}
end
end Go.J

/- J24: what may be a map's key. No program in sight. -/
namespace Go.J
open Go Go.RowKit
set_option linter.unusedSimpArgs false
section
variable {P : Program} {T : TypeId}
end
theorem FactAt.map {es : List Ent} {K : Type} {kv : K → Value} [DecidableEq K] {b : Nat} {l : List (K × Value)} {mes : Array MapEntry} {mcl : Nat} (j : Nat) (h : nth es j = some (.obj (mapO kv b l mes mcl))) : FactAt es (MapAt kv b l mes mcl) := .obj j h
end Go.J

/- J25: 'for k, v := range m' over a map that stays as it is: any order of its entries. No program in sight. -/
namespace Go.J
open Go Go.RowKit
set_option linter.unusedSimpArgs false
set_option linter.unusedSectionVars false
/-- what comes out whatever the order -/
noncomputable def anyOrd {α β : Type} (L : List α) (f : List α → Option β) : Option β := by
  classical exact if h : ∃ r, ∀ L', L'.Perm L → f L' = some r then some h.choose else none
/-! ### the iterator -/
def bornOf (es : Array MapEntry) (i : Nat) : Nat := ((es[i]?).map (·.born)).getD 0
def itObj (b : Nat) (es : Array MapEntry) (clock : Nat) (idx : List Nat) : Obj := .mapIter (some b) clock (idx.map (bornOf es)).toArray clock
section
variable {P : Program} {K : Type} [DecidableEq K] {kv : K → Value} {b r : Nat} {l : List (K × Value)} {es : Array MapEntry} {clock : Nat} {w : World}
theorem MapAt.size (m : MapAt kv b l es clock w) : es.size = l.length := by
  have := EL.len m.el
  simpa using this
end
end Go.J

/- J26: 'for k, v := range m': the rules. No program in sight. -/
namespace Go.J
open Go Go.RowKit
set_option linter.unusedSimpArgs false
set_option linter.unusedSectionVars false
section
variable {P : Program} {K : Type} [DecidableEq K] {kv : K → Value} {b r : Nat} {l : List (K × Value)} {es : Array MapEntry} {clock : Nat} {w : World}
end
/-- the entries that were met, in the order in which they were met -/
def met {α : Type} (L : List α) (idx : List Nat) : List α := idx.filterMap (L[·]?)
section
variable {P : Program} {R : Post} {Kk : List Lay} {N : NN} {fr l : Fr} {ops : Array Oper} {rest : List Oper} {d : Nat} {dd : Option Nat} {ty : Nat} {pos : String} {af : Array Edge} {g : Option (Nat × Bool)} {x y u : Operand} {T E Tk : TypeId} {c : Code}
variable {w0 : World} {M : List Nat} {A : Nat → Prop} {es : List Ent} {j k b rb : Nat} {K V : Type} [DecidableEq K] {kv : K → Value} {vv : V → Value} {L : List (K × V)} {v z : V} {mes : Array MapEntry} {mcl : Nat}
end
end Go.J

/- J27: 'for k := range maps.Keys(m)': whatever the order. No program in sight. -/
namespace Go.J
open Go Go.RowKit
set_option linter.unusedSimpArgs false
set_option linter.unusedSectionVars false
/-- the library's closure -/
def keysCode (TM TK TF TB : Nat) (p q : String) : Code :=
  .seq (.region 0 #[⟨some 4, .load TM (.tmp 1), TM, p, #[], none⟩, ⟨some 5, .range TM (.tmp 4), 0, p, #[⟨0, .data⟩], none⟩] false)
    (.block 0 (.loop (.seq (.region 1 #[⟨some 6, .next (.tmp 5) false, 0, p, #[], none⟩, ⟨some 7, .extract (.tmp 6) 0, TB, p, #[⟨0, .data⟩], none⟩] false)
      (.seq (.cond (.tmp 7) .skip (.exit 0)) (.block 1 (.seq (.region 2 #[⟨some 8, .entry (.tmp 5), 0, p, #[], none⟩, ⟨some 9, .extract (.tmp 8) 0, TK, p, #[⟨0, .data⟩], none⟩, ⟨some 3, .assign (.tmp 9), TK, p, #[⟨1, .data⟩, ⟨0, .phase⟩, ⟨1, .phase⟩], none⟩] false)
        (.seq (.region 3 #[⟨some 10, .move (.tmp 0), TF, q, #[], none⟩, ⟨some 11, .move (.tmp 3), TK, q, #[], none⟩, ⟨some 12, .call { callee := .value (.tmp 10), args := #[.tmp 11], argTypes := #[TK] }, TB, q, #[⟨0, .data⟩, ⟨1, .data⟩], none⟩,
            ⟨some 13, .unOp .not TB (.tmp 12), TB, q, #[⟨2, .data⟩], none⟩] false) (.cond (.tmp 13) .ret .skip))))))))
section
variable {P : Program} {w0 : World} {M : List Nat} {A : Nat → Prop} {K V σ γ ρ β : Type} [DecidableEq K] {kv : K → Value} {vv : V → Value} {L : List (K × V)} {mes : Array MapEntry} {mcl mb : Nat} {fn : Func} {kb bx TM TE TK TF TB by2 : Nat} {p q : String} {zs2 : List Value}
end
end Go.J

/- J28: strings in order: comparing, sorting, compacting; all keys of a map. No program in sight. -/
namespace Go.G
open Go Go.J
set_option linter.unusedSimpArgs false
abbrev Bs := List UInt8
/-- what ends with a permutation -/
noncomputable def KfP {α ρ : Type} (L : List α) (f : Flow (List α) ρ) : Option Unit := by
  classical exact if ∃ L', L'.Perm L ∧ f = .brk L' then some () else none
def appStep {α ρ : Type} (by_ : Nat) (_ : Nat) (x : α) (u : List α) : Option (Flow (List α) ρ) := (appM by_ u [x]).bind fun q => some (.nxt q)
end Go.G

/- J29: room made ahead (slices.Grow of nil): cap of nil, append(nil, make(..)...), the cut of that room. No program in sight. -/
namespace Go.G
open Go Go.J
set_option linter.unusedSimpArgs false
/-- how often a closure may call itself -/
@[irreducible] def FUEL : Nat := 100000
/-- a row that was grown from nil by n: too long fails -/
def growM (by_ : Nat) (n : Int) : Option Unit := if 0 < n ∧ n.toNat * by_ ≤ 140737488355328 ∧ n.toNat ≤ maxLen then some () else none
/-- a block of c elements, whatever they are -/
def spareO (T sz b c : Nat) : OW := {
  ks := [b]
  ok := fun w => c ≤ maxLen ∧ ∃ cur : Array Value, w.heap[b]? = some (.cells cur T (0, 0)) ∧ cur.size = c * sz
  stay := fun h hk => ⟨hk.1, by obtain ⟨cur, h1, h2⟩ := hk.2; exact ⟨cur, (h b (by simp)).trans h1, h2⟩⟩
  lt := fun h k hk => by
    simp at hk
    subst hk
    obtain ⟨cur, h1, -⟩ := h.2
    exact (Array.getElem?_eq_some_iff.1 h1).1 }
section
variable {P : Program} {α : Type} {R : Rep α} {Rp : Post} {K : List Lay} {N : NN} {l : Fr} {ops : Array Oper} {rest : List Oper} {d : Nat} {dd : Option Nat} {ty : Nat} {pos : String} {af : Array Edge} {g : Option (Nat × Bool)} {x y : Operand} {T Ti by_ : Nat} {zs : List Value}
variable {w0 : World} {M : List Nat} {A : Nat → Prop} {es : List Ent} {b c k n : Nat} {m : Int} {u : Unit}
end
end Go.G

/- J30: maps whose values lead to more of ours (rows of things, blocks with maps of their own): the map and all that its values lead to are one object. No program in sight. -/
namespace Go.J
open Go Go.RowKit
set_option linter.unusedSimpArgs false
set_option linter.unusedSectionVars false
section
variable {K X G : Type} [DecidableEq K]
/-! ### the plain side -/
def repM {V : Type} (l : List (K × V)) (k : K) (v : V) : List (K × V) := l.map fun p => if p.1 = k then (k, v) else p
theorem lkM_has {V : Type} (l : List (K × V)) (k : K) : hasM l k = (lkM l k).isSome := by
  unfold hasM lkM
  rw [Option.isSome_map, Bool.eq_iff_iff, List.find?_isSome, List.any_eq_true]
theorem lkM_mem {V : Type} {l : List (K × V)} {k : K} {v : V} (h : lkM l k = some v) : (k, v) ∈ l := by
  unfold lkM at h
  cases hf : l.find? fun p => decide (p.1 = k) with
  | none => rw [hf] at h; cases h
  | some p =>
    rw [hf] at h
    cases h
    have h1 := List.find?_some hf
    have h2 := List.mem_of_find?_eq_some hf
    simp at h1
    rw [← h1]; exact h2
/-! ### what the values lead to -/
def famEs (ents : X → G → List Ent) (xs : List (K × X)) (Z : List (K × G)) (hol : Option K) : List Ent :=
  (xs.zip Z).flatMap fun p => if hol = some p.1.1 then [] else ents p.1.2 p.2.2
def fem (ents : X → G → List Ent) (hol : Option K) (t : K × (X × G)) : List Ent := if hol = some t.1 then [] else ents t.2.1 t.2.2
variable (kv : K → Value) (vv : G → Value) (ents : X → G → List Ent) (b : Nat)
structure FamAt (xs : List (K × X)) (Z : List (K × G)) (hol : Option K) (es : Array MapEntry) (cl : Nat) (w : World) : Prop where
  map : MapAt kv b (mpV vv Z) es cl w
  kys : xs.map Prod.fst = Z.map Prod.fst
  own : ∀ e ∈ famEs ents xs Z hol, e.okx w
def famO (xs : List (K × X)) (Z : List (K × G)) (hol : Option K) (es : Array MapEntry) (cl : Nat) : OW := {
  ks := b :: keys (famEs ents xs Z hol)
  ok := FamAt kv vv ents b xs Z hol es cl
  stay := fun {w w'} h m => ⟨(mapO kv b (mpV vv Z) es cl).stay (fun k hk => h k (by rw [List.mem_singleton.1 hk]; exact List.mem_cons_self ..)) m.map, m.kys,
    fun e he => Ent.okx_of_block (m.own e he) fun k hk => h k (List.mem_cons_of_mem _ (mem_keys.2 ⟨e, he, hk⟩))⟩
  lt := fun {w} m k hk => by
    rcases List.mem_cons.1 hk with rfl | hk
    · exact (Array.getElem?_eq_some_iff.1 m.map.heap).1
    · obtain ⟨e, he, hek⟩ := mem_keys.1 hk
      exact Ent.okx_lt (m.own e he) hek }
variable {kv vv ents b}
theorem FamAt.ndZ {xs : List (K × X)} {Z : List (K × G)} {hol : Option K} {es : Array MapEntry} {cl : Nat} {w : World} (m : FamAt kv vv ents b xs Z hol es cl w) : (Z.map Prod.fst).Nodup := by
  have := m.map.nd
  rwa [show (mpV vv Z).map Prod.fst = Z.map Prod.fst by unfold mpV; rw [List.map_map]; rfl] at this
theorem FamAt.has {xs : List (K × X)} {Z : List (K × G)} {hol : Option K} {es : Array MapEntry} {cl : Nat} {w : World} (m : FamAt kv vv ents b xs Z hol es cl w) (k : K) : hasM Z k = hasM xs k := by
  rw [Bool.eq_iff_iff, hasM_iff, hasM_iff, m.kys]
theorem FamAt.len {xs : List (K × X)} {Z : List (K × G)} {hol : Option K} {es : Array MapEntry} {cl : Nat} {w : World} (m : FamAt kv vv ents b xs Z hol es cl w) : Z.length = xs.length := by
  have := congrArg List.length m.kys
  simpa using this.symm
theorem FamAt.lk {xs : List (K × X)} {Z : List (K × G)} {hol : Option K} {es : Array MapEntry} {cl : Nat} {w : World} (m : FamAt kv vv ents b xs Z hol es cl w) (k : K) :
    (lkM xs k = none ∧ lkM Z k = none) ∨ ∃ x g, lkM xs k = some x ∧ lkM Z k = some g := by
  have h := m.has k
  rw [lkM_has, lkM_has] at h
  cases h1 : lkM xs k with
  | none => rw [h1] at h; left; exact ⟨rfl, by simpa using h⟩
  | some x =>
    rw [h1] at h
    cases h2 : lkM Z k with
    | none => rw [h2] at h; cases h
    | some g => exact .inr ⟨x, g, rfl, rfl⟩
end
/-! ### the lists of what is ours, grouped anew -/
section
variable {w0 w w' : World} {M : List Nat} {A : Nat → Prop} {es es' rs : List Ent}
theorem Sat.regroup (h : Sat w0 M A es w) (hk : (keys es').Nodup) (hsub : ∀ k ∈ keys es', k ∈ keys es) (hok : ∀ e ∈ es', e.okx w) (hro : ∀ F, Ent.ro F ∈ es' → Ent.ro F ∈ es) : Sat w0 M A es' w :=
  ⟨h.chg, h.dis, hk, fun k hk' => h.fresh k (hsub k hk'), hok, fun e he => by
    cases e with
    | ro F => exact okr_congr (h.okr _ (hro F he)) fun _ hb => hsub _ hb
    | box b T cs => trivial
    | row R v xs => trivial
    | obj o => trivial⟩
/-- the entries 'a' in front become the entries 'a'' with (some of) the same blocks -/
theorem Sat.front {a a' : List Ent} (h : Sat w0 M A (a ++ rs) w) (hp : ∃ r, (keys a).Perm (keys a' ++ r)) (hok : ∀ e ∈ a', e.okx w) (hro : ∀ F, Ent.ro F ∉ a') : Sat w0 M A (a' ++ rs) w := by
  obtain ⟨r, hp⟩ := hp
  have hn := h.nodup
  rw [keys_append] at hn
  have hp2 : (keys a ++ keys rs).Perm (r ++ (keys a' ++ keys rs)) := by
    refine (hp.append_right _).trans ?_
    rw [← List.append_assoc]
    exact List.Perm.append_right _ List.perm_append_comm
  have hn2 := hp2.nodup_iff.1 hn
  rw [List.nodup_append] at hn2
  refine h.regroup (by rw [keys_append]; exact hn2.2.1) (fun k hk => ?_) (fun e he => ?_) (fun F hF => ?_)
  · rw [keys_append] at hk ⊢
    exact hp2.symm.subset (List.mem_append_right _ hk)
  · rcases List.mem_append.1 he with q | q
    · exact hok e q
    · exact h.okx e (List.mem_append_right _ q)
  · rcases List.mem_append.1 hF with q | q
    · exact absurd q (hro F)
    · exact List.mem_append_right _ q
end
section
variable {w0 w w' : World} {M : List Nat} {A : Nat → Prop} {es es' rs : List Ent} {K X G : Type} [DecidableEq K] {kv : K → Value} {vv : G → Value} {ents : X → G → List Ent} {b : Nat} {xs : List (K × X)} {Z : List (K × G)} {hol : Option K} {mes : Array MapEntry} {mcl : Nat} {k : K} {x : X} {g : G}
/-- what is to be put in, and what the map leads to beside it, as one object -/
def famP (kv : K → Value) (vv : G → Value) (ents : X → G → List Ent) (b : Nat) (Z : List (K × G)) (xs' : List (K × X)) (Z' : List (K × G)) (es : Array MapEntry) (cl : Nat) : OW := {
  ks := b :: keys (famEs ents xs' Z' none)
  ok := fun w => MapAt kv b (mpV vv Z) es cl w ∧ ∀ e ∈ famEs ents xs' Z' none, e.okx w
  stay := fun {w w'} h m => ⟨(mapO kv b (mpV vv Z) es cl).stay (fun k hk => h k (by rw [List.mem_singleton.1 hk]; exact List.mem_cons_self ..)) m.1,
    fun e he => Ent.okx_of_block (m.2 e he) fun k hk => h k (List.mem_cons_of_mem _ (mem_keys.2 ⟨e, he, hk⟩))⟩
  lt := fun {w} m k hk => by
    rcases List.mem_cons.1 hk with rfl | hk
    · exact (Array.getElem?_eq_some_iff.1 m.1.heap).1
    · obtain ⟨e, he, hek⟩ := mem_keys.1 hk
      exact Ent.okx_lt (m.2 e he) hek }
end
end Go.J

/- J31: what the program does with a map whose values lead to more of ours: the rules. No program in sight. -/
namespace Go.J
open Go Go.RowKit
set_option linter.unusedSimpArgs false
set_option linter.unusedSectionVars false
/-! ### rows as values -/
def rowE {α : Type} (R : Rep α) (xs : List α) (s : SV) : List Ent := [.row R s.v xs]
section
variable {P : Program} {Rp : Post} {Kk : List Lay} {N : NN} {l fr : Fr} {ops : Array Oper} {rest : List Oper} {d : Nat} {dd : Option Nat} {ty : Nat} {pos : String} {af : Array Edge} {g0 : Option (Nat × Bool)} {x y u : Operand} {T E Tk : TypeId} {c : Code}
variable {w0 : World} {M : List Nat} {A : Nat → Prop} {es rs : List Ent} {j b rb : Nat} {K X G : Type} [DecidableEq K] {kv : K → Value} {vv : G → Value} {ents : X → G → List Ent} {xs : List (K × X)} {Z : List (K × G)} {hol : Option K} {k : K} {z : G} {mes : Array MapEntry} {mcl : Nat}
theorem LJ.sat {H H' : World → Prop} (hs : ∀ w, H w → H' w) (h : LJ P Rp ops rest Kk N l H') : LJ P Rp ops rest Kk N l H := fun a w hf hw => h a w hf (hs w hw)
theorem CJ.sat {H H' : World → Prop} (hs : ∀ w, H w → H' w) (h : CJ P Rp c Kk N l H') : CJ P Rp c Kk N l H := fun a w hf hw => h a w hf (hs w hw)
theorem NJ.sat {H H' : World → Prop} (hs : ∀ w, H w → H' w) (h : NJ P Rp Kk N l H') : NJ P Rp Kk N l H := fun a w hf hw => h a w hf (hs w hw)
theorem Sat.pick {w : World} (h : Sat w0 M A es w) (ks : List Nat) {ys r : List Ent} (hp : J.picks ks es = some (ys, r)) : Sat w0 M A (ys ++ r) w := h.perm (picks_perm hp)
end
/-! ### rows: read, taken out, given back -/
section
variable {w0 w : World} {M : List Nat} {A : Nat → Prop} {es rs : List Ent} {b : Nat} {K α : Type} [DecidableEq K] {kv : K → Value} {R : Rep α} {xs : List (K × List α)} {Z : List (K × SV)} {hol : Option K} {k : K} {mes : Array MapEntry} {mcl : Nat} {ys : List α}
theorem FamAt.row (m : FamAt kv SV.v (rowE R) b xs Z hol mes mcl w) (hh : hol ≠ some k) : w.ownsRow 0 R.T R.sz (SV.v ((lkM Z k).getD nilS)) ((lkM xs k).getD []).length (R.cells ((lkM xs k).getD [])) := by
  rcases m.lk k with ⟨h1, h2⟩ | ⟨y, g, h1, h2⟩
  · rw [h1, h2]; exact World.ownsRow_nil w 0 R.T R.sz
  · rw [h1, h2]
    refine m.own (.row R g.v y) ?_
    unfold famEs
    have hi := lkM_mem h1
    obtain ⟨i, hil, hie⟩ := List.getElem_of_mem hi
    have hzl : i < Z.length := by rw [m.len]; exact hil
    have hk : Z[i].1 = k := by
      have e1 : (xs.map Prod.fst)[i]'(by simpa using hil) = (Z.map Prod.fst)[i]'(by simpa using hzl) := by simp only [m.kys]
      simp only [List.getElem_map] at e1
      rw [← e1, hie]
    have hz : Z[i].2 = g := by
      have e2 : Z[i]? = some (k, Z[i].2) := by rw [List.getElem?_eq_getElem hzl, ← hk]
      have := lkM_some m.ndZ i e2
      rw [h2] at this
      exact (Option.some.inj this).symm
    refine List.mem_flatMap.2 ⟨(xs[i], Z[i]), List.mem_iff_getElem.2 ⟨i, by rw [List.length_zip]; omega, by rw [List.getElem_zip]⟩, ?_⟩
    rw [hie]
    simp only
    rw [if_neg hh, hz]
    exact List.mem_singleton.2 rfl
theorem FamAt.look (m : FamAt kv SV.v (rowE R) b xs Z none mes mcl w) (k : K) : RdS R (SV.v ((lkM Z k).getD nilS)) ((lkM xs k).getD []) w := RdS.of_row (m.row (by simp))
end
end Go.J

/- J32: 'for k, v := range m' over a map whose values lead to more of ours; the body may put values at keys that are there. No program in sight. -/
namespace Go.J
open Go Go.RowKit
set_option linter.unusedSimpArgs false
set_option linter.unusedSectionVars false
/-- the keys are the same, and so are the births -/
def KeptK {K G : Type} (ks : List K) (mes0 : Array MapEntry) (mcl0 : Nat) (Z : List (K × G)) (mes : Array MapEntry) (mcl : Nat) : Prop :=
  Z.map Prod.fst = ks ∧ mcl = mcl0 ∧ mes.toList.map (·.born) = mes0.toList.map (·.born)
section
variable {P : Program} {K : Type} [DecidableEq K] {kv : K → Value} {b : Nat} {l : List (K × Value)} {es : Array MapEntry} {clock : Nat} {w : World} {T E Tk : TypeId} {k : K} {v : Value}
end
section
variable {P : Program} {R : Post} {Kk : List Lay} {N : NN} {l fr : Fr} {ops : Array Oper} {rest : List Oper} {d : Nat} {dd : Option Nat} {ty : Nat} {pos : String} {af : Array Edge} {g0 : Option (Nat × Bool)} {x y u : Operand} {T E Tk : TypeId} {c : Code}
variable {w0 : World} {M : List Nat} {A : Nat → Prop} {es rs : List Ent} {j n b rb : Nat} {K X G : Type} [DecidableEq K] {kv : K → Value} {vv : G → Value} {ents : X → G → List Ent} {xs : List (K × X)} {Z : List (K × G)} {hol : Option K} {k : K} {z : G} {mes mes0 : Array MapEntry} {mcl mcl0 : Nat} {ks : List K}
theorem KeptK.has (h : KeptK ks mes0 mcl0 Z mes mcl) {i : Nat} (hi : ks[i]? = some k) : hasM Z k = true := by
  rw [hasM_iff, h.1]; exact List.mem_of_getElem? hi
theorem KeptK.refl (xs : List (K × X)) (h : xs.map Prod.fst = Z.map Prod.fst) : KeptK (xs.map Prod.fst) mes mcl Z mes mcl := ⟨h.symm, rfl, rfl⟩
end
end Go.J

/- J33: results that may be nil; pointers against nil; delete. No program in sight. -/
namespace Go.J
open Go Go.RowKit
set_option linter.unusedSimpArgs false
set_option linter.unusedSectionVars false
/-- what a pointer that may be nil leads to -/
def optE {α : Type} (o : Option α) (f : α → List Ent) : List Ent := match o with | none => [] | some t => f t
def optV {α : Type} (o : Option α) (v : Value) : Value := match o with | none => .pointer none | some _ => v
def optB {α β : Type} (o : Option α) (x : Option β) (f : α → Option β) : Option β := match o with | none => x | some t => f t
section
variable {P : Program} {Rp : Post} {Kk : List Lay} {N : NN} {l : Fr} {ops : Array Oper} {rest : List Oper} {d : Nat} {dd : Option Nat} {ty : Nat} {pos : String} {af : Array Edge} {g : Option (Nat × Bool)} {x y u : Operand} {T T' Te E Tk : TypeId} {H : World → Prop}
end
section
variable {P : Program} {K : Type} [DecidableEq K] {kv : K → Value} {b : Nat} {l : List (K × Value)} {es : Array MapEntry} {clock : Nat} {w : World} {T E Tk : TypeId} {k : K} {v : Value}
end
section
variable {P : Program} {Rp : Post} {Kk : List Lay} {N : NN} {l : Fr} {ops : Array Oper} {rest : List Oper} {d : Nat} {dd : Option Nat} {ty : Nat} {pos : String} {af : Array Edge} {x y : Operand} {T T' E Tk : TypeId}
variable {w0 : World} {M : List Nat} {A : Nat → Prop} {es : List Ent} {j b : Nat} {K V : Type} [DecidableEq K] {kv : K → Value} {vv : V → Value} {L : List (K × V)} {k : K} {mes : Array MapEntry} {mcl : Nat}
end
end Go.J

/- J34: cuts whose room ends where they end. No program in sight. -/
namespace Go.J
open Go Go.RowKit
section
variable {P : Program} {N : NN} {l : Fr} {dd : Option Nat} {ty : Nat} {pos : String} {af : Array Edge} {g : Option (Nat × Bool)} {x oh om : Operand} {T : TypeId}
variable {w0 : World} {M : List Nat} {A : Nat → Prop} {es : List Ent} {α : Type} {R : Rep α} {s : SV} {xs qs : List α} {lo hi : Int} {by_ : Nat} {zs : List Value}
end
end Go.J

/- J35: maps whose values are pointers to blocks of ours. No program in sight. -/
namespace Go.J
open Go Go.RowKit
set_option linter.unusedSimpArgs false
set_option linter.unusedSectionVars false
/-- what cannot be -/
def badO : OW := ⟨[], fun _ => False, fun _ h => h, fun h => h.elim⟩
def vvP {Q : Type} (h : Q → Nat) (g : Option Q) : Value := match g with | none => .pointer none | some q => .pointer (some ⟨h q, 0, none⟩)
def entsP {X Q : Type} (f : X → Q → List Ent) (x : X) (g : Option Q) : List Ent := match g with | none => [.obj badO] | some q => f x q
section
variable {K X G : Type} [DecidableEq K] {kv : K → Value} {vv : G → Value} {ents : X → G → List Ent} {b : Nat} {xs : List (K × X)} {Z : List (K × G)} {hol : Option K} {mes : Array MapEntry} {mcl : Nat} {k : K} {x : X} {g g' : G}
variable {w0 w : World} {M : List Nat} {A : Nat → Prop} {es rs : List Ent}
end
section
variable {K X Q : Type} [DecidableEq K] {kv : K → Value} {h : Q → Nat} {f : X → Q → List Ent} {b : Nat} {xs : List (K × X)} {Z : List (K × Option Q)} {hol : Option K} {mes : Array MapEntry} {mcl : Nat} {k : K} {t : X} {q q' : Q}
variable {P : Program} {Rp : Post} {Kk : List Lay} {N : NN} {l : Fr} {ops : Array Oper} {rest : List Oper} {d : Nat} {dd : Option Nat} {ty : Nat} {pos : String} {af : Array Edge} {g0 : Option (Nat × Bool)} {x y u : Operand} {T E Tk : TypeId} {c : Code}
variable {w0 : World} {M : List Nat} {A : Nat → Prop} {es rs : List Ent} {j : Nat}
end
end Go.J

/- J36: rows in what a pointer of a map leads to, read while the map is whole. No program in sight. -/
namespace Go.J
open Go Go.RowKit
section
variable {K X Q : Type} [DecidableEq K] {kv : K → Value} {h : Q → Nat} {f : X → Q → List Ent} {b : Nat} {xs : List (K × X)} {Z : List (K × Option Q)} {mes : Array MapEntry} {mcl : Nat} {k : K} {t : X} {q : Q}
end
end Go.J

/- J37: a new row that the library made; keys that are bools. No program in sight. -/
namespace Go.J
open Go Go.RowKit
set_option linter.unusedSimpArgs false
theorem Sat.newRowC {w0 w : World} {M : List Nat} {A : Nat → Prop} {es : List Ent} {α : Type} (R : Rep α) (h : Sat w0 M A es w) (xs : List α) (cap : Nat) {cs : List Value} (hcs : cs.take (xs.length * R.sz) = R.cells xs) (hcl : cs.length = cap * R.sz) (hle : xs.length ≤ cap) (hl : cap ≤ maxLen) :
    Sat w0 M A (.row R (SV.v ⟨some ⟨w.heap.size, 0, none⟩, xs.length, cap⟩) xs :: es) (w.alloc (.cells cs.toArray R.T)) := by
  have h1 := h.alloc R.T cs
  refine Sat.cast1 (fs := [.box w.heap.size R.T cs]) (e := .row R (SV.v ⟨some ⟨w.heap.size, 0, none⟩, xs.length, cap⟩) xs) h1 (by simp [keys, Ent.kl, SV.v, Value.ownBlock]) ?_ (fun F hF => by cases hF)
  have hb := h1.box (k := 0) rfl
  exact ⟨R.cells_len xs, .inr ⟨w.heap.size, cap, _, rfl, Nat.zero_le _, hb, hle, hl, by rw [List.size_toArray, hcl], hcs⟩⟩
theorem Sat.newRow {w0 w : World} {M : List Nat} {A : Nat → Prop} {es : List Ent} {α : Type} (R : Rep α) (h : Sat w0 M A es w) (xs : List α) {cs : List Value} (hcs : R.cells xs = cs) (hl : xs.length ≤ maxLen) :
    Sat w0 M A (.row R (SV.v ⟨some ⟨w.heap.size, 0, none⟩, xs.length, xs.length⟩) xs :: es) (w.alloc (.cells cs.toArray R.T)) := by
  subst hcs
  exact h.newRowC R xs xs.length (by rw [← R.cells_len xs]; exact List.take_length) (R.cells_len xs) (Nat.le_refl _) hl
end Go.J

/- J38: a row that make lays, of zeros; bits set and taken away. No program in sight. -/
namespace Go.G
open Go Go.J
set_option linter.unusedSimpArgs false
/-- make's model: n times zero; too long fails -/
def makeM {α : Type} (by_ : Nat) (z : α) (n : Int) : Option (List α) := if 0 ≤ n ∧ n.toNat * by_ ≤ 140737488355328 ∧ n.toNat ≤ maxLen then some (List.replicate n.toNat z) else none
theorem makeM_spec {α : Type} {by_ : Nat} {z : α} {n : Int} {q : List α} (h : makeM by_ z n = some q) : ∃ k : Nat, n = k ∧ k * by_ ≤ 140737488355328 ∧ k ≤ maxLen ∧ q = List.replicate k z := by
  unfold makeM at h
  split at h
  · rename_i h3
    cases h
    exact ⟨n.toNat, by omega, h3.2.1, h3.2.2, rfl⟩
  · cases h
theorem madeCells_enc {α : Type} (R : Rep α) (z : α) (zs : Array Value) (hz : R.enc z = zs.toList) (k : Nat) : (madeCells zs (k * R.sz)).toList = R.cells (List.replicate k z) := by
  have hs : zs.size = R.sz := by rw [← R.len z, hz, Array.length_toList]
  apply List.ext_getElem?
  intro i
  by_cases hi : i < k * R.sz
  · have hp := R.pos
    have h1 : i / R.sz < k := (Nat.div_lt_iff_lt_mul hp).2 hi
    have h2 : i % R.sz < R.sz := Nat.mod_lt _ hp
    have h3 := R.cells_get (List.replicate k z) (i / R.sz) (i % R.sz) z (by rw [List.getElem?_replicate]; simp [h1]) h2
    rw [show i / R.sz * R.sz + i % R.sz = i by rw [Nat.mul_comm]; exact Nat.div_add_mod i R.sz] at h3
    rw [h3, hz]
    have h4 : i % R.sz < zs.size := by omega
    have h5 : zs[i % R.sz]? = some zs[i % R.sz] := Array.getElem?_eq_getElem h4
    rw [show (zs.toList)[i % R.sz]? = some zs[i % R.sz] by rw [Array.getElem?_toList]; exact h5]
    simp only [madeCells, Array.getElem?_toList, Array.getElem?_map]
    rw [Array.getElem?_range, if_pos hi]
    simp only [Option.map_some, hs, getElem!_pos zs (i % R.sz) h4]
  · have h1 : (madeCells zs (k * R.sz)).toList.length = k * R.sz := by simp [madeCells]
    have h2 : (R.cells (List.replicate k z)).length = k * R.sz := by rw [R.cells_len, List.length_replicate]
    rw [List.getElem?_eq_none (by omega), List.getElem?_eq_none (by omega)]
/-- of all orders of a list one, the same for all of them -/
def permS (α : Type) : Setoid (List α) := ⟨List.Perm, .refl, .symm, .trans⟩
noncomputable def canonQ {α : Type} (q : Quotient (permS α)) : List α := Classical.choose (Quotient.exists_rep q)
noncomputable def canonM {α : Type} (l : List α) : List α := canonQ (Quotient.mk (permS α) l)
def orI (x y : Int) : Int := w64 ((BitVec.ofInt 64 x ||| BitVec.ofInt 64 y).toNat)
def andNotI (x y : Int) : Int := w64 ((BitVec.ofInt 64 x &&& ~~~BitVec.ofInt 64 y).toNat)
section
variable {P : Program} {N : NN} {l : Fr} {H : World → Prop} {d : Option Nat} {ty : Nat} {pos : String} {af : Array Edge} {g : Option (Nat × Bool)} {x y : Operand} {m n r : Int} {T T' : TypeId} {kk : IntKind}
end
section
variable {P : Program} {α : Type} {R : Rep α} {Rp : Post} {K : List Lay} {N : NN} {l : Fr} {ops : Array Oper} {rest : List Oper} {d : Nat} {ty : Nat} {pos : String} {af : Array Edge} {x y : Operand} {T by_ : Nat} {zs : List Value}
variable {w0 : World} {M : List Nat} {A : Nat → Prop} {es : List Ent} {m : Int} {q : List α} {z : α}
theorem r_mk {ag : Bool} (hT : P.underlying T = some (.slice R.T)) (hE : TyF P R.T ag R.sz by_ zs) (hz : R.enc z = zs) (hx : ev l x = some (.int .i64 m)) (hy : ev l y = some (.int .i64 m)) (hq : makeM by_ z m = some q) (hd : Nat.blt d N.n = true)
    (h : ∀ s : SV, LJ P Rp ops rest K N ((d, s.v) :: l) (Sat w0 M A (.row R s.v q :: es))) :
    LJ P Rp ops (⟨some d, .makeSlice T x y, ty, pos, af, none⟩ :: rest) K N l (Sat w0 M A es) := by
  intro a w hf hw
  obtain ⟨k, rfl, h1, h2, rfl⟩ := makeM_spec hq
  obtain ⟨i, zv, hi, hzv, hzc, hs, hb⟩ := hE.info
  refine wpList_plain rfl fun K' hK => ?_
  unfold Oper.wp
  have hml : k ≤ 9223372036854775807 := by unfold maxLen at h2; omega
  have hbk : (by_ : Int) * (k : Int) ≤ 281474976710656 := by
    have : ((by_ * k : Nat) : Int) ≤ 281474976710656 := by rw [Nat.mul_comm]; omega
    rwa [Int.natCast_mul] at this
  have hr := run_make (P := P) w T R.T i zv hT hi hzv .i64 .i64 k k (by omega) (Int.le_refl _) (by rw [hb]; exact hbk) (by omega)
  have : (execOp a.eval ⟨some d, .makeSlice T x y, ty, pos, af, none⟩).run P w = .ok (.value (.slice (some ⟨w.heap.size, 0, none⟩) k k)) (w.alloc (.cells (madeCells zv.cells (k * i.size)) R.T)) := by
    simp [execOp, hf.ev hx, hf.ev hy, hr]
  rw [this]
  refine hK _ _ (h ⟨some ⟨w.heap.size, 0, none⟩, k, k⟩ _ _ (hf.put hd _) ?_)
  have hc := madeCells_enc R z zv.cells (by rw [hz, hzc]) k
  have := hw.newRow R (List.replicate k z) (cs := (madeCells zv.cells (k * R.sz)).toList) hc.symm (by rw [List.length_replicate]; exact h2)
  rw [List.length_replicate] at this
  rw [hs]
  simpa using this
/-- a literal's row is not nil -/
theorem r_bsN {n : Nat} {ps : List (Nat × Operand)} {pv : List (Nat × Value)} (R : Rep α) (xs : List α) (hp : evP l ps = some pv) (hn : Nat.beq xs.length n = true) (hm : Nat.ble n 1000000 = true)
    (hb : ∀ w, (Instr.buildSlice T n pv.toArray).run P w = .ok (.slice (some ⟨w.heap.size, 0, none⟩) n n) (w.alloc (.cells (R.cells xs).toArray R.T))) (hd : Nat.blt d N.n = true)
    (h : ∀ s : SV, s.a.isNone = false → LJ P Rp ops rest K N ((d, s.v) :: l) (Sat w0 M A (.row R s.v xs :: es))) :
    LJ P Rp ops (⟨some d, .buildSlice T n ps.toArray, ty, pos, af, none⟩ :: rest) K N l (Sat w0 M A es) := by
  intro a w hf hw
  have hn' : xs.length = n := by simpa using hn
  have hm' : n ≤ 1000000 := by simpa [Nat.ble_eq] using hm
  refine wpList_plain rfl fun K' hK => ?_
  unfold Oper.wp
  have he := hf.evP hp
  have h2 : (ps.toArray.map fun (i, x) => (i, a.eval x)) = pv.toArray := by rw [← he]; simp
  have : (execOp a.eval ⟨some d, .buildSlice T n ps.toArray, ty, pos, af, none⟩).run P w = .ok (.value (.slice (some ⟨w.heap.size, 0, none⟩) n n)) (w.alloc (.cells (R.cells xs).toArray R.T)) := by
    simp [execOp, h2, hb]
  rw [this]
  refine hK _ _ (h ⟨some ⟨w.heap.size, 0, none⟩, n, n⟩ rfl _ _ (hf.put hd _) ?_)
  have := hw.newRow R xs rfl (by unfold maxLen; omega)
  rwa [hn'] at this
/-- what is put behind a row that is not nil is not nil -/
theorem r_appN {ag : Bool} {s t : SV} {xs ys qs : List α} {k : Nat} (hs0 : s.a.isNone = false) (hT : P.underlying T = some (.slice R.T)) (hE : TyF P R.T ag R.sz by_ zs) (hzs : zs.length = R.sz) (hx : ev l x = some s.v) (hy : ev l y = some t.v) (hk : nth es k = some (.row R s.v xs)) (hr : FactAt es (RdS R t.v ys))
    (hq : appM by_ xs ys = some qs) (hd : Nat.blt d N.n = true) (h : ∀ s' : SV, s'.a.isNone = false → LJ P Rp ops rest K N ((d, s'.v) :: l) (Sat w0 M A (setN es k (.row R s'.v qs)))) :
    LJ P Rp ops (⟨some d, .call { callee := .builtin .append, args := #[x, y], argTypes := #[T, T] }, ty, pos, af, none⟩ :: rest) K N l (Sat w0 M A es) := by
  intro a w hf hw
  obtain ⟨rfl, hb, hb2⟩ := appM_spec hq
  refine wpList_plain rfl fun K' hK => ?_
  unfold Oper.wp
  obtain ⟨s', w', hrun, hown, hc, hkey, hnn⟩ := run_app (P := P) (ty := ty) hT hE hzs (hw.row hk) (hr.get hw) hb hb2
  have : (execOp a.eval ⟨some d, .call { callee := .builtin .append, args := #[x, y], argTypes := #[T, T] }, ty, pos, af, none⟩).run P w = .ok (.value s'.v) w' := by
    simp [execOp, resolve, invoke, builtin, hf.ev hx, hf.ev hy, hrun]
  rw [this]
  refine hK _ _ (h s' (hnn s rfl hs0) _ _ (hf.put hd _) (hw.swap hk hc hown (fun b hb => ?_) (fun F hF => by cases hF)))
  exact ⟨(World.ownsRow.lt hown b hb).2, hkey b hb⟩
/-- a row that may be nil, and whether it is -/
def nrowO (R : Rep α) (s : SV) (o : Option (List α)) : OW := {
  ks := s.v.ownBlock.toList
  ok := fun w => (Ent.row R s.v (o.getD [])).okx w ∧ s.a.isNone = o.isNone
  stay := fun h hk => ⟨Ent.okx_of_block hk.1 (fun k hm => h k hm), hk.2⟩
  lt := fun h k hk => (World.ownsRow.lt h.1 k (by simpa using hk)).2 }
end
end Go.G

/- J40: rows of ours that begin behind their block's first cell (queues); rows of ours that stand in a slice of ours. No program in sight. -/
namespace Go.J
open Go Go.RowKit
set_option linter.unusedSimpArgs false
set_option linter.unusedSectionVars false
section
variable {w0 w : World} {M : List Nat} {A : Nat → Prop} {es rest : List Ent}
/-- entries of ours under other names -/
theorem Sat.castL {fs gs : List Ent} (h : Sat w0 M A (fs ++ es) w) (hk : (keys gs).Perm (keys fs)) (hok : ∀ e, e ∈ gs → e.okx w) (hro : ∀ e, e ∈ gs → ∀ F, e ≠ .ro F) : Sat w0 M A (gs ++ es) w := by
  have hp : (keys (gs ++ es)).Perm (keys (fs ++ es)) := by rw [keys_append, keys_append]; exact hk.append_right _
  refine ⟨h.chg, h.dis, hp.nodup_iff.2 h.nodup, fun k hm => h.fresh k (hp.subset hm), fun f hf => ?_, fun f hf => ?_⟩
  · rcases List.mem_append.1 hf with h1 | h1
    · exact hok f h1
    · exact h.okx f (List.mem_append_right _ h1)
  · rcases List.mem_append.1 hf with h1 | h1
    · cases f with
      | ro F => exact (hro _ h1 F rfl).elim
      | box b T cs => trivial
      | row R v xs => trivial
      | obj o => trivial
    · cases f with
      | ro F =>
        intro w' hw'
        exact h.okr _ (List.mem_append_right _ h1) w' ⟨hw'.1, fun b hb hA hn => hw'.2 b hb hA (fun hm => hn (hp.subset hm))⟩
      | box b T cs => trivial
      | row R v xs => trivial
      | obj o => trivial
/-- what is ours in several blocks is read from now on -/
theorem Sat.freezeO {o : OW} {F : World → Prop} (h : Sat w0 M A es w) {k : Nat} (hk : pick1 es k = some (.obj o, rest)) (hF : ∀ w, o.ok w → F w) : Sat w0 M A (.ro F :: rest) w := by
  have h2 := h.perm (pick1_perm hk)
  have hob : o.ok w := h2.okx _ (List.mem_cons_self ..)
  have hkk : keys (.obj o :: rest) = o.ks ++ keys rest := by rw [keys_cons]; rfl
  refine (h2.sublist (List.sublist_cons_self _ _)).add_ro fun w' hw' => hF w' (o.stay (fun b hb => ?_) hob)
  have hb1 : b ∈ keys (.obj o :: rest) := by rw [hkk]; exact List.mem_append_left _ hb
  refine hw'.2 b (h2.fresh b hb1).1 ?_ ?_
  · rcases (h2.fresh b hb1).2 with h3 | h3
    · exact .inr h3
    · exact .inl (.inr h3)
  · have hnd := h2.nodup
    rw [hkk, List.nodup_append] at hnd
    exact fun hm => hnd.2.2 b hb b hm rfl
end
/-! ### queues -/
section
variable {P : Program} {α : Type} {R : Rep α} {w0 w : World} {M : List Nat} {A : Nat → Prop} {es rest : List Ent}
def QOk (R : Rep α) (s : SV) (q : List α) (w : World) : Prop :=
  (s = ⟨none, 0, 0⟩ ∧ q = []) ∨ ∃ g off cur, s.a = some ⟨g, off, none⟩ ∧ w.heap[g]? = some (.cells cur R.T (0, 0)) ∧ s.n = q.length ∧ q.length ≤ s.c ∧ s.c ≤ maxLen ∧ off + s.c * R.sz ≤ cur.size ∧ (cur.toList.drop off).take (q.length * R.sz) = R.cells q
def queO (R : Rep α) (s : SV) (q : List α) : OW := {
  ks := s.v.ownBlock.toList
  ok := QOk R s q
  stay := by
    intro w w' h hk
    rcases hk with hk | ⟨g, off, cur, h1, h2, h3⟩
    · exact .inl hk
    · exact .inr ⟨g, off, cur, h1, (h g (by simp [SV.v, h1, Value.ownBlock])).trans h2, h3⟩
  lt := by
    intro w hk k hm
    rcases hk with ⟨h1, _⟩ | ⟨g, off, cur, h1, h2, _⟩
    · subst h1; simp [SV.v, Value.ownBlock] at hm
    · have : k = g := by simpa [SV.v, h1, Value.ownBlock] using hm
      subst this
      exact (Array.getElem?_eq_some_iff.1 h2).1 }
theorem QOk.of_row {s : SV} {q : List α} (h : w.ownsRow 0 R.T R.sz s.v q.length (R.cells q)) : QOk R s q w := by
  rcases h.2 with ⟨h1, h2⟩ | ⟨g, cap, cur, h1, _, h2, h3, h4, h5, h6⟩
  · injection h1 with e1 e2 e3
    exact .inl ⟨by cases s; simp_all, List.eq_nil_of_length_eq_zero h2⟩
  · injection h1 with e1 e2 e3
    subst e3
    exact .inr ⟨g, 0, cur, e1, h2, e2, h3, h4, by omega, by simpa using h6⟩
theorem QOk.cut {s : SV} {q qs : List α} {lo hi : Int} (h : QOk R s q w) (hq : sliceI q lo hi = some qs) (hh : hi = q.length) : QOk R (s.sub R.sz lo.toNat hi.toNat) qs w := by
  obtain ⟨a, b, rfl, rfl, hab, hb, rfl⟩ := sliceI_spec hq
  have hbq : b = q.length := by omega
  subst hbq
  simp only [Int.toNat_natCast]
  have hlen : ((q.drop a).take (q.length - a)).length = q.length - a := by simp
  rcases h with ⟨rfl, rfl⟩ | ⟨g, off, cur, h1, h2, h3, h4, h5, h6, h7⟩
  · have : a = 0 := by simpa using hab
    subst this
    exact .inl ⟨rfl, rfl⟩
  · by_cases hc : s.c = a
    · have hqa : q.length = a := by omega
      refine .inr ⟨g, off, cur, by simp [SV.sub, hc, h1], h2, by simp [SV.sub, hqa], by simp [SV.sub, hqa], by simp [SV.sub, hc, maxLen], by simp [SV.sub, hc]; omega, ?_⟩
      rw [hlen, hqa]
      simp [Rep.cells]
    · have hmul : a * R.sz + (s.c - a) * R.sz = s.c * R.sz := by rw [← Nat.add_mul]; congr 1; omega
      refine .inr ⟨g, off + a * R.sz, cur, by simp [SV.sub, hc, h1, add_at], h2, by rw [hlen]; simp [SV.sub], by rw [hlen]; simp [SV.sub]; omega, by simp [SV.sub]; omega, by simp only [SV.sub]; omega, ?_⟩
      rw [hlen]
      have e1 : R.cells q = R.cells (q.take a) ++ R.cells (q.drop a) := by rw [← R.cells_append, List.take_append_drop]
      have e2 : (R.cells (q.take a)).length = a * R.sz := by rw [R.cells_len, List.length_take, Nat.min_eq_left (by omega)]
      have e3 : (q.drop a).take (q.length - a) = q.drop a := List.take_of_length_le (by simp)
      rw [e3, ← List.drop_drop]
      have h8 := congrArg (List.drop (a * R.sz)) h7
      rw [e1, ← e2, List.drop_left, e2, List.drop_take, ← Nat.sub_mul] at h8
      exact h8
end
section
variable {P : Program} {α : Type} {R : Rep α} {Rp : Post} {K : List Lay} {N : NN} {l : Fr} {ops : Array Oper} {rest : List Oper} {d : Nat} {ty : Nat} {pos : String} {af : Array Edge} {x y : Operand} {T by_ : Nat} {zs : List Value}
variable {w0 : World} {M : List Nat} {A : Nat → Prop} {es rs : List Ent} {s t : SV} {xs ys qs : List α} {k : Nat}
end
end Go.J

/- J41: a slice whose rows are ours, too: they can be taken out and be turned. No program in sight. -/
namespace Go.J
open Go Go.RowKit
set_option linter.unusedSimpArgs false
set_option linter.unusedSectionVars false
section
variable {α : Type} {R : Rep α} {w0 w : World} {M : List Nat} {A : Nat → Prop} {es rest : List Ent}
/-- the rows that headers lead to, all of them ours -/
def rowsO (R : Rep α) (xs : List (List α)) (xg : List (List α × SV)) : OW := {
  ks := xg.flatMap fun p => p.2.v.ownBlock.toList
  ok := fun w => xg.map Prod.fst = xs ∧ ∀ p, p ∈ xg → w.ownsRow 0 R.T R.sz p.2.v p.1.length (R.cells p.1)
  stay := by
    intro w w' h hk
    exact ⟨hk.1, fun p hp => Ent.okx_of_block (e := .row R p.2.v p.1) (hk.2 p hp) fun k hm => h k (List.mem_flatMap.2 ⟨p, hp, hm⟩)⟩
  lt := by
    intro w hk k hm
    obtain ⟨p, hp, hm⟩ := List.mem_flatMap.1 hm
    exact (World.ownsRow.lt (hk.2 p hp) k (by simpa using hm)).2 }
/-- what is known of the others -/
def LkX {α' G : Type} (D : Nst α' G) (i : Nat) (xs : List α') (xg : List (α' × G)) (w : World) : Prop := xg.map Prod.fst = xs ∧ ∀ j p, j ≠ i → xg[j]? = some p → D.inn p w
theorem LkX.set {α' G : Type} {D : Nst α' G} {i : Nat} {xs : List α'} {xg : List (α' × G)} {x : α'} {g : G} (h : LkX D i xs xg w) (h1 : D.inn (x, g) w) : Lk D (xs.set i x) (xg.set i (x, g)) w :=
  ⟨by rw [List.map_set, h.1], fun p hp => by
    obtain ⟨j, hj, hjp⟩ := List.getElem_of_mem hp
    rw [List.getElem_set] at hjp
    split at hjp
    · subst hjp; exact h1
    · rename_i hne
      exact h.2 j p (fun e => hne e.symm) (by rw [← hjp]; exact List.getElem?_eq_getElem _)⟩
theorem rowsLk {D : Nst (List α) SV} (hD : ∀ p w, RdS R p.2.v p.1 w → D.inn p w) {xs : List (List α)} {xg : List (List α × SV)} (h : (rowsO R xs xg).ok w) : Lk D xs xg w :=
  ⟨h.1, fun p hp => hD p w (RdS.of_row (h.2 p hp))⟩
theorem Sat.rowsFz {D : Nst (List α) SV} (hD : ∀ p w, RdS R p.2.v p.1 w → D.inn p w) {xs : List (List α)} {xg : List (List α × SV)} (h : Sat w0 M A es w) (k : Nat) (hk : pick1 es k = some (.obj (rowsO R xs xg), rest)) : Sat w0 M A (.ro (Lk D xs xg) :: rest) w := h.freezeO hk fun _ h => rowsLk hD h
end
end Go.J

/- J42: rows made of nil slices; maps whose values have slices in them. No program in sight. -/
namespace Go.G
open Go Go.J Go.RowKit
set_option linter.unusedSimpArgs false
set_option linter.unusedSectionVars false
section
variable {α G K : Type} [DecidableEq K] {D : Nst α G} {xs : List (K × α)} {xg : List (K × (α × G))} {w : World} {x z : α} {g gz : G} {k : K}
theorem mk_lk {by_ : Nat} {n : Int} {q : List α} (h : makeM by_ z n = some q) (gz : G) : ∃ qg, makeM by_ (z, gz) n = some qg ∧ qg.map Prod.fst = q ∧ ∀ p, p ∈ qg → p = (z, gz) := by
  obtain ⟨m, rfl, h1, h2, rfl⟩ := makeM_spec h
  refine ⟨List.replicate m (z, gz), ?_, by simp, fun p hp => List.eq_of_mem_replicate hp⟩
  unfold makeM
  rw [if_pos (by refine ⟨by omega, by simpa using h1, by simpa using h2⟩)]
  simp
theorem _root_.Go.J.Lk.mk {q : List α} {qg : List (α × G)} (hL : qg.map Prod.fst = q) (hm : ∀ p, p ∈ qg → p = (z, gz)) (h : D.inn (z, gz) w) : Lk D q qg w := ⟨hL, fun p hp => hm p hp ▸ h⟩
/-- the entries of a map, and the entries with their headers -/
def LkM {α G K : Type} (D : Nst α G) (xs : List (K × α)) (xg : List (K × (α × G))) (w : World) : Prop := mpV Prod.fst xg = xs ∧ ∀ p, p ∈ xg → D.inn p.2 w
theorem putM_in {V : Type} {l : List (K × V)} {v : V} {p : K × V} (h : p ∈ putM l k v) : p ∈ l ∨ p = (k, v) := by
  unfold putM at h
  split at h
  · obtain ⟨q, hq, rfl⟩ := List.mem_map.1 h
    split
    · exact .inr rfl
    · exact .inl hq
  · rcases List.mem_append.1 h with h | h
    · exact .inl h
    · exact .inr (List.mem_singleton.1 h)
theorem putM_hL (hL : mpV Prod.fst xg = xs) : mpV Prod.fst (putM xg k (x, g)) = putM xs k x := by rw [← hL]; exact (putM_map Prod.fst xg k (x, g)).symm
theorem LkM.put (h : LkM D xs xg w) (h1 : D.inn (x, g) w) : LkM D (putM xs k x) (putM xg k (x, g)) w := ⟨putM_hL h.1, fun p hp => by
  rcases putM_in hp with h2 | rfl
  · exact h.2 p h2
  · exact h1⟩
end
section
variable {P : Program} {N : NN} {l : Fr} {dd : Option Nat} {ty : Nat} {pos : String} {af : Array Edge} {g : Option (Nat × Bool)} {x y : Operand} {T E Tk : TypeId} {c : Bool}
variable {w0 : World} {M : List Nat} {A : Nat → Prop} {es : List Ent} {b : Nat} {K V : Type} [DecidableEq K] {kv : K → Value} {vv : V → Value} {L : List (K × V)} {k : K} {z y0 : V} {mes : Array MapEntry} {mcl : Nat}
end
end Go.G

/- J43: an append after which the shorter slice is used again; a row of nothing with room ahead. No program in sight. -/
namespace Go.J
open Go Go.RowKit
set_option linter.unusedSimpArgs false
set_option linter.unusedSectionVars false
set_option linter.unusedVariables false
theorem sv_inj {s s0 : SV} (h : s.v = s0.v) : s = s0 := by
  cases s; cases s0
  simp only [SV.v] at h
  injection h with h1 h2 h3
  subst h1
  have h2' : _ = _ := h2
  have h3' : _ = _ := h3
  simp_all
/-- what is left of the shorter slice -/
def RestOk {α : Type} (R : Rep α) (s s' : SV) (xs : List α) (w : World) : Prop :=
  (s'.v.ownBlock = s.v.ownBlock → (s = nilS ∧ xs = []) ∨ ∃ g c n', s = ⟨some ⟨g, 0, none⟩, xs.length, c⟩ ∧ s' = ⟨some ⟨g, 0, none⟩, n', c⟩) ∧ (s'.v.ownBlock ≠ s.v.ownBlock → w.ownsRow 0 R.T R.sz s.v xs.length (R.cells xs))
theorem RestOk.same {α : Type} {R : Rep α} {s s0 : SV} {xs : List α} {w : World} (h : w.ownsRow 0 R.T R.sz s.v xs.length (R.cells xs)) (he : s = s0) : RestOk R s0 s xs w := by
  subst he
  refine ⟨fun _ => ?_, fun h => absurd rfl h⟩
  rcases h.2 with ⟨h5, h6⟩ | ⟨g, cap, cur, h5, _⟩
  · exact .inl ⟨sv_inj (s0 := nilS) h5, List.eq_nil_of_length_eq_zero h6⟩
  · exact .inr ⟨g, cap, _, sv_inj (s0 := ⟨some ⟨g, 0, none⟩, xs.length, cap⟩) h5, by rw [sv_inj (s0 := ⟨some ⟨g, 0, none⟩, xs.length, cap⟩) h5]⟩
theorem run_appK {P : Program} {α : Type} {R : Rep α} {T ty : TypeId} {ag : Bool} {by_ : Nat} {zs : List Value} (hT : P.underlying T = some (.slice R.T)) (hE : TyF P R.T ag R.sz by_ zs) (hzs : zs.length = R.sz)
    {v : Value} {xs ys : List α} {t : SV} {w : World} (hown : w.ownsRow 0 R.T R.sz v xs.length (R.cells xs)) (hsrc : RdS R t.v ys w) (hb : (xs.length + ys.length) * by_ ≤ 140737488355328) (hb2 : xs.length + ys.length ≤ maxLen) :
    ∃ (s : SV) (w' : World), (Builtin.append_ #[T, T] ty #[v, t.v]).run P w = .ok s.v w' ∧ w'.ownsRow 0 R.T R.sz s.v (xs ++ ys).length (R.cells (xs ++ ys)) ∧ Chg v.ownBlock.toList w w' ∧
      (∀ b, s.v.ownBlock = some b → w.heap.size ≤ b ∨ v.ownBlock = some b) ∧ ∀ s0 : SV, v = s0.v → RestOk R s0 s xs w' := by
  obtain ⟨i, z, hi, hz, hzc, hsz, hby⟩ := hE.info
  have hlen : (R.cells (xs ++ ys)).length = (xs ++ ys).length * R.sz := R.cells_len _
  have hml : xs.length + ys.length ≤ 9223372036854775807 := by simpa [maxLen] using hb2
  have hzs' : z.cells.size = R.sz := by rw [hzc]; simpa using hzs
  have grown : ∀ (old : Nat) (cells : List Value), cells = R.cells (xs ++ ys) → old < xs.length + ys.length → ∀ (c : Nat), c = grownCap w (xs.length + ys.length) old R.T →
      (w.drew.alloc (.cells (cells.toArray ++ Builtin.zeroCells z.cells (c - (xs.length + ys.length))) R.T)).ownsRow 0 R.T R.sz (SV.v ⟨some ⟨w.heap.size, 0, none⟩, xs.length + ys.length, c⟩) (xs ++ ys).length (R.cells (xs ++ ys)) := by
    intro old cells hc ho c hcc
    have hge := grownCap_ge w (xs.length + ys.length) old R.T
    have hcm : grownCap w (xs.length + ys.length) old R.T ≤ maxLen := grownCap_le_maxLen w _ old R.T hb2
    subst hc hcc
    refine ⟨hlen, .inr ⟨w.heap.size, _, _, by rw [List.length_append], Nat.zero_le _, Go.heap_alloc_new w.drew _, by rw [List.length_append]; exact hge, hcm, ?_, ?_⟩⟩
    · simp only [Array.size_append, List.size_toArray, size_zeroCells', hzs', hlen, List.length_append, ← Nat.add_mul]
      congr 1
      omega
    · simp only [Array.toList_append]
      rw [← hlen]
      exact List.take_left
  rcases hsrc.2 with ⟨h2, x0, cap0, h1, _⟩ | ⟨b, off, cap, h1, h2, h3, h4⟩
  · -- nothing to append
    subst h2
    obtain ⟨s, rfl⟩ := ownsRow_form hown
    refine ⟨s, w, ?_, by simpa using hown, Chg.refl _ _, fun b hb => .inr hb, fun s0 e => RestOk.same hown (sv_inj e)⟩
    rw [h1]
    have hle : s.n ≤ s.c := by
      rcases hown.2 with ⟨h5, h6⟩ | ⟨g, cap, cur, h5, _, _, h6, _⟩
      · injection h5 with _ h7 h8; omega
      · injection h5 with _ h7 h8; omega
    simp only [SV.v]
    cases ha : s.a with
    | none => cases x0 <;> simp [Builtin.append_, run_underlying hT, sizeOf, typeInfo, hi, Builtin.lenOf, hle, Builtin.firstCells, loadCells, loadCellsFrom]
    | some a => cases x0 <;> simp [Builtin.append_, run_underlying hT, sizeOf, typeInfo, hi, Builtin.lenOf, hle, Builtin.firstCells, storeCells, loadCells, loadCellsFrom]
  · rw [h1]
    have hl : (R.cells ys).length = ys.length * i.size := by rw [hsz]; exact R.cells_len ys
    have hnews : ∀ j u, (R.cells ys)[j]? = some u → w.cell? ((⟨b, off, none⟩ : Addr).add j) = some u := fun j u hu => by rw [add_at]; exact h4 j u hu
    rcases hown.2 with ⟨rfl, h6⟩ | ⟨g, c0, cur, rfl, _, hg, hn, hcm, hcs, ht⟩
    · have hx : xs = [] := List.eq_nil_of_length_eq_zero h6
      subst hx
      by_cases hm : ys.length = 0
      · have hy : ys = [] := List.eq_nil_of_length_eq_zero hm
        subst hy
        refine ⟨nilS, w, ?_, hown, Chg.refl _ _, fun b hb => .inr hb, fun s0 e => by
          rw [← sv_inj (s := nilS) e]
          exact ⟨fun _ => .inl ⟨rfl, rfl⟩, fun h => absurd rfl h⟩⟩
        simp [Builtin.append_, run_underlying hT, sizeOf, typeInfo, hi, Builtin.lenOf, Builtin.firstCells, loadCells, loadCellsFrom, nilS]
      · have hr := run_append_nil (P := P) w T ty R.T i z hT hi hz ⟨b, off, none⟩ ys.length cap (R.cells ys) hl hnews (by omega) (by simp at hml; omega) (by rw [hby]; simp at hb; omega)
        have hgr := grown 0 (R.cells ys) (by simp) (by simp; omega) _ rfl
        simp only [List.length_nil, Nat.zero_add] at hgr
        refine ⟨⟨some ⟨w.heap.size, 0, none⟩, ys.length, _⟩, _, hr, hgr, ⟨rfl, rfl, rfl, by simp, fun k hk _ => Below.heap_alloc w.drew _ k hk, Nat.le_succ _⟩, fun k hk => ?_, fun s0 e => by
          rw [← sv_inj (s := nilS) e]
          exact ⟨fun h => by simp [SV.v, nilS, Value.ownBlock] at h, fun _ => ⟨R.cells_len [], .inl ⟨rfl, rfl⟩⟩⟩⟩
        simp only [Value.ownBlock, Option.some.injEq] at hk
        exact .inl (by omega)
    · have holds : ∀ j u, (R.cells xs)[j]? = some u → w.cell? ((⟨g, 0, none⟩ : Addr).add j) = some u := hown.cells (g := g) rfl
      by_cases hroom : xs.length + ys.length ≤ c0
      · have hfit : xs.length * i.size + (R.cells ys).length ≤ cur.size := by rw [hl, hcs, hsz, ← Nat.add_mul]; exact Nat.mul_le_mul_right _ hroom
        have hr := run_append_room (P := P) w T ty R.T i hT hi g xs.length c0 cur hg ⟨b, off, none⟩ ys.length cap (R.cells ys) hl hnews (R.cells_one ys) hroom hfit
        refine ⟨⟨some ⟨g, 0, none⟩, xs.length + ys.length, c0⟩, _, hr, ⟨hlen, .inr ⟨g, c0, _, by rw [List.length_append], Nat.zero_le _, setRow_heap w g cur _ R.T _ hg, by rw [List.length_append]; exact hroom, hcm, ?_, ?_⟩⟩, ⟨rfl, rfl, rfl, by simp, fun k _ hk => setRow_other w g k _ (fun e => hk (by simp [Value.ownBlock, e])), Nat.le_refl _⟩, fun k hk => .inr hk, fun s0 e => by
          rw [← sv_inj (s := ⟨some ⟨g, 0, none⟩, xs.length, c0⟩) e]
          exact ⟨fun _ => .inr ⟨g, c0, _, rfl, rfl⟩, fun h => absurd rfl h⟩⟩
        · rw [hsz] at hfit ⊢
          simp only [List.size_toArray, List.length_append, List.length_take, List.length_drop, Array.length_toList]
          omega
        · rw [hsz, ht, ← hlen, R.cells_append]
          exact List.take_left
      · have hr := run_append_grow (P := P) w T ty R.T i z hT hi hz ⟨g, 0, none⟩ xs.length c0 (R.cells xs) (by rw [hsz]; exact R.cells_len xs) holds ⟨b, off, none⟩ ys.length cap (R.cells ys) hl hnews (by omega) (by omega) (by rw [hby]; exact growslice_fits (by omega) hb)
        have hgr := grown c0 (R.cells xs ++ R.cells ys) (by rw [R.cells_append]) (by omega) _ rfl
        simp only [← List.append_toArray] at hgr
        refine ⟨⟨some ⟨w.heap.size, 0, none⟩, xs.length + ys.length, _⟩, _, hr, hgr, ⟨rfl, rfl, rfl, by simp, fun k hk _ => Below.heap_alloc w.drew _ k hk, Nat.le_succ _⟩, fun k hk => ?_, fun s0 e => by
          rw [← sv_inj (s := ⟨some ⟨g, 0, none⟩, xs.length, c0⟩) e]
          have hgl : g < w.heap.size := (Array.getElem?_eq_some_iff.1 hg).1
          exact ⟨fun h => by simp only [SV.v, Value.ownBlock, Option.some.injEq] at h; omega, fun _ => ⟨hown.1, .inr ⟨g, c0, cur, rfl, Nat.zero_le _, by rw [← hg]; exact Below.heap_alloc w.drew _ g hgl, hn, hcm, hcs, ht⟩⟩⟩⟩
        simp only [Value.ownBlock, Option.some.injEq] at hk
        exact .inl (by omega)

section
variable {α : Type} {R : Rep α} {w0 w : World} {M : List Nat} {A : Nat → Prop} {es : List Ent} {s s' : SV} {xs qs : List α}
def restK (s s' : SV) : List Nat := if s'.v.ownBlock = s.v.ownBlock then [] else s.v.ownBlock.toList
theorem RestOk.stay {w w' : World} (hs : ∀ k, k ∈ restK s s' → w'.heap[k]? = w.heap[k]?) (h : RestOk R s s' xs w) : RestOk R s s' xs w' := by
  refine ⟨h.1, fun hne => ?_⟩
  have := h.2 hne
  refine Ent.okx_of_block (e := .row R s.v xs) this fun k hm => hs k ?_
  unfold restK
  rw [if_neg hne]
  exact hm
theorem RestOk.lt {w : World} (h : RestOk R s s' xs w) : ∀ k, k ∈ restK s s' → k < w.heap.size := by
  intro k hk
  unfold restK at hk
  split at hk
  · cases hk
  · rename_i hne
    exact (World.ownsRow.lt (h.2 hne) k (by simpa using hk)).2
def restO (R : Rep α) (s s' : SV) (xs : List α) : OW := { ks := restK s s', ok := RestOk R s s' xs, stay := RestOk.stay, lt := RestOk.lt }
def duoO (R : Rep α) (s s' : SV) (xs qs : List α) : OW := {
  ks := s'.v.ownBlock.toList ++ restK s s'
  ok := fun w => w.ownsRow 0 R.T R.sz s'.v qs.length (R.cells qs) ∧ RestOk R s s' xs w
  stay := fun hs h => ⟨Ent.okx_of_block (e := .row R s'.v qs) h.1 fun k hm => hs k (List.mem_append_left _ hm), RestOk.stay (fun k hk => hs k (List.mem_append_right _ hk)) h.2⟩
  lt := fun h k hk => by
    rcases List.mem_append.1 hk with h1 | h1
    · exact (World.ownsRow.lt h.1 k (by simpa using h1)).2
    · exact h.2.lt k h1 }
theorem Sat.duoOpen (h : Sat w0 M A (.obj (duoO R s s' xs qs) :: es) w) : Sat w0 M A (.row R s'.v qs :: .obj (restO R s s' xs) :: es) w := by
  have h1 : (duoO R s s' xs qs).ok w := h.objAt (k := 0) rfl
  refine Sat.castL (fs := [.obj (duoO R s s' xs qs)]) (gs := [.row R s'.v qs, .obj (restO R s s' xs)]) h (by simp [keys, Ent.kl, Ent.key, duoO, restO]) (fun e he => ?_) (fun e he F => ?_)
  · rcases List.mem_cons.1 he with rfl | he
    · exact h1.1
    · rw [List.mem_singleton.1 he]; exact h1.2
  · rcases List.mem_cons.1 he with rfl | he
    · intro h; cases h
    · rw [List.mem_singleton.1 he]; intro h; cases h
theorem Sat.duoClose {ys : List α} (h : Sat w0 M A (.row R s'.v qs :: .obj (restO R s s' xs) :: es) w) (hq : qs = xs ++ ys) : Sat w0 M A (.row R s.v xs :: es) w := by
  have h1 : w.ownsRow 0 R.T R.sz s'.v qs.length (R.cells qs) := h.row (k := 0) rfl
  have h2 : RestOk R s s' xs w := h.objAt (k := 1) rfl
  by_cases he : s'.v.ownBlock = s.v.ownBlock
  · refine Sat.castL (fs := [.row R s'.v qs, .obj (restO R s s' xs)]) (gs := [.row R s.v xs]) h (by simp [keys, Ent.kl, Ent.key, restO, restK, he]) (fun e hm => ?_) (fun e hm F => by rw [List.mem_singleton.1 hm]; intro h; cases h)
    rw [List.mem_singleton.1 hm]
    show w.ownsRow 0 R.T R.sz s.v xs.length (R.cells xs)
    rcases h2.1 he with ⟨rfl, rfl⟩ | ⟨g, c, n', rfl, rfl⟩
    · exact ⟨R.cells_len [], .inl ⟨rfl, rfl⟩⟩
    · rcases h1.2 with ⟨h5, h6⟩ | ⟨g', cap, cur, h5, h6, h7, h8, h9, h10, h11⟩
      · simp [SV.v] at h5
      · simp only [SV.v] at h5
        injection h5 with h51 h52 h53
        have hg : g = g' := by simpa using h51
        subst hg
        have hl : xs.length ≤ qs.length := by rw [hq, List.length_append]; omega
        have h53' : c = cap := by simpa using h53
        subst h53'
        refine ⟨R.cells_len xs, .inr ⟨g, c, cur, rfl, h6, h7, Nat.le_trans hl h8, h9, h10, ?_⟩⟩
        have hc : R.cells qs = R.cells xs ++ R.cells ys := by rw [hq, R.cells_append]
        rw [hc] at h11
        have h12 := congrArg (List.take (xs.length * R.sz)) h11
        rw [List.take_take, Nat.min_eq_left (Nat.mul_le_mul_right _ hl), ← R.cells_len xs, List.take_left] at h12
        rw [← R.cells_len xs]
        exact h12
  · refine Sat.castL (fs := [.obj (restO R s s' xs)]) (gs := [.row R s.v xs]) (h.sublist (List.sublist_cons_self _ _)) (by simp [keys, Ent.kl, Ent.key, restO, restK, he]) (fun e hm => by rw [List.mem_singleton.1 hm]; exact h2.2 he) (fun e hm F => by rw [List.mem_singleton.1 hm]; intro h; cases h)
end
section
variable {P : Program} {Rp : Post} {K : List Lay} {N : NN} {l : Fr} {ops : Array Oper} {rest : List Oper} {d : Nat} {ty : Nat} {pos : String} {af : Array Edge} {x y : Operand} {T : TypeId}
variable {w0 : World} {M : List Nat} {A : Nat → Prop} {es : List Ent} {α : Type} {R : Rep α} {s t : SV} {xs ys qs : List α} {k by_ : Nat} {zs : List Value}
theorem r_appK {ag : Bool} (hT : P.underlying T = some (.slice R.T)) (hE : TyF P R.T ag R.sz by_ zs) (hzs : zs.length = R.sz) (hx : ev l x = some s.v) (hy : ev l y = some t.v) (hk : nth es k = some (.row R s.v xs)) (hr : FactAt es (RdS R t.v ys))
    (hq : appM by_ xs ys = some qs) (hd : Nat.blt d N.n = true) (h : ∀ s' : SV, LJ P Rp ops rest K N ((d, s'.v) :: l) (Sat w0 M A (setN es k (.obj (duoO R s s' xs qs))))) :
    LJ P Rp ops (⟨some d, .call { callee := .builtin .append, args := #[x, y], argTypes := #[T, T] }, ty, pos, af, none⟩ :: rest) K N l (Sat w0 M A es) := by
  intro a w hf hw
  obtain ⟨rfl, hb, hb2⟩ := appM_spec hq
  refine wpList_plain rfl fun K' hK => ?_
  unfold Oper.wp
  obtain ⟨s', w', hrun, hown, hc, hkey, hro⟩ := run_appK (P := P) (ty := ty) hT hE hzs (hw.row hk) (hr.get hw) hb hb2
  have : (execOp a.eval ⟨some d, .call { callee := .builtin .append, args := #[x, y], argTypes := #[T, T] }, ty, pos, af, none⟩).run P w = .ok (.value s'.v) w' := by
    simp [execOp, resolve, invoke, builtin, hf.ev hx, hf.ev hy, hrun]
  rw [this]
  have hR := hro s rfl
  have hok : (duoO R s s' xs (xs ++ ys)).ok w' := ⟨hown, hR⟩
  refine hK _ _ (h s' _ _ (hf.put hd _) (hw.swap' hk (e' := .obj (duoO R s s' xs (xs ++ ys))) hc hok ?_ (fun b hb => ?_) (fun F hF => by cases hF)))
  · show (s'.v.ownBlock.toList ++ restK s s').Nodup
    unfold restK
    split
    · rw [List.append_nil]; cases s'.v.ownBlock <;> simp
    · rename_i hne
      cases h1 : s'.v.ownBlock <;> cases h2 : s.v.ownBlock <;> simp
      rw [h1, h2] at hne
      exact fun e => hne (by rw [e])
  · have hb : b ∈ s'.v.ownBlock.toList ++ restK s s' := hb
    rcases List.mem_append.1 hb with h1 | h1
    · refine ⟨(World.ownsRow.lt hown b (by simpa using h1)).2, ?_⟩
      rcases hkey b (by simpa using h1) with h2 | h2
      · exact .inl h2
      · exact .inr (by simp [Ent.kl, h2])
    · refine ⟨hR.lt b h1, .inr ?_⟩
      unfold restK at h1
      split at h1
      · cases h1
      · exact h1
end
end Go.J
namespace Go.G
open Go Go.J Go.RowKit
section
variable {P : Program} {α : Type} {R : Rep α} {Rp : Post} {K : List Lay} {N : NN} {l : Fr} {ops : Array Oper} {rest : List Oper} {d : Nat} {ty : Nat} {pos : String} {af : Array Edge} {x y : Operand} {T by_ : Nat} {zs : List Value}
variable {w0 : World} {M : List Nat} {A : Nat → Prop} {es : List Ent} {m : Int} {q : List α} {z : α}
/-- nothing yet, and room -/
theorem r_mk0 {ag : Bool} (hT : P.underlying T = some (.slice R.T)) (hE : TyF P R.T ag R.sz by_ zs) (hz : R.enc z = zs) (hx : ev l x = some (.int .i64 0)) (hy : ev l y = some (.int .i64 m)) (hq : makeM by_ z m = some q) (hd : Nat.blt d N.n = true)
    (h : ∀ s : SV, LJ P Rp ops rest K N ((d, s.v) :: l) (Sat w0 M A (.row R s.v [] :: es))) :
    LJ P Rp ops (⟨some d, .makeSlice T x y, ty, pos, af, none⟩ :: rest) K N l (Sat w0 M A es) := by
  intro a w hf hw
  obtain ⟨k, rfl, h1, h2, rfl⟩ := makeM_spec hq
  obtain ⟨i, zv, hi, hzv, hzc, hs, hb⟩ := hE.info
  refine wpList_plain rfl fun K' hK => ?_
  unfold Oper.wp
  have hml : k ≤ 9223372036854775807 := by unfold maxLen at h2; omega
  have hbk : (by_ : Int) * (k : Int) ≤ 281474976710656 := by
    have : ((by_ * k : Nat) : Int) ≤ 281474976710656 := by rw [Nat.mul_comm]; omega
    rwa [Int.natCast_mul] at this
  have hr := run_make (P := P) w T R.T i zv hT hi hzv .i64 .i64 (0 : Nat) k (by omega) (by omega) (by rw [hb]; exact hbk) (by omega)
  have : (execOp a.eval ⟨some d, .makeSlice T x y, ty, pos, af, none⟩).run P w = .ok (.value (.slice (some ⟨w.heap.size, 0, none⟩) 0 k)) (w.alloc (.cells (madeCells zv.cells (k * i.size)) R.T)) := by
    have hr' : (Instr.makeSlice T (.int .i64 0) (.int .i64 k)).run P w = .ok (.slice (some ⟨w.heap.size, 0, none⟩) 0 k) (w.alloc (.cells (madeCells zv.cells (k * i.size)) R.T)) := by simpa using hr
    simp [execOp, hf.ev hx, hf.ev hy, hr']
  rw [this]
  refine hK _ _ (h ⟨some ⟨w.heap.size, 0, none⟩, 0, k⟩ _ _ (hf.put hd _) ?_)
  have hc := madeCells_enc R z zv.cells (by rw [hz, hzc]) k
  have hcl : (madeCells zv.cells (k * R.sz)).toList.length = k * R.sz := by rw [hc, R.cells_len, List.length_replicate]
  have := hw.newRowC R [] k (cs := (madeCells zv.cells (k * R.sz)).toList) (by
    rw [List.length_nil, Nat.zero_mul, List.take_zero]
    exact (List.eq_nil_of_length_eq_zero (by rw [R.cells_len]; simp)).symm) hcl (Nat.zero_le _) h2
  rw [hs]
  simpa using this
end
end Go.G

/- J44: a slice of rows of ours from which one row at a time is taken out and put back. No program in sight. -/
namespace Go.J
open Go Go.RowKit
set_option linter.unusedSimpArgs false
set_option linter.unusedSectionVars false
section
variable {α : Type} {R : Rep α} {w0 w : World} {M : List Nat} {A : Nat → Prop} {es rest : List Ent}
/-- all rows but one -/
def holeO (R : Rep α) (i : Nat) (xs : List (List α)) (xg : List (List α × SV)) : OW := {
  ks := (xg.eraseIdx i).flatMap fun p => p.2.v.ownBlock.toList
  ok := fun w => xg.map Prod.fst = xs ∧ ∀ p, p ∈ xg.eraseIdx i → w.ownsRow 0 R.T R.sz p.2.v p.1.length (R.cells p.1)
  stay := by
    intro w w' h hk
    exact ⟨hk.1, fun p hp => Ent.okx_of_block (e := .row R p.2.v p.1) (hk.2 p hp) fun k hm => h k (List.mem_flatMap.2 ⟨p, hp, hm⟩)⟩
  lt := by
    intro w hk k hm
    obtain ⟨p, hp, hm⟩ := List.mem_flatMap.1 hm
    exact (World.ownsRow.lt (hk.2 p hp) k (by simpa using hm)).2 }
theorem Sat.rowsNils {q : List (List α)} {qg : List (List α × SV)} (hA : ∀ p, p ∈ qg → p = ([], nilS)) (hL : qg.map Prod.fst = q) (h : Sat w0 M A es w) : Sat w0 M A (.obj (rowsO R q qg) :: es) w := by
  have hk : qg.flatMap (fun p => p.2.v.ownBlock.toList) = [] := by
    rw [List.flatMap_eq_nil_iff]
    intro p hp
    rw [hA p hp]; rfl
  exact Sat.castL (fs := []) (gs := [.obj (rowsO R q qg)]) h (by simp [keys, Ent.kl, rowsO, hk]) (fun e he => by
    rw [List.mem_singleton.1 he]
    exact ⟨hL, fun p hp => by rw [hA p hp]; exact ⟨R.cells_len [], .inl ⟨rfl, rfl⟩⟩⟩) (fun e he F => by rw [List.mem_singleton.1 he]; intro h; cases h)
theorem eraseIdx_perm {β : Type} {xg : List β} {i : Nat} {p : β} (hi : xg[i]? = some p) : (p :: xg.eraseIdx i).Perm xg := by
  have hlt := (List.getElem?_eq_some_iff.1 hi).1
  have hp : xg[i] = p := (List.getElem?_eq_some_iff.1 hi).2
  rw [← hp, List.eraseIdx_eq_take_drop_succ]
  refine List.perm_middle.symm.trans ?_
  have e : List.take i xg ++ xg[i] :: List.drop (i + 1) xg = xg := by
    rw [List.getElem_cons_drop hlt, List.take_append_drop]
  rw [e]
/-- one row is taken out -/
theorem Sat.holeTake {xs : List (List α)} {xg : List (List α × SV)} {i : Nat} {x : List α} {s : SV} (h : Sat w0 M A (.obj (rowsO R xs xg) :: es) w) (hi : xg[i]? = some (x, s)) :
    Sat w0 M A (.row R s.v x :: .obj (holeO R i xs xg) :: es) w := by
  have hok : (rowsO R xs xg).ok w := h.objAt (k := 0) rfl
  refine Sat.castL (fs := [.obj (rowsO R xs xg)]) (gs := [.row R s.v x, .obj (holeO R i xs xg)]) h ?_ (fun e he => ?_) (fun e he F hF => ?_)
  · have := (eraseIdx_perm hi).flatMap_right (fun q : List α × SV => q.2.v.ownBlock.toList)
    simpa [keys, Ent.kl, Ent.key, rowsO, holeO, List.flatMap_cons] using this
  · rcases List.mem_cons.1 he with rfl | he
    · exact hok.2 (x, s) (List.mem_of_getElem? hi)
    · rw [List.mem_singleton.1 he]
      exact ⟨hok.1, fun q hq => hok.2 q (List.mem_of_mem_eraseIdx hq)⟩
  · rcases List.mem_cons.1 he with rfl | he
    · cases hF
    · rw [List.mem_singleton.1 he] at hF; cases hF
/-- and one is put there -/
theorem Sat.holePut {xs : List (List α)} {xg : List (List α × SV)} {i : Nat} {x : List α} {p0 : List α × SV} {s : SV} (h : Sat w0 M A (.row R s.v x :: .obj (holeO R i xs xg) :: es) w) (hi : xg[i]? = some p0) :
    Sat w0 M A (.obj (rowsO R (xs.set i x) (xg.set i (x, s))) :: es) w := by
  have h1 : w.ownsRow 0 R.T R.sz s.v x.length (R.cells x) := h.row (k := 0) rfl
  have h2 : (holeO R i xs xg).ok w := h.objAt (k := 1) rfl
  have hlt := (List.getElem?_eq_some_iff.1 hi).1
  have hset : (xg.set i (x, s))[i]? = some (x, s) := List.getElem?_set_self hlt
  have her : (xg.set i (x, s)).eraseIdx i = xg.eraseIdx i := by
    rw [List.eraseIdx_eq_take_drop_succ, List.eraseIdx_eq_take_drop_succ, List.take_set_of_le (Nat.le_refl _), List.drop_set_of_lt (Nat.lt_succ_self _)]
  have hp := eraseIdx_perm hset
  rw [her] at hp
  refine Sat.castL (fs := [.row R s.v x, .obj (holeO R i xs xg)]) (gs := [.obj (rowsO R (xs.set i x) (xg.set i (x, s)))]) h ?_ (fun e he => ?_) (fun e he F hF => ?_)
  · have := (hp.symm).flatMap_right (fun q : List α × SV => q.2.v.ownBlock.toList)
    simpa [keys, Ent.kl, Ent.key, rowsO, holeO, List.flatMap_cons] using this
  · rw [List.mem_singleton.1 he]
    refine ⟨by rw [List.map_set, h2.1], fun q hq => ?_⟩
    rcases List.mem_cons.1 (hp.symm.mem_iff.1 hq) with rfl | hq
    · exact h1
    · exact h2.2 q hq
  · rw [List.mem_singleton.1 he] at hF; cases hF
end
end Go.J
