/- JB: the rules (J17..J46), in one text. No program in sight. -/
import Derived.Test.YtmcooogdeocldaaDoorJA
import Derived.RangeFuncRecord
import Derived.RangeFuncIn
import Derived.Lib.AppendStr
import Derived.Lib.UnsafeStr
import Derived.Lib.Builder
import Derived.MapKept
import Derived.Lib.Bytealg
import Derived.Lib.SlicesCompact
import Derived.Lib.AppendZeros
import Derived.Laws.MakeOwn
/- J17: conversions; an error held against nil. No program in sight. -/
namespace Go.J
open Go Go.RowKit
section
variable {P : Program} {N : NN} {l : Fr} {H : World → Prop} {dd : Option Nat} {ty : Nat} {pos : String} {af : Array Edge} {g : Option (Nat × Bool)} {x : Operand} {T T' : TypeId} {m : Int} {k k' : IntKind} {dS : TypeDesc}
theorem p_cvi (hS : P.underlying T = some dS) (hT : P.underlying T' = some (.int k)) (hx : ev l x = some (.int k' m)) : PureOp P N ⟨dd, .convert T T' x, ty, pos, af, g⟩ l H (.int k (k.wrap m)) := fun a w hf _ => by
  simp [execOp, hf.ev hx, convert, run_underlying hS, run_underlying hT, Conv.intToInt]
end
end Go.J

/- J18: code in a round of a range over a function; functions that leave with a mark. No program in sight. -/
namespace Go.J
open Go Go.RowKit

/-! ### code that does the same in a round -/
def noDefer (o : Oper) : Bool := match o.op with | .defer _ => false | _ => true
def rcode : Code → Bool
  | .seq x y => rcode x && rcode y
  | .region _ ops _ => ops.toList.all noDefer
  | .cond _ x y => rcode x && rcode y
  | .block _ c => rcode c
  | .loop c => rcode c
  | .exit _ | .ret | .skip => true
  | _ => false
/-! ### a block that holds no cells -/
def oneO (b : Nat) (o : Obj) : OW := ⟨[b], fun w => w.heap[b]? = some o, fun h hk => (h b (by simp)).trans hk, fun h k hk => by simp at hk; subst hk; exact (Array.getElem?_eq_some_iff.1 h).1⟩
section
variable {w0 w : World} {M : List Nat} {A : Nat → Prop} {es : List Ent} {b k : Nat} {o o' : Obj}
theorem Sat.allocO (h : Sat w0 M A es w) (o : Obj) : Sat w0 M A (.obj (oneO w.heap.size o) :: es) (w.alloc o) := by
  have := h.step (w' := w.alloc o) [] (by simp) ⟨rfl, rfl, rfl, by simp, fun b hb _ => Below.heap_alloc w _ b hb, Nat.le_refl _⟩ es [.obj (oneO w.heap.size o)] (List.Sublist.refl _) (by simp)
    (by simp [keys, Ent.kl, oneO]) (by intro k hk; simp [keys, Ent.kl, oneO] at hk; subst hk; exact ⟨by simp, .inl (Nat.le_refl _)⟩)
    (by intro e he; simp at he; subst he; exact Go.heap_alloc_new w _) (by intro e he; simp at he; subst he; intros; trivial)
  exact this.perm List.perm_append_comm
theorem Sat.objAt (h : Sat w0 M A es w) {q : OW} (hk : nth es k = some (.obj q)) : q.ok w := h.okx _ (nth_mem hk)
theorem Sat.putO (h : Sat w0 M A es w) (hk : nth es k = some (.obj (oneO b o))) : Sat w0 M A (setN es k (.obj (oneO b o'))) (w.putObj b o') := by
  have hb : w.heap[b]? = some o := h.objAt hk
  have hlt := (Array.getElem?_eq_some_iff.1 hb).1
  refine h.swap' hk ⟨rfl, rfl, rfl, by simp, fun x _ hx => World.putObj_heap_other (fun e => hx (by simp [Ent.kl, oneO, e])), Nat.le_refl _⟩ (World.putObj_heap_same hlt) (by simp [Ent.kl, oneO]) ?_ (fun F hF => by cases hF)
  intro x hx
  simp [Ent.kl, oneO] at hx
  subst hx
  exact ⟨by simpa using hlt, .inr (by simp [Ent.kl, oneO])⟩
end

/-! ### functions that leave with a mark -/
def markOf (D : Nat) : Deferred := { target := .collected D, args := #[] }
def defO (D : Nat) : OW := oneO D (.deferred (some []))
/-- what the body of such a function must achieve -/
def markPost (P : Program) (fn : Func) (R : Ending → World → Prop) : Post := fun e a w => match e with
  | .normal | .ret => LeavesInM Fence.wide 0 P fn a.tmps R a.defers .returning w
  | _ => False
instance {P : Program} {fn : Func} {R : Ending → World → Prop} : PanicOk (markPost P fn R) := ⟨fun _ _ _ _ _ h => h⟩
section
variable {P : Program} {K : List Lay} {l : Fr} {w0 : World} {M : List Nat} {A : Nat → Prop} {es r : List Ent} {rs : List ResultVar} {vs : List Value} {fn : Func} {X : Type} {V : X → Value} {post : X → List Ent}
end
end Go.J

/- J19: 'for i, x := range slices.Backward(s)'. No program in sight. -/
namespace Go.J
open Go Go.RowKit
/-- the model of the loop -/
def rangeB {α σ ρ : Type} (step : Nat → α → σ → Option (Flow σ ρ)) (xs : List α) (s : σ) : Option (Flow σ ρ) := rangeM (fun j x s => step (xs.length - 1 - j) x s) 0 xs.reverse s
/-- the library's closure -/
def backCode (TS TE TF TI TB : Nat) (p q : String) : Code :=
  .seq (.region 0 #[⟨some 4, .load TS (.tmp 1), TS, p, #[], none⟩, ⟨some 5, .call { callee := .builtin .len, args := #[.tmp 4], argTypes := #[TS] }, TI, p, #[⟨0, .data⟩], none⟩,
      ⟨some 6, .binOp .sub TI (.tmp 5) (.const (.int .i64 1)) TI, TI, p, #[⟨1, .data⟩], none⟩, ⟨some 3, .assign (.tmp 6), TI, p, #[⟨2, .data⟩, ⟨0, .phase⟩, ⟨1, .phase⟩, ⟨2, .phase⟩], none⟩] false)
    (.block 0 (.loop (.seq (.seq (.region 1 #[⟨some 7, .move (.tmp 3), TI, p, #[], none⟩, ⟨some 8, .binOp .geq TI (.tmp 7) (.const (.int .i64 0)) TI, TB, p, #[⟨0, .data⟩], none⟩] false) (.cond (.tmp 8) .skip (.exit 0)))
      (.seq (.block 1 (.seq (.region 3 #[⟨some 11, .move (.tmp 0), TF, q, #[], none⟩, ⟨some 12, .move (.tmp 3), TI, q, #[], none⟩, ⟨some 13, .load TS (.tmp 1), TS, q, #[], none⟩, ⟨some 14, .move (.tmp 3), TI, q, #[], none⟩,
          ⟨some 15, .indexAddr TS (.tmp 13) (.tmp 14), 0, q, #[⟨2, .data⟩, ⟨3, .data⟩], none⟩, ⟨some 16, .load TE (.tmp 15), TE, q, #[⟨4, .data⟩], none⟩,
          ⟨some 17, .call { callee := .value (.tmp 11), args := #[.tmp 12, .tmp 16], argTypes := #[TI, TE] }, TB, q, #[⟨0, .data⟩, ⟨1, .data⟩, ⟨5, .data⟩], none⟩, ⟨some 18, .unOp .not TB (.tmp 17), TB, q, #[⟨6, .data⟩], none⟩] false) (.cond (.tmp 18) .ret .skip)))
        (.region 2 #[⟨some 9, .move (.tmp 3), TI, p, #[], none⟩, ⟨some 10, .binOp .sub TI (.tmp 9) (.const (.int .i64 1)) TI, TI, p, #[⟨0, .data⟩], none⟩,
          ⟨some 3, .assign (.tmp 10), TI, p, #[⟨1, .data⟩, ⟨0, .phase⟩, ⟨1, .phase⟩], none⟩] false)))))
section
variable {P : Program} {N : NN} {l : Fr} {H : World → Prop} {Q : Post} {a : Act} {w : World} {ops : Array Oper}
end
section
variable {P : Program} {w0 : World} {M : List Nat} {A : Nat → Prop} {α σ γ ρ : Type} {R : Rep α} {xs : List α} {sv : SV} {fn : Func} {kb bx TS TE TF TI TB by_ by2 : Nat} {p q : String} {zs zs2 : List Value}
end
end Go.J

/- J20: strings.Builder: what it holds as an entry of ours; append of a string; a string over bytes. No program in sight. -/
namespace Go.J
open Go Go.RowKit
set_option linter.unusedSimpArgs false
/-- bytes in memory -/
def RB (T : TypeId) : Rep UInt8 := ⟨T, 1, 1, fun u => [.int .u8 u.toNat], fun _ => rfl, fun x u hu => by simp only [List.mem_singleton] at hu; subst hu; rfl, by decide⟩
/-- a builder in block b: its bytes are l, s is the header of their row -/
def bldO (Tb T8 : TypeId) (b : Nat) (s : SV) (l : List UInt8) : OW := {
  ks := b :: s.v.ownBlock.toList
  ok := fun w => (b :: s.v.ownBlock.toList).Nodup ∧ (∃ q, (q = none ∨ q = some ⟨b, 0, none⟩) ∧ w.heap[b]? = some (.cells [.pointer q, s.v].toArray Tb (0, 0))) ∧ w.ownsRow 0 T8 1 s.v l.length ((RB T8).cells l) ∧ (l = [] → s = nilS) ∧ (l ≠ [] → s.a ≠ none)
  stay := fun {w w'} h hk => by
    refine ⟨hk.1, ?_, ?_, hk.2.2.2⟩
    · obtain ⟨q, h1, h2⟩ := hk.2.1
      exact ⟨q, h1, (h b (List.mem_cons_self ..)).trans h2⟩
    · exact Ent.okx_of_block (e := .row (RB T8) s.v l) (w := w) hk.2.2.1 (fun k hk => h k (List.mem_cons_of_mem _ hk))
  lt := fun {w} hk k hkm => by
    rcases List.mem_cons.1 hkm with rfl | h
    · obtain ⟨q, -, h2⟩ := hk.2.1
      exact (Array.getElem?_eq_some_iff.1 h2).1
    · exact Ent.okx_lt (e := .row (RB T8) s.v l) (w := w) hk.2.2.1 h }
section
variable {w0 w : World} {M : List Nat} {A : Nat → Prop} {es : List Ent} {Tb T8 b : Nat} {s : SV} {l : List UInt8}
theorem Sat.cast1 {fs : List Ent} {e : Ent} (h : Sat w0 M A (fs ++ es) w) (hk : keys fs = e.kl) (hok : e.okx w) (hro : ∀ F, e ≠ .ro F) : Sat w0 M A (e :: es) w := by
  have hkk : keys (e :: es) = keys (fs ++ es) := by rw [keys_append, keys_cons, hk]
  refine ⟨h.chg, h.dis, by rw [hkk]; exact h.nodup, fun k hm => h.fresh k (by rw [← hkk]; exact hm), fun f hf => ?_, fun f hf => ?_⟩
  · rcases List.mem_cons.1 hf with h1 | h1
    · subst h1; exact hok
    · exact h.okx f (List.mem_append_right _ h1)
  · rcases List.mem_cons.1 hf with h1 | h1
    · subst h1
      cases f with
      | ro F => exact (hro F rfl).elim
      | box b T cs => trivial
      | row R v xs => trivial
      | obj o => trivial
    · rw [hkk]; exact h.okr f (List.mem_append_right _ h1)
end
section
variable {P : Program} {Rp : Post} {K : List Lay} {N : NN} {l : Fr} {ops : Array Oper} {rest : List Oper} {d : Nat} {dd : Option Nat} {ty : Nat} {pos : String} {af : Array Edge} {g : Option (Nat × Bool)} {x y : Operand} {T T' T8 Tb b : TypeId} {c : Code}
variable {w0 : World} {M : List Nat} {A : Nat → Prop} {es : List Ent} {s : SV} {bs : List UInt8} {t : ByteArray} {k : Nat} {zs : List Value}
end
end Go.J

/- J21: pointers against nil, against themselves, through unsafe.Pointer; a call that the model answers itself. No program in sight. -/
namespace Go.J
open Go Go.RowKit
section
variable {P : Program} {Rp : Post} {K : List Lay} {N : NN} {l : Fr} {ops : Array Oper} {rest : List Oper} {d : Nat} {dd : Option Nat} {ty : Nat} {pos : String} {af : Array Edge} {g : Option (Nat × Bool)} {x y : Operand} {T T' Te Tb : TypeId}
variable {w0 : World} {M : List Nat} {A : Nat → Prop} {es : List Ent} {H : World → Prop} {k b : Nat} {cs : List Value}
end
end Go.J

/- J22: maps of plain things: a block of ours that holds a map; look, put, entry and store, delete, length. No program in sight. -/
namespace Go.J
open Go Go.RowKit
set_option linter.unusedSimpArgs false
set_option linter.unusedSectionVars false
/-! ### the plain side: a map is its entries, in the order in which they came -/
section
variable {K V V' : Type} [DecidableEq K]
def lkM (l : List (K × V)) (k : K) : Option V := (l.find? fun p => decide (p.1 = k)).map (·.2)
def hasM (l : List (K × V)) (k : K) : Bool := l.any fun p => decide (p.1 = k)
def putM (l : List (K × V)) (k : K) (v : V) : List (K × V) := if hasM l k then l.map (fun p => if p.1 = k then (k, v) else p) else l ++ [(k, v)]
def delM (l : List (K × V)) (k : K) : List (K × V) := l.filter fun p => !decide (p.1 = k)
def mpV (f : V → V') (l : List (K × V)) : List (K × V') := l.map fun p => (p.1, f p.2)
theorem lkM_map (f : V → V') (l : List (K × V)) (k : K) : lkM (mpV f l) k = (lkM l k).map f := by
  unfold lkM mpV
  induction l with
  | nil => rfl
  | cons p l ih =>
    simp only [List.map_cons, List.find?_cons]
    cases decide (p.1 = k)
    · exact ih
    · rfl
theorem hasM_map (f : V → V') (l : List (K × V)) (k : K) : hasM (mpV f l) k = hasM l k := by
  unfold hasM mpV
  rw [List.any_map]; rfl
theorem putM_map (f : V → V') (l : List (K × V)) (k : K) (v : V) : putM (mpV f l) k (f v) = mpV f (putM l k v) := by
  unfold putM
  rw [hasM_map]
  split
  · simp only [mpV, List.map_map]
    refine List.map_congr_left fun p _ => ?_
    simp only [Function.comp]
    by_cases h : p.1 = k <;> simp [h]
  · simp [mpV]
theorem hasM_iff (l : List (K × V)) (k : K) : hasM l k = true ↔ k ∈ l.map Prod.fst := by
  unfold hasM
  simp only [List.any_eq_true, decide_eq_true_eq, List.mem_map]
theorem lkM_some {l : List (K × V)} {k : K} {v : V} (hn : (l.map Prod.fst).Nodup) (i : Nat) (h : l[i]? = some (k, v)) : lkM l k = some v := by
  induction l generalizing i with
  | nil => cases h
  | cons p l ih =>
    simp only [List.map_cons, List.nodup_cons] at hn
    cases i with
    | zero => simp at h; subst h; simp [lkM]
    | succ i =>
      have h' : l[i]? = some (k, v) := by simpa using h
      have hne : p.1 ≠ k := fun e => hn.1 (by rw [e]; exact List.mem_map.2 ⟨(k, v), List.mem_of_getElem? h', rfl⟩)
      have := ih hn.2 i h'
      unfold lkM at this ⊢
      rw [List.find?_cons, decide_eq_false hne]
      exact this
theorem lkM_none {l : List (K × V)} {k : K} (h : ∀ p ∈ l, p.1 ≠ k) : lkM l k = none := by
  unfold lkM
  rw [List.find?_eq_none.2 (fun p hp => by simpa using h p hp)]; rfl
theorem hasM_none {l : List (K × V)} {k : K} (h : ∀ p ∈ l, p.1 ≠ k) : hasM l k = false := by
  unfold hasM
  rw [List.any_eq_false]
  exact fun p hp => by simpa using h p hp
theorem putM_at {l : List (K × V)} {k : K} {v u : V} (hn : (l.map Prod.fst).Nodup) (i : Nat) (h : l[i]? = some (k, u)) : putM l k v = l.set i (k, v) := by
  have hh : hasM l k = true := (hasM_iff l k).2 (List.mem_map.2 ⟨(k, u), List.mem_of_getElem? h, rfl⟩)
  unfold putM
  rw [if_pos hh]
  refine List.ext_getElem? fun j => ?_
  rw [List.getElem?_map, List.getElem?_set]
  by_cases hij : i = j
  · subst hij
    have hi := (List.getElem?_eq_some_iff.1 h).1
    rw [h]; simp [hi]
  · rw [if_neg hij]
    cases hj : l[j]? with
    | none => rfl
    | some p =>
      have hne : p.1 ≠ k := fun e => hij (by
        have hi := (List.getElem?_eq_some_iff.1 h)
        have hj := (List.getElem?_eq_some_iff.1 hj)
        have h1 : (l.map Prod.fst)[i]'(by simpa using hi.1) = (l.map Prod.fst)[j]'(by simpa using hj.1) := by
          simp only [List.getElem_map]
          rw [hi.2, hj.2]
          exact e.symm
        exact (List.getElem_inj hn).1 h1)
      simp [hne]
theorem putM_new {l : List (K × V)} {k : K} {v : V} (h : ∀ p ∈ l, p.1 ≠ k) : putM l k v = l ++ [(k, v)] := by
  unfold putM
  rw [if_neg (by rw [hasM_none h]; simp)]
theorem putM_keys (l : List (K × V)) (k : K) (v : V) : (putM l k v).map Prod.fst = if hasM l k then l.map Prod.fst else l.map Prod.fst ++ [k] := by
  unfold putM
  split
  · rw [List.map_map]
    refine List.map_congr_left fun p _ => ?_
    simp only [Function.comp]
    by_cases h : p.1 = k <;> simp [h]
  · simp
end
/-! ### keys -/
structure KeyF (P : Program) (T : TypeId) {K : Type} [DecidableEq K] (kv : K → Value) : Prop where
  chk : ∀ em k w, (Instr.checkKey em 10000 T (kv k)).run P w = .ok () w
  eq : ∀ x y w, (Op.equal T (kv x) (kv y)).run P w = .ok (decide (x = y)) w
  now : ∃ d, P.underlying T = some d ∧ ((∀ x y, Instr.sameNow d (kv x) (kv y) = some (decide (x = y))) ∨ ∀ x y, Instr.sameNow d (kv x) (kv y) = none)
  same : ∀ k, Instr.sameBits 10000 (kv k) (kv k) = true
section
variable {P : Program} {T : TypeId} {K : Type} [DecidableEq K] {kv : K → Value}
def EL (kv : K → Value) (es : List MapEntry) (l : List (K × Value)) : Prop := es.map (fun e => (e.key, e.val)) = l.map fun p => (kv p.1, p.2)
theorem findNow_some {d : TypeDesc} (h : ∀ x y, Instr.sameNow d (kv x) (kv y) = some (decide (x = y))) (k : K) : ∀ (l : List (K × Value)) (es : List MapEntry) (n : Nat), EL kv es l →
    (∃ i v, Instr.findNow d (kv k) es n = some (some (n + i, v)) ∧ l[i]? = some (k, v)) ∨ (Instr.findNow d (kv k) es n = some none ∧ ∀ p ∈ l, p.1 ≠ k) := by
  intro l
  induction l with
  | nil => intro es n he; right; cases es with
    | nil => exact ⟨rfl, fun p hp => by cases hp⟩
    | cons e es => simp [EL] at he
  | cons p l ih =>
    intro es n he
    cases es with
    | nil => simp [EL] at he
    | cons e es =>
      simp only [EL, List.map_cons, List.cons.injEq, Prod.mk.injEq] at he
      obtain ⟨⟨h1, h2⟩, h3⟩ := he
      simp only [Instr.findNow, h1, h]
      by_cases hk : k = p.1
      · left
        rw [decide_eq_true hk]
        exact ⟨0, e.val, rfl, by rw [hk, h2]; rfl⟩
      · rw [decide_eq_false hk]
        rcases ih es (n + 1) h3 with ⟨i, v, a, b⟩ | ⟨a, b⟩
        · left; exact ⟨i + 1, v, by show Instr.findNow d (kv k) es (n + 1) = _; rw [a, Nat.add_assoc, Nat.add_comm 1], by simpa using b⟩
        · right; exact ⟨a, fun q hq => by
            rcases List.mem_cons.1 hq with rfl | hq
            · exact fun e => hk e.symm
            · exact b q hq⟩
theorem findAsk_some (h : ∀ x y w, (Op.equal T (kv x) (kv y)).run P w = .ok (decide (x = y)) w) (k : K) (w : World) : ∀ (l : List (K × Value)) (es : List MapEntry) (n : Nat), EL kv es l →
    (∃ i v, (Instr.findAsking T (kv k) es n).run P w = .ok (some (n + i, v)) w ∧ l[i]? = some (k, v)) ∨ ((Instr.findAsking T (kv k) es n).run P w = .ok none w ∧ ∀ p ∈ l, p.1 ≠ k) := by
  intro l
  induction l with
  | nil => intro es n he; right; cases es with
    | nil => exact ⟨by simp [Instr.findAsking], fun p hp => by cases hp⟩
    | cons e es => simp [EL] at he
  | cons p l ih =>
    intro es n he
    cases es with
    | nil => simp [EL] at he
    | cons e es =>
      simp only [EL, List.map_cons, List.cons.injEq, Prod.mk.injEq] at he
      obtain ⟨⟨h1, h2⟩, h3⟩ := he
      by_cases hk : k = p.1
      · left
        refine ⟨0, e.val, ?_, by rw [hk, h2]; rfl⟩
        simp [Instr.findAsking, h1, h, hk]
      · rcases ih es (n + 1) h3 with ⟨i, v, a, b⟩ | ⟨a, b⟩
        · left; exact ⟨i + 1, v, by simp [Instr.findAsking, h1, h, hk, a, Nat.add_assoc, Nat.add_comm 1], by simpa using b⟩
        · right; exact ⟨by simp [Instr.findAsking, h1, h, hk, a], fun q hq => by
            rcases List.mem_cons.1 hq with rfl | hq
            · exact fun e => hk e.symm
            · exact b q hq⟩
theorem findNow_none {d : TypeDesc} (h : ∀ x y, Instr.sameNow d (kv x) (kv y) = none) (k : K) (l : List (K × Value)) (es : List MapEntry) (he : EL kv es l) : Instr.findNow d (kv k) es 0 = none ∨ (es = [] ∧ l = []) := by
  cases l with
  | nil => cases es with
    | nil => exact .inr ⟨rfl, rfl⟩
    | cons e es => simp [EL] at he
  | cons p l => cases es with
    | nil => simp [EL] at he
    | cons e es =>
      simp only [EL, List.map_cons, List.cons.injEq, Prod.mk.injEq] at he
      left
      simp [Instr.findNow, he.1.1, h]
theorem KeyF.find (hK : KeyF P T kv) (k : K) (w : World) (l : List (K × Value)) (es : List MapEntry) (he : EL kv es l) :
    (∃ i v, (Instr.findKey T (kv k) es).run P w = .ok (some (i, v)) w ∧ l[i]? = some (k, v)) ∨ ((Instr.findKey T (kv k) es).run P w = .ok none w ∧ ∀ p ∈ l, p.1 ≠ k) := by
  obtain ⟨d, hd, h | h⟩ := hK.now
  · rcases findNow_some h k l es 0 he with ⟨i, v, a, b⟩ | ⟨a, b⟩
    · left; exact ⟨i, v, by simp [Instr.findKey, run_underlying hd, a], b⟩
    · right; exact ⟨by simp [Instr.findKey, run_underlying hd, a], b⟩
  · rcases findNow_none h k l es he with a | ⟨rfl, rfl⟩
    · rcases findAsk_some hK.eq k w l es 0 he with ⟨i, v, c, b⟩ | ⟨c, b⟩
      · left; exact ⟨i, v, by simp [Instr.findKey, run_underlying hd, a, c], b⟩
      · right; exact ⟨by simp [Instr.findKey, run_underlying hd, a, c], b⟩
    · right; exact ⟨by simp [Instr.findKey, run_underlying hd, Instr.findNow], fun p hp => by cases hp⟩
end
/-! ### a map in a block of ours -/
section
variable {K : Type} [DecidableEq K]
structure MapAt (kv : K → Value) (b : Nat) (l : List (K × Value)) (es : Array MapEntry) (clock : Nat) (w : World) : Prop where
  heap : w.heap[b]? = some (.map es clock)
  el : EL kv es.toList l
  nd : (l.map Prod.fst).Nodup
  born : ∀ e ∈ es.toList, e.born < clock
  bnd : (es.toList.map (·.born)).Nodup
def mapO (kv : K → Value) (b : Nat) (l : List (K × Value)) (es : Array MapEntry) (clock : Nat) : OW := {
  ks := [b]
  ok := MapAt kv b l es clock
  stay := fun {w w'} h m => ⟨(h b (List.mem_singleton.2 rfl)).trans m.heap, m.el, m.nd, m.born, m.bnd⟩
  lt := fun {w} m k hkm => by
    rw [List.mem_singleton.1 hkm]
    exact (Array.getElem?_eq_some_iff.1 m.heap).1 }
/-- which entry was born as the n-th -/
def BornAt (l : List (K × Value)) (es : Array MapEntry) (k : K) (n : Nat) : Prop := ∃ (i : Nat) (e : MapEntry), es.toList[i]? = some e ∧ e.born = n ∧ ∃ v, l[i]? = some (k, v)
theorem EL.len {kv : K → Value} {es : List MapEntry} {l : List (K × Value)} (h : EL kv es l) : es.length = l.length := by
  have := congrArg List.length h
  simpa using this
theorem EL.set {kv : K → Value} {es : List MapEntry} {l : List (K × Value)} (h : EL kv es l) (i : Nat) (k : K) (v : Value) (f : MapEntry → MapEntry) (hf : ∀ e, es[i]? = some e → (f e).key = kv k ∧ (f e).val = v) :
    EL kv (es.modify i f) (l.set i (k, v)) := by
  unfold EL at h ⊢
  refine List.ext_getElem? fun j => ?_
  have hj := congrArg (·[j]?) h
  simp only [List.getElem?_map] at hj ⊢
  rw [List.getElem?_modify, List.getElem?_set]
  by_cases hij : i = j
  · subst hij
    rw [if_pos rfl]
    cases he : es[i]? with
    | none =>
      have : ¬ i < l.length := by
        rw [← EL.len h]
        exact fun hlt => by rw [List.getElem?_eq_getElem hlt] at he; cases he
      simp [this]
    | some e =>
      have : i < l.length := by
        rw [← EL.len h]
        exact (List.getElem?_eq_some_iff.1 he).1
      have h1 := hf e he
      simp [this, h1.1, h1.2]
  · rw [if_neg hij]
    simp only [if_neg hij]
    simpa using hj
theorem EL.push {kv : K → Value} {es : List MapEntry} {l : List (K × Value)} (h : EL kv es l) (k : K) (v : Value) (e : MapEntry) (h1 : e.key = kv k) (h2 : e.val = v) : EL kv (es ++ [e]) (l ++ [(k, v)]) := by
  unfold EL at h ⊢
  rw [List.map_append, List.map_append, h]
  simp [h1, h2]
theorem mod_born (es : List MapEntry) (i : Nat) (f : MapEntry → MapEntry) (hf : ∀ e, (f e).born = e.born) : (es.modify i f).map (·.born) = es.map (·.born) := by
  refine List.ext_getElem? fun j => ?_
  simp only [List.getElem?_map, List.getElem?_modify]
  by_cases hij : i = j
  · subst hij; cases es[i]? <;> simp [hf]
  · simp only [if_neg hij]; cases es[j]? <;> rfl
theorem MapAt.put {kv : K → Value} {b : Nat} {l : List (K × Value)} {es : Array MapEntry} {clock : Nat} {w w' : World} (m : MapAt kv b l es clock w) {i : Nat} {k : K} {v u : Value} (hi : l[i]? = some (k, u)) (f : MapEntry → MapEntry)
    (hf : ∀ e, es[i]? = some e → (f e).key = kv k ∧ (f e).val = v) (hb : ∀ e, (f e).born = e.born) (hw : w'.heap[b]? = some (.map (es.modify i f) clock)) : MapAt kv b (l.set i (k, v)) (es.modify i f) clock w' := by
  have hbm := mod_born es.toList i f hb
  refine ⟨hw, ?_, ?_, ?_, ?_⟩
  · rw [Array.toList_modify]
    exact m.el.set i k v f fun e he => hf e (by simpa using he)
  · have : (l.set i (k, v)).map Prod.fst = l.map Prod.fst := by
      rw [List.map_set]
      have h2 := List.getElem?_eq_some_iff.1 hi
      have h3 : k = (l.map Prod.fst)[i]'(by simpa using h2.1) := by simp [h2.2]
      show (l.map Prod.fst).set i k = _
      conv => lhs; rw [h3]
      rw [List.set_getElem_self]
    rw [this]; exact m.nd
  · rw [Array.toList_modify]
    intro e he
    have : e.born ∈ (es.toList.modify i f).map (·.born) := List.mem_map_of_mem he
    rw [hbm] at this
    obtain ⟨e', he', h⟩ := List.mem_map.1 this
    rw [← h]; exact m.born e' he'
  · rw [Array.toList_modify, hbm]; exact m.bnd
theorem MapAt.push {kv : K → Value} {b : Nat} {l : List (K × Value)} {es : Array MapEntry} {clock : Nat} {w w' : World} (m : MapAt kv b l es clock w) {k : K} {v : Value} (hk : ∀ p ∈ l, p.1 ≠ k) (hw : w'.heap[b]? = some (.map (es.push ⟨kv k, v, clock⟩) (clock + 1))) :
    MapAt kv b (l ++ [(k, v)]) (es.push ⟨kv k, v, clock⟩) (clock + 1) w' := by
  refine ⟨hw, ?_, ?_, ?_, ?_⟩
  · rw [Array.toList_push]; exact m.el.push k v _ rfl rfl
  · rw [List.map_append, List.nodup_append]
    refine ⟨m.nd, by simp, fun a ha c hc => ?_⟩
    simp at hc; subst hc
    obtain ⟨p, hp, rfl⟩ := List.mem_map.1 ha
    exact hk p hp
  · rw [Array.toList_push]
    intro e he
    rcases List.mem_append.1 he with h | h
    · have := m.born e h; omega
    · simp at h; subst h; simp
  · rw [Array.toList_push, List.map_append, List.nodup_append]
    refine ⟨m.bnd, by simp, fun a ha c hc => ?_⟩
    simp at hc; subst hc
    obtain ⟨e, he, rfl⟩ := List.mem_map.1 ha
    have := m.born e he
    omega
end
end Go.J

/- J23: what the program does with a map of ours. No program in sight. -/
namespace Go.J
open Go Go.RowKit
set_option linter.unusedSimpArgs false
set_option linter.unusedSectionVars false
section
variable {P : Program} {K : Type} [DecidableEq K] {kv : K → Value} {b : Nat} {l : List (K × Value)} {es : Array MapEntry} {clock : Nat} {w : World} {T E Tk : TypeId} {k : K} {z v : Value}
theorem MapAt.entry (m : MapAt kv b l es clock w) {i : Nat} {u : Value} (h : l[i]? = some (k, u)) : ∃ e, es.toList[i]? = some e ∧ e.key = kv k ∧ e.val = u := by
  have hj := congrArg (·[i]?) m.el
  simp only [List.getElem?_map, h] at hj
  cases he : es.toList[i]? with
  | none => rw [he] at hj; cases hj
  | some e =>
    rw [he] at hj
    simp at hj
    exact ⟨e, rfl, hj.1, hj.2⟩
theorem run_lookup_own (hT : P.underlying T = some (.map Tk E)) (hK : KeyF P Tk kv) (hz : ∀ w, (zeroValue E).run P w = .ok z w) (m : MapAt kv b l es clock w) (c : Bool) :
    (Instr.lookup T (.map (some b)) (kv k) c).run P w = .ok (if c then .tuple #[(lkM l k).getD z, .bool (hasM l k)] else (lkM l k).getD z) w := by
  rcases hK.find k w l es.toList m.el with ⟨i, v, h1, h2⟩ | ⟨h1, h2⟩
  · have h3 := lkM_some m.nd i h2
    have h4 : hasM l k = true := (hasM_iff l k).2 (List.mem_map.2 ⟨(k, v), List.mem_of_getElem? h2, rfl⟩)
    cases c <;> simp [Instr.lookup, run_underlying hT, MapKept.run_getObj_map m.heap, hK.chk, h1, h3, h4]
  · have h3 := lkM_none h2
    have h4 := hasM_none h2
    cases c <;> simp [Instr.lookup, run_underlying hT, MapKept.run_getObj_map m.heap, hK.chk, h1, h3, h4, hz]
theorem keyStays (hK : KeyF P Tk kv) (k : K) (w : World) : (Instr.keyThatStays (kv k) (kv k)).run P w = .ok (kv k) w := by
  simp [Instr.keyThatStays, hK.same k]
theorem run_mapUpdate_own (hT : P.underlying T = some (.map Tk E)) (hK : KeyF P Tk kv) (m : MapAt kv b l es clock w) : ∃ es' clock', (Instr.mapUpdate T (.map (some b)) (kv k) v).run P w = .ok () (w.putObj b (.map es' clock')) ∧ MapAt kv b (putM l k v) es' clock' (w.putObj b (.map es' clock')) := by
  have hlt := (Array.getElem?_eq_some_iff.1 m.heap).1
  have hput : ∀ o : Obj, (setObj b o).run P w = .ok () (w.putObj b o) := fun o => by rw [MapKept.run_setObj_map o m.heap]; rfl
  rcases hK.find k w l es.toList m.el with ⟨i, u, h1, h2⟩ | ⟨h1, h2⟩
  · obtain ⟨e, he, hk, hv⟩ := m.entry h2
    have he' : es[i]? = some e := by simpa using he
    refine ⟨es.modify i fun e => { e with key := kv k, val := v }, clock, ?_, ?_⟩
    · simp [Instr.mapUpdate, run_underlying hT, MapKept.run_getObj_map m.heap, hK.chk, h1, he', hk, keyStays hK, hput]
    · rw [putM_at m.nd i h2]
      exact m.put h2 _ (fun e _ => ⟨rfl, rfl⟩) (fun _ => rfl) (World.putObj_heap_same hlt)
  · refine ⟨es.push ⟨kv k, v, clock⟩, clock + 1, ?_, ?_⟩
    · simp [Instr.mapUpdate, run_underlying hT, MapKept.run_getObj_map m.heap, hK.chk, h1, hput]
    · rw [putM_new h2]
      exact m.push h2 (World.putObj_heap_same hlt)
end
section
variable {P : Program} {Rp : Post} {Kk : List Lay} {N : NN} {l : Fr} {ops : Array Oper} {rest : List Oper} {d : Nat} {dd : Option Nat} {ty : Nat} {pos : String} {af : Array Edge} {g : Option (Nat × Bool)} {x y u : Operand} {T E Tk : TypeId} {c : Code}
variable {w0 : World} {M : List Nat} {A : Nat → Prop} {es : List Ent} {j b : Nat} {K V : Type} [DecidableEq K] {kv : K → Value} {vv : V → Value} {L : List (K × V)} {k : K} {v z : V} {mes : Array MapEntry} {mcl : Nat}
theorem Sat.swapO {w w' : World} {o o' : OW} (h : Sat w0 M A es w) (hk : nth es j = some (.obj o)) (h1 : o.ks = [b]) (h2 : o'.ks = [b]) (hc : Chg [b] w w') (hok : o'.ok w') : Sat w0 M A (setN es j (.obj o')) w' := by
  have hlt : b < w.heap.size := o.lt (h.objAt hk) b (by rw [h1]; exact List.mem_singleton.2 rfl)
  refine h.swap' hk (by show Chg o.ks w w'; rw [h1]; exact hc) hok (by show o'.ks.Nodup; rw [h2]; simp) (fun q hq => ?_) (fun F hF => by cases hF)
  have hq' : q ∈ o'.ks := hq
  rw [h2] at hq'
  rw [List.mem_singleton.1 hq']
  exact ⟨Nat.lt_of_lt_of_le hlt hc.size, .inr (by show b ∈ o.ks; rw [h1]; exact List.mem_singleton.2 rfl)⟩
theorem chg_put {w : World} {o o' : Obj} (_ : w.heap[b]? = some o) : Chg [b] w (w.putObj b o') := ⟨rfl, rfl, rfl, by simp, fun x _ hx => World.putObj_heap_other (fun e => hx (by simp [e])), Nat.le_refl _⟩
theorem r_mkmap (kv : K → Value) (vv : V → Value) (hd : Nat.blt d N.n = true) (h : ∀ b, LJ P Rp ops rest Kk N ((d, .map (some b)) :: l) (Sat w0 M A (.obj (mapO kv b (mpV vv []) #[] 0) :: es))) :
    LJ P Rp ops (⟨some d, .makeMap T none, ty, pos, af, none⟩ :: rest) Kk N l (Sat w0 M A es) := by
  intro a w hf hw
  refine wpList_plain rfl fun K' hK => ?_
  unfold Oper.wp
  have : (execOp a.eval ⟨some d, .makeMap T none, ty, pos, af, none⟩).run P w = .ok (.value (.map (some w.heap.size))) (w.alloc (.map #[] 0)) := by
    simp [execOp, Instr.makeMap]
  rw [this]
  refine hK _ _ (h _ _ _ (hf.put hd _) ?_)
  have hal := hw.allocO (.map #[] 0)
  refine Sat.swapO (b := w.heap.size) (j := 0) hal rfl rfl rfl (Chg.refl _ _) ?_
  exact ⟨Go.heap_alloc_new w _, rfl, by simp [mpV], by simp, by simp⟩
theorem p_lkm (hT : P.underlying T = some (.map Tk E)) (hK : KeyF P Tk kv) (hz : ∀ w, (zeroValue E).run P w = .ok (vv z) w) (hj : FactAt es (MapAt kv b (mpV vv L) mes mcl)) (hx : ev l x = some (.map (some b))) (hy : ev l y = some (kv k)) :
    PureOp P N ⟨dd, .lookup T x y false, ty, pos, af, g⟩ l (Sat w0 M A es) (vv ((lkM L k).getD z)) := fun a w hf hw => by
  have m := hj.get hw
  have h := run_lookup_own (P := P) (k := k) hT hK hz m false
  rw [lkM_map] at h
  have e : (Option.map vv (lkM L k)).getD (vv z) = vv ((lkM L k).getD z) := by cases lkM L k <;> rfl
  simp only [e] at h
  simp [execOp, hf.ev hx, hf.ev hy, h]
theorem p_lko (hT : P.underlying T = some (.map Tk E)) (hK : KeyF P Tk kv) (hz : ∀ w, (zeroValue E).run P w = .ok (vv z) w) (hj : FactAt es (MapAt kv b (mpV vv L) mes mcl)) (hx : ev l x = some (.map (some b))) (hy : ev l y = some (kv k)) :
    PureOp P N ⟨dd, .lookup T x y true, ty, pos, af, g⟩ l (Sat w0 M A es) (.tuple #[vv ((lkM L k).getD z), .bool (hasM L k)]) := fun a w hf hw => by
  have m := hj.get hw
  have h := run_lookup_own (P := P) (k := k) hT hK hz m true
  rw [lkM_map, hasM_map] at h
  have e : (Option.map vv (lkM L k)).getD (vv z) = vv ((lkM L k).getD z) := by cases lkM L k <;> rfl
  simp only [e] at h
  simp [execOp, hf.ev hx, hf.ev hy, h]
theorem r_mpu (hT : P.underlying T = some (.map Tk E)) (hK : KeyF P Tk kv) (hj : nth es j = some (.obj (mapO kv b (mpV vv L) mes mcl))) (hx : ev l x = some (.map (some b))) (hy : ev l y = some (kv k)) (hu : ev l u = some (vv v))
    (h : ∀ es' cl', LJ P Rp ops rest Kk N l (Sat w0 M A (setN es j (.obj (mapO kv b (mpV vv (putM L k v)) es' cl'))))) :
    LJ P Rp ops (⟨none, .mapUpdate T x y u, ty, pos, af, none⟩ :: rest) Kk N l (Sat w0 M A es) := by
  intro a w hf hw
  refine wpList_plain rfl fun K' hKk => ?_
  unfold Oper.wp
  have m : MapAt kv b (mpV vv L) mes mcl w := hw.objAt hj
  obtain ⟨es2, cl2, h1, h2⟩ := run_mapUpdate_own (P := P) (k := k) (v := vv v) hT hK m
  have : (execOp a.eval ⟨none, .mapUpdate T x y u, ty, pos, af, none⟩).run P w = .ok .skip (w.putObj b (.map es2 cl2)) := by
    simp [execOp, hf.ev hx, hf.ev hy, hf.ev hu, h1]
  rw [this]
  rw [putM_map] at h2
  exact hKk _ _ (h es2 cl2 _ _ (hf.put_none undef) (Sat.swapO hw hj rfl rfl (chg_put m.heap) h2))
/-- an entry of a written-out map -/
theorem r_ins (hT : P.underlying T = some (.map Tk E)) (hK : KeyF P Tk kv) (hj : nth es j = some (.obj (mapO kv b (mpV vv L) mes mcl))) (hx : ev l x = some (.map (some b))) (hy : ev l y = some (kv k)) (hu : ev l u = some (vv v))
    (h : ∀ es' cl', LJ P Rp ops rest Kk N l (Sat w0 M A (setN es j (.obj (mapO kv b (mpV vv (putM L k v)) es' cl'))))) :
    LJ P Rp ops (⟨none, .insert T x y u, ty, pos, af, none⟩ :: rest) Kk N l (Sat w0 M A es) := by
  intro a w hf hw
  refine wpList_plain rfl fun K' hKk => ?_
  unfold Oper.wp
  have m : MapAt kv b (mpV vv L) mes mcl w := hw.objAt hj
  obtain ⟨es2, cl2, h1, h2⟩ := run_mapUpdate_own (P := P) (k := k) (v := vv v) hT hK m
  have : (execOp a.eval ⟨none, .insert T x y u, ty, pos, af, none⟩).run P w = .ok .skip (w.putObj b (.map es2 cl2)) := by
    simp [execOp, hf.ev hx, hf.ev hy, hf.ev hu, h1]
  rw [this]
  rw [putM_map] at h2
  exact hKk _ _ (h es2 cl2 _ _ (hf.put_none undef) (Sat.swapO hw hj rfl rfl (chg_put m.heap) h2))
end
end Go.J

/- J24: what may be a map's key. No program in sight. -/
namespace Go.J
open Go Go.RowKit
set_option linter.unusedSimpArgs false
section
variable {P : Program} {T : TypeId}
theorem ba_dec (x y : ByteArray) : (x == y) = decide (x = y) := by
  rw [Bool.eq_iff_iff]; simp [ba_beq]
theorem sb_agg (vs : List Value) (h : ∀ v, v ∈ vs → Instr.sameBits 9999 v v = true) : Instr.sameBits 10000 (.agg vs.toArray) (.agg vs.toArray) = true := by
  simp only [Instr.sameBits, beq_self_eq_true, Bool.true_and, List.all_eq_true]
  rintro ⟨a, b⟩ hab
  have : a = b ∧ a ∈ vs := by
    rw [List.mem_iff_getElem] at hab
    obtain ⟨i, hi, he⟩ := hab
    simp at he
    obtain ⟨rfl, rfl⟩ := he
    exact ⟨rfl, List.getElem_mem _⟩
  obtain ⟨rfl, hv⟩ := this
  exact h a hv
theorem keyF_agg {K : Type} [DecidableEq K] {R : Rep K} {fs : Array Field} (hu : P.underlying T = some (.struct fs)) (hchk : ∀ em k w, (Instr.checkKey em 10000 T (.agg (R.enc k).toArray)).run P w = .ok () w)
    (heq : ∀ x y : K, EqV P 10000 T (.agg (R.enc x).toArray) (.agg (R.enc y).toArray) (decide (x = y))) (hs : ∀ k v, v ∈ R.enc k → Instr.sameBits 9999 v v = true) : KeyF P T (fun k : K => .agg (R.enc k).toArray) where
  chk := hchk
  eq := fun x y w => by
    have h1 := heq x y w
    simp [Op.equal, Op.maxDepth, h1]
  now := ⟨_, hu, .inr fun _ _ => rfl⟩
  same := fun k => sb_agg _ (hs k)
end
theorem FactAt.map {es : List Ent} {K : Type} {kv : K → Value} [DecidableEq K] {b : Nat} {l : List (K × Value)} {mes : Array MapEntry} {mcl : Nat} (j : Nat) (h : nth es j = some (.obj (mapO kv b l mes mcl))) : FactAt es (MapAt kv b l mes mcl) := .obj j h
end Go.J

/- J25: 'for k, v := range m' over a map that stays as it is: any order of its entries. No program in sight. -/
namespace Go.J
open Go Go.RowKit
set_option linter.unusedSimpArgs false
set_option linter.unusedSectionVars false
/-- what comes out whatever the order -/
noncomputable def anyOrd {α β : Type} (L : List α) (f : List α → Option β) : Option β := by
  classical exact if h : ∃ r, ∀ L', L'.Perm L → f L' = some r then some h.choose else none
/-! ### the iterator -/
def bornOf (es : Array MapEntry) (i : Nat) : Nat := ((es[i]?).map (·.born)).getD 0
def itObj (b : Nat) (es : Array MapEntry) (clock : Nat) (idx : List Nat) : Obj := .mapIter (some b) clock (idx.map (bornOf es)).toArray clock
section
variable {P : Program} {K : Type} [DecidableEq K] {kv : K → Value} {b r : Nat} {l : List (K × Value)} {es : Array MapEntry} {clock : Nat} {w : World}
theorem MapAt.bornOf_inj (m : MapAt kv b l es clock w) {i j : Nat} (hi : i < es.size) (hj : j < es.size) (h : bornOf es i = bornOf es j) : i = j := by
  unfold bornOf at h
  rw [Array.getElem?_eq_getElem hi, Array.getElem?_eq_getElem hj] at h
  have h1 : (es.toList.map (·.born))[i]'(by simpa using hi) = (es.toList.map (·.born))[j]'(by simpa using hj) := by simpa using h
  exact (List.getElem_inj m.bnd).1 h1
theorem MapAt.size (m : MapAt kv b l es clock w) : es.size = l.length := by
  have := EL.len m.el
  simpa using this
theorem run_next_own (m : MapAt kv b l es clock w) (_ : r ≠ b) {idx : List Nat} (hit : w.heap[r]? = some (itObj b es clock idx)) (hlt : ∀ i ∈ idx, i < l.length) (ty : Nat) :
    ((∀ i, i < l.length → i ∈ idx) ∧ (Instr.next (.pointer (some ⟨r, 0, none⟩)) false ty).run P w = .ok (.tuple #[.bool false]) w) ∨
    ∃ (i : Nat) (k : K) (v : Value) (w' : World), i ∉ idx ∧ l[i]? = some (k, v) ∧ (w' = w ∨ w' = w.drew) ∧ (Instr.next (.pointer (some ⟨r, 0, none⟩)) false ty).run P w = .ok (.tuple #[.bool true, kv k, v]) (w'.putObj r (itObj b es clock (idx ++ [i]))) := by
  have hget : (getObj r).run P w = .ok (itObj b es clock idx) w := by simp [getObj, Sem.run, hit, itObj]
  have hgm := MapKept.run_getObj_map (P := P) m.heap
  have hsz := m.size
  -- which are left
  have hold : ∀ e, e ∈ es → e.born < clock := fun e he => m.born e (by simpa using he)
  have hcheck : (!(idx.map (bornOf es)).toArray.isEmpty && !es.isEmpty && es.all (·.born ≥ clock)) = false := by
    by_cases h0 : es.isEmpty = true
    · simp [h0]
    · have : es.all (·.born ≥ clock) = false := by
        rw [← Bool.not_eq_true, Array.all_eq_true]
        intro h
        have hpos : 0 < es.size := by
          rcases Nat.eq_zero_or_pos es.size with h1 | h1
          · exact absurd (by simpa using h1) h0
          · exact h1
        have h1 := h 0 hpos
        have h2 := hold es[0] (Array.getElem_mem _)
        simp at h1
        omega
      simp [this]
  have hmem : ∀ i, i < es.size → ((idx.map (bornOf es)).toArray.contains (bornOf es i) = true ↔ i ∈ idx) := fun i hi => by
    simp only [List.contains_toArray, List.contains_eq_mem, decide_eq_true_eq, List.mem_map]
    constructor
    · rintro ⟨j, hj, h⟩
      rw [← m.bornOf_inj (by rw [hsz]; exact hlt j hj) hi h]
      exact hj
    · exact fun h => ⟨i, h, rfl⟩
  generalize hleft : (es.filter fun e => !(idx.map (bornOf es)).toArray.contains e.born) = left
  have hleftold : left.filter (fun e => decide (e.born < clock)) = left := by
    rw [Array.filter_eq_self]
    intro e he
    rw [← hleft] at he
    simp at he
    simpa using hold e he.1
  have hleftnew : left.filter (fun e => decide (e.born ≥ clock)) = #[] := by
    rw [Array.filter_eq_empty_iff]
    intro e he
    rw [← hleft] at he
    simp at he
    have := hold e he.1
    simpa using this
  have hput : ∀ (w1 : World) (o : Obj), w1.heap = w.heap → (setObj r o).run P w1 = .ok () (w1.putObj r o) := fun w1 o h => by
    have : w1.heap[r]? = some (itObj b es clock idx) := by rw [h]; exact hit
    simp [setObj, Sem.run, this, World.putObj, itObj]
  have hbase : (Instr.next (.pointer (some ⟨r, 0, none⟩)) false ty).run P w = ((choose (.mapNext ((if left.isEmpty then #[none] else #[]) ++ left.map some : Array (Option MapEntry)).size)).run P w).andThen fun c w1 =>
      (match ((if left.isEmpty then #[none] else #[]) ++ left.map some : Array (Option MapEntry))[c]? with
      | some (some e) => do setObj r (.mapIter (some b) clock ((idx.map (bornOf es)).toArray.push e.born) clock); pure (.tuple #[.bool true, e.key, e.val])
      | some none => pure (.tuple #[.bool false])
      | none => stuck "Next: no such candidate" : Sem Value).run P w1 := by
    simp only [itObj] at hget
    unfold Instr.next
    simp only [Sem.run_bind, hget, Result.andThen_ok, hgm, hcheck, Bool.false_eq_true, if_false]
    simp only [hleft, hleftold, hleftnew, Array.append_empty]
    rfl
  rw [hbase]
  have hch : ∀ n, 0 < n → ∃ c w1, (choose (.mapNext n)).run P w = .ok c w1 ∧ c < n ∧ (w1 = w ∨ w1 = w.drew) := fun n hn => by
    rw [run_choose_drew]
    by_cases hf : (Question.mapNext n).forced = true
    · exact ⟨0, w, by rw [if_pos hf], hn, .inl rfl⟩
    · exact ⟨w.tape w.drawn (.mapNext n) % n, w.drew, by rw [if_neg hf]; rfl, Nat.mod_lt _ hn, .inr rfl⟩
  by_cases h0 : left.isEmpty = true
  · left
    refine ⟨fun i hi => ?_, ?_⟩
    · have hie : i < es.size := by rw [hsz]; exact hi
      rw [← hmem i hie]
      have hb : bornOf es i = es[i].born := by unfold bornOf; rw [Array.getElem?_eq_getElem hie]; rfl
      have : ¬ es[i] ∈ left := by
        have : left = #[] := by simpa using h0
        rw [this]; simp
      rw [← hleft, Array.mem_filter] at this
      rw [hb]
      have hm : es[i] ∈ es := Array.getElem_mem _
      by_cases hc : (idx.map (bornOf es)).toArray.contains es[i].born = true
      · exact hc
      · exact absurd ⟨hm, by simpa using hc⟩ this
    · have hl : left = #[] := by simpa using h0
      subst hl
      rw [if_pos h0]
      have hf : (Question.mapNext ((#[none] : Array (Option MapEntry)) ++ (#[] : Array MapEntry).map some).size).forced = true := by simp [Question.forced]
      rw [run_choose_drew, if_pos hf]
      simp
  · right
    rw [if_neg h0, Array.empty_append]
    have hpos : 0 < left.size := by
      rcases Nat.eq_zero_or_pos left.size with h1 | h1
      · exact absurd (by simpa using h1) h0
      · exact h1
    obtain ⟨c, w1, h1, h2, h3⟩ := hch (left.map some).size (by simpa using hpos)
    rw [h1]
    have h2' : c < left.size := by simpa using h2
    simp only [Result.andThen_ok]
    have hcand : (left.map some)[c]? = some (some left[c]) := by simp [h2']
    rw [hcand]
    have hinl : ∀ e, e ∈ left → e ∈ es ∧ (!(idx.map (bornOf es)).toArray.contains e.born) = true := by
      rw [← hleft]
      exact fun e he => Array.mem_filter.1 he
    have hin := hinl left[c] (Array.getElem_mem h2')
    obtain ⟨i, hi, he⟩ := Array.mem_iff_getElem.1 hin.1
    have hil : i < l.length := by rw [← hsz]; exact hi
    have hb : bornOf es i = left[c].born := by unfold bornOf; rw [Array.getElem?_eq_getElem hi, he]; rfl
    obtain ⟨e, he1, hk, hv⟩ := m.entry (k := l[i].1) (u := l[i].2) (List.getElem?_eq_getElem hil)
    have hee : e = left[c] := by
      rw [Array.getElem?_toList, Array.getElem?_eq_getElem hi, he] at he1
      exact (Option.some.inj he1).symm
    have hpush : (idx.map (bornOf es)).toArray.push left[c].born = ((idx ++ [i]).map (bornOf es)).toArray := by
      rw [List.map_append, List.map_cons, List.map_nil, hb]
      simp
    refine ⟨i, l[i].1, l[i].2, w1, ?_, List.getElem?_eq_getElem hil, h3, ?_⟩
    · intro hx
      have := (hmem i hi).2 hx
      rw [hb] at this
      rw [this] at hin
      cases hin.2
    · have hw1 : w1.heap = w.heap := by rcases h3 with rfl | rfl <;> rfl
      rw [← hk, ← hv, hee]
      simp only [Sem.run_bind, hput w1 _ hw1, Result.andThen_ok, itObj]
      rw [hpush]
      rfl
end
end Go.J

/- J26: 'for k, v := range m': the rules. No program in sight. -/
namespace Go.J
open Go Go.RowKit
set_option linter.unusedSimpArgs false
set_option linter.unusedSectionVars false
section
variable {P : Program} {K : Type} [DecidableEq K] {kv : K → Value} {b r : Nat} {l : List (K × Value)} {es : Array MapEntry} {clock : Nat} {w : World}
theorem run_entry_own (m : MapAt kv b l es clock w) {idx : List Nat} {i : Nat} {k : K} {v : Value} (hit : w.heap[r]? = some (itObj b es clock (idx ++ [i]))) (hi : l[i]? = some (k, v)) :
    (Instr.entry (.pointer (some ⟨r, 0, none⟩))).run P w = .ok (.tuple #[kv k, v]) w := by
  have hget : (getObj r).run P w = .ok (itObj b es clock (idx ++ [i])) w := by simp [getObj, Sem.run, hit, itObj]
  have hgm := MapKept.run_getObj_map (P := P) m.heap
  obtain ⟨e, he, hk, hv⟩ := m.entry hi
  have he' : es[i]? = some e := by simpa using he
  have hb : bornOf es i = e.born := by unfold bornOf; rw [he']; rfl
  have hfind : es.find? (fun x => x.born == e.born) = some e := by
    rw [Array.find?_eq_some_iff_getElem]
    obtain ⟨hlt, hge⟩ := Array.getElem?_eq_some_iff.1 he'
    refine ⟨by simp, i, hlt, hge, fun j hj => ?_⟩
    have hjs : j < es.size := by omega
    have : es[j].born ≠ e.born := fun h => by
      have h1 : bornOf es j = bornOf es i := by rw [hb]; unfold bornOf; rw [Array.getElem?_eq_getElem hjs]; exact h
      have := m.bornOf_inj hjs hlt h1
      omega
    simpa using this
  have hback : ((idx ++ [i]).map (bornOf es)).toArray.back? = some e.born := by
    rw [List.map_append, List.map_cons, List.map_nil, hb]
    simp
  simp only [itObj] at hget
  unfold Instr.entry
  simp only [Sem.run_bind, hget, Result.andThen_ok, hback, hgm, bne_self_eq_false, Bool.false_eq_true, if_false, hfind]
  rw [← hk, ← hv]; rfl
end
theorem FactAt.cons1 {es : List Ent} {F : World → Prop} {e : Ent} (h : FactAt es F) : FactAt (e :: es) F := by
  induction h with
  | ro j h => exact .ro (j + 1) h
  | row j h => exact .row (j + 1) h
  | box j h => exact .box (j + 1) h
  | obj j h => exact .obj (j + 1) h
  | der _ h ih => exact .der ih h
/-- the entries that were met, in the order in which they were met -/
def met {α : Type} (L : List α) (idx : List Nat) : List α := idx.filterMap (L[·]?)
section
variable {P : Program} {R : Post} {Kk : List Lay} {N : NN} {fr l : Fr} {ops : Array Oper} {rest : List Oper} {d : Nat} {dd : Option Nat} {ty : Nat} {pos : String} {af : Array Edge} {g : Option (Nat × Bool)} {x y u : Operand} {T E Tk : TypeId} {c : Code}
variable {w0 : World} {M : List Nat} {A : Nat → Prop} {es : List Ent} {j k b rb : Nat} {K V : Type} [DecidableEq K] {kv : K → Value} {vv : V → Value} {L : List (K × V)} {v z : V} {mes : Array MapEntry} {mcl : Nat}
/-- 'range m' -/
theorem r_rng (hT : P.underlying T = some (.map Tk E)) (hM : FactAt es (MapAt kv b (mpV vv L) mes mcl)) (hx : ev l x = some (.map (some b))) (hd : Nat.blt d N.n = true)
    (h : ∀ rb, rb ≠ b → LJ P R ops rest Kk N ((d, .pointer (some ⟨rb, 0, none⟩)) :: l) (Sat w0 M A (.obj (oneO rb (itObj b mes mcl [])) :: es))) :
    LJ P R ops (⟨some d, .range T x, ty, pos, af, none⟩ :: rest) Kk N l (Sat w0 M A es) := by
  intro a w hf hw
  refine wpList_plain rfl fun K' hK => ?_
  unfold Oper.wp
  have m := hM.get hw
  have hlt : b < w.heap.size := (Array.getElem?_eq_some_iff.1 m.heap).1
  have : (execOp a.eval ⟨some d, .range T x, ty, pos, af, none⟩).run P w = .ok (.value (.pointer (some ⟨w.heap.size, 0, none⟩))) (w.alloc (itObj b mes mcl [])) := by
    simp [execOp, hf.ev hx, Instr.range, run_underlying hT, MapKept.run_getObj_map m.heap, itObj]
  rw [this]
  exact hK _ _ (h w.heap.size (by omega) _ _ (hf.put hd _) (hw.allocO (itObj b mes mcl [])))
theorem p_ent {idx : List Nat} {i : Nat} {kk : K} (hM : FactAt es (MapAt kv b (mpV vv L) mes mcl)) (hk : nth es k = some (.obj (oneO rb (itObj b mes mcl (idx ++ [i]))))) (hi : L[i]? = some (kk, v)) (hx : ev l x = some (.pointer (some ⟨rb, 0, none⟩))) :
    PureOp P N ⟨dd, .entry x, ty, pos, af, g⟩ l (Sat w0 M A es) (.tuple [kv kk, vv v].toArray) := fun a w hf hw => by
  have m := hM.get hw
  have hit : w.heap[rb]? = some (itObj b mes mcl (idx ++ [i])) := hw.objAt hk
  have hi' : (mpV vv L)[i]? = some (kk, vv v) := by unfold mpV; rw [List.getElem?_map, hi]; rfl
  have h := run_entry_own (P := P) m hit hi'
  simp [execOp, hf.ev hx, h]
theorem r_next {idx : List Nat} (hM : FactAt es (MapAt kv b (mpV vv L) mes mcl)) (hk : nth es k = some (.obj (oneO rb (itObj b mes mcl idx)))) (hrb : rb ≠ b) (hlt : ∀ i ∈ idx, i < L.length) (hx : ev l x = some (.pointer (some ⟨rb, 0, none⟩))) (hd : Nat.blt d N.n = true)
    (h0 : (∀ i, i < L.length → i ∈ idx) → LJ P R ops rest Kk N ((d, .tuple [.bool false].toArray) :: l) (Sat w0 M A es))
    (h1 : ∀ i kk v, i ∉ idx → L[i]? = some (kk, v) → LJ P R ops rest Kk N ((d, .tuple [.bool true, kv kk, vv v].toArray) :: l) (Sat w0 M A (setN es k (.obj (oneO rb (itObj b mes mcl (idx ++ [i]))))))) :
    LJ P R ops (⟨some d, .next x false, ty, pos, af, none⟩ :: rest) Kk N l (Sat w0 M A es) := by
  intro a w hf hw
  refine wpList_plain rfl fun K' hK => ?_
  unfold Oper.wp
  have m := hM.get hw
  have hit : w.heap[rb]? = some (itObj b mes mcl idx) := hw.objAt hk
  have hlen : (mpV vv L).length = L.length := by simp [mpV]
  rcases run_next_own (P := P) m hrb hit (by rw [hlen]; exact hlt) ty with ⟨hall, hrun⟩ | ⟨i, kk, v', w', hni, hli, hww, hrun⟩
  · have : (execOp a.eval ⟨some d, .next x false, ty, pos, af, none⟩).run P w = .ok (.value (.tuple #[.bool false])) w := by
      simp [execOp, hf.ev hx, hrun]
    rw [this]
    exact hK _ _ (h0 (by rw [hlen] at hall; exact hall) _ _ (hf.put hd _) hw)
  · have hli' : ∃ v, L[i]? = some (kk, v) ∧ v' = vv v := by
      unfold mpV at hli
      rw [List.getElem?_map] at hli
      cases hL : L[i]? with
      | none => rw [hL] at hli; cases hli
      | some p =>
        rw [hL] at hli
        simp at hli
        exact ⟨p.2, by rw [← hli.1], hli.2.symm⟩
    obtain ⟨v, hv1, rfl⟩ := hli'
    have : (execOp a.eval ⟨some d, .next x false, ty, pos, af, none⟩).run P w = .ok (.value (.tuple #[.bool true, kv kk, vv v])) (w'.putObj rb (itObj b mes mcl (idx ++ [i]))) := by
      simp [execOp, hf.ev hx, hrun]
    rw [this]
    have hw' : Sat w0 M A es w' := by
      rcases hww with rfl | rfl
      · exact hw
      · exact hw.drew
    exact hK _ _ (h1 i kk v hni hv1 _ _ (hf.put hd _) (hw'.putO hk))
end
end Go.J

/- J27: 'for k := range maps.Keys(m)': whatever the order. No program in sight. -/
namespace Go.J
open Go Go.RowKit
set_option linter.unusedSimpArgs false
set_option linter.unusedSectionVars false
/-- the library's closure -/
def keysCode (TM TK TF TB : Nat) (p q : String) : Code :=
  .seq (.region 0 #[⟨some 4, .load TM (.tmp 1), TM, p, #[], none⟩, ⟨some 5, .range TM (.tmp 4), 0, p, #[⟨0, .data⟩], none⟩] false)
    (.block 0 (.loop (.seq (.region 1 #[⟨some 6, .next (.tmp 5) false, 0, p, #[], none⟩, ⟨some 7, .extract (.tmp 6) 0, TB, p, #[⟨0, .data⟩], none⟩] false)
      (.seq (.cond (.tmp 7) .skip (.exit 0)) (.block 1 (.seq (.region 2 #[⟨some 8, .entry (.tmp 5), 0, p, #[], none⟩, ⟨some 9, .extract (.tmp 8) 0, TK, p, #[⟨0, .data⟩], none⟩, ⟨some 3, .assign (.tmp 9), TK, p, #[⟨1, .data⟩, ⟨0, .phase⟩, ⟨1, .phase⟩], none⟩] false)
        (.seq (.region 3 #[⟨some 10, .move (.tmp 0), TF, q, #[], none⟩, ⟨some 11, .move (.tmp 3), TK, q, #[], none⟩, ⟨some 12, .call { callee := .value (.tmp 10), args := #[.tmp 11], argTypes := #[TK] }, TB, q, #[⟨0, .data⟩, ⟨1, .data⟩], none⟩,
            ⟨some 13, .unOp .not TB (.tmp 12), TB, q, #[⟨2, .data⟩], none⟩] false) (.cond (.tmp 13) .ret .skip))))))))
section
variable {P : Program} {w0 : World} {M : List Nat} {A : Nat → Prop} {K V σ γ ρ β : Type} [DecidableEq K] {kv : K → Value} {vv : V → Value} {L : List (K × V)} {mes : Array MapEntry} {mcl mb : Nat} {fn : Func} {kb bx TM TE TK TF TB by2 : Nat} {p q : String} {zs2 : List Value}
end
end Go.J

/- J28: strings in order: comparing, sorting, compacting; all keys of a map. No program in sight. -/
namespace Go.G
open Go Go.J
set_option linter.unusedSimpArgs false
abbrev Bs := List UInt8
/-- what ends with a permutation -/
noncomputable def KfP {α ρ : Type} (L : List α) (f : Flow (List α) ρ) : Option Unit := by
  classical exact if ∃ L', L'.Perm L ∧ f = .brk L' then some () else none
def appStep {α ρ : Type} (by_ : Nat) (_ : Nat) (x : α) (u : List α) : Option (Flow (List α) ρ) := (appM by_ u [x]).bind fun q => some (.nxt q)
end Go.G

/- J29: room made ahead (slices.Grow of nil): cap of nil, append(nil, make(..)...), the cut of that room. No program in sight. -/
namespace Go.G
open Go Go.J
set_option linter.unusedSimpArgs false
/-- how often a closure may call itself -/
@[irreducible] def FUEL : Nat := 100000
/-- a row that was grown from nil by n: too long fails -/
def growM (by_ : Nat) (n : Int) : Option Unit := if 0 < n ∧ n.toNat * by_ ≤ 140737488355328 ∧ n.toNat ≤ maxLen then some () else none
/-- a block of c elements, whatever they are -/
def spareO (T sz b c : Nat) : OW := {
  ks := [b]
  ok := fun w => c ≤ maxLen ∧ ∃ cur : Array Value, w.heap[b]? = some (.cells cur T (0, 0)) ∧ cur.size = c * sz
  stay := fun h hk => ⟨hk.1, by obtain ⟨cur, h1, h2⟩ := hk.2; exact ⟨cur, (h b (by simp)).trans h1, h2⟩⟩
  lt := fun h k hk => by
    simp at hk
    subst hk
    obtain ⟨cur, h1, -⟩ := h.2
    exact (Array.getElem?_eq_some_iff.1 h1).1 }
section
variable {P : Program} {α : Type} {R : Rep α} {Rp : Post} {K : List Lay} {N : NN} {l : Fr} {ops : Array Oper} {rest : List Oper} {d : Nat} {dd : Option Nat} {ty : Nat} {pos : String} {af : Array Edge} {g : Option (Nat × Bool)} {x y : Operand} {T Ti by_ : Nat} {zs : List Value}
variable {w0 : World} {M : List Nat} {A : Nat → Prop} {es : List Ent} {b c k n : Nat} {m : Int} {u : Unit}
end
end Go.G

/- J30: maps whose values lead to more of ours (rows of things, blocks with maps of their own): the map and all that its values lead to are one object. No program in sight. -/
namespace Go.J
open Go Go.RowKit
set_option linter.unusedSimpArgs false
set_option linter.unusedSectionVars false
section
variable {K X G : Type} [DecidableEq K]
/-! ### the plain side -/
def repM {V : Type} (l : List (K × V)) (k : K) (v : V) : List (K × V) := l.map fun p => if p.1 = k then (k, v) else p
theorem lkM_has {V : Type} (l : List (K × V)) (k : K) : hasM l k = (lkM l k).isSome := by
  unfold hasM lkM
  rw [Option.isSome_map, Bool.eq_iff_iff, List.find?_isSome, List.any_eq_true]
theorem lkM_mem {V : Type} {l : List (K × V)} {k : K} {v : V} (h : lkM l k = some v) : (k, v) ∈ l := by
  unfold lkM at h
  cases hf : l.find? fun p => decide (p.1 = k) with
  | none => rw [hf] at h; cases h
  | some p =>
    rw [hf] at h
    cases h
    have h1 := List.find?_some hf
    have h2 := List.mem_of_find?_eq_some hf
    simp at h1
    rw [← h1]; exact h2
theorem lkM_put_same {V : Type} (l : List (K × V)) (k : K) (v : V) : lkM (putM l k v) k = some v := by
  unfold putM
  by_cases h : hasM l k = true
  · rw [if_pos h]
    induction l with
    | nil => simp [hasM] at h
    | cons p l ih =>
      by_cases e : p.1 = k
      · simp [lkM, List.find?_cons, e]
      · have h' : hasM l k = true := by simpa [hasM, e] using h
        have := ih h'
        unfold lkM at this ⊢
        simp only [List.map_cons, e, if_false, List.find?_cons, decide_eq_false e]
        exact this
  · rw [if_neg h]
    have : lkM l k = none := by rw [lkM_has] at h; simpa using h
    unfold lkM at this ⊢
    rw [Option.map_eq_none_iff] at this
    rw [List.find?_append, this]
    simp
/-! ### what the values lead to -/
def famEs (ents : X → G → List Ent) (xs : List (K × X)) (Z : List (K × G)) (hol : Option K) : List Ent :=
  (xs.zip Z).flatMap fun p => if hol = some p.1.1 then [] else ents p.1.2 p.2.2
def fem (ents : X → G → List Ent) (hol : Option K) (t : K × (X × G)) : List Ent := if hol = some t.1 then [] else ents t.2.1 t.2.2
variable (kv : K → Value) (vv : G → Value) (ents : X → G → List Ent) (b : Nat)
structure FamAt (xs : List (K × X)) (Z : List (K × G)) (hol : Option K) (es : Array MapEntry) (cl : Nat) (w : World) : Prop where
  map : MapAt kv b (mpV vv Z) es cl w
  kys : xs.map Prod.fst = Z.map Prod.fst
  own : ∀ e ∈ famEs ents xs Z hol, e.okx w
def famO (xs : List (K × X)) (Z : List (K × G)) (hol : Option K) (es : Array MapEntry) (cl : Nat) : OW := {
  ks := b :: keys (famEs ents xs Z hol)
  ok := FamAt kv vv ents b xs Z hol es cl
  stay := fun {w w'} h m => ⟨(mapO kv b (mpV vv Z) es cl).stay (fun k hk => h k (by rw [List.mem_singleton.1 hk]; exact List.mem_cons_self ..)) m.map, m.kys,
    fun e he => Ent.okx_of_block (m.own e he) fun k hk => h k (List.mem_cons_of_mem _ (mem_keys.2 ⟨e, he, hk⟩))⟩
  lt := fun {w} m k hk => by
    rcases List.mem_cons.1 hk with rfl | hk
    · exact (Array.getElem?_eq_some_iff.1 m.map.heap).1
    · obtain ⟨e, he, hek⟩ := mem_keys.1 hk
      exact Ent.okx_lt (m.own e he) hek }
variable {kv vv ents b}
theorem FamAt.ndZ {xs : List (K × X)} {Z : List (K × G)} {hol : Option K} {es : Array MapEntry} {cl : Nat} {w : World} (m : FamAt kv vv ents b xs Z hol es cl w) : (Z.map Prod.fst).Nodup := by
  have := m.map.nd
  rwa [show (mpV vv Z).map Prod.fst = Z.map Prod.fst by unfold mpV; rw [List.map_map]; rfl] at this
theorem FamAt.has {xs : List (K × X)} {Z : List (K × G)} {hol : Option K} {es : Array MapEntry} {cl : Nat} {w : World} (m : FamAt kv vv ents b xs Z hol es cl w) (k : K) : hasM Z k = hasM xs k := by
  rw [Bool.eq_iff_iff, hasM_iff, hasM_iff, m.kys]
theorem FamAt.len {xs : List (K × X)} {Z : List (K × G)} {hol : Option K} {es : Array MapEntry} {cl : Nat} {w : World} (m : FamAt kv vv ents b xs Z hol es cl w) : Z.length = xs.length := by
  have := congrArg List.length m.kys
  simpa using this.symm
theorem FamAt.lk {xs : List (K × X)} {Z : List (K × G)} {hol : Option K} {es : Array MapEntry} {cl : Nat} {w : World} (m : FamAt kv vv ents b xs Z hol es cl w) (k : K) :
    (lkM xs k = none ∧ lkM Z k = none) ∨ ∃ x g, lkM xs k = some x ∧ lkM Z k = some g := by
  have h := m.has k
  rw [lkM_has, lkM_has] at h
  cases h1 : lkM xs k with
  | none => rw [h1] at h; left; exact ⟨rfl, by simpa using h⟩
  | some x =>
    rw [h1] at h
    cases h2 : lkM Z k with
    | none => rw [h2] at h; cases h
    | some g => exact .inr ⟨x, g, rfl, rfl⟩
theorem putM_nodup {V : Type} {l : List (K × V)} (h : (l.map Prod.fst).Nodup) (k : K) (v : V) : ((putM l k v).map Prod.fst).Nodup := by
  rw [putM_keys]
  split
  · exact h
  · rename_i hh
    rw [List.nodup_append]
    refine ⟨h, by simp, fun a ha c hc => ?_⟩
    simp at hc; subst hc
    exact fun e => hh ((hasM_iff l _).2 (e ▸ ha))
end
/-! ### the lists of what is ours, grouped anew -/
section
variable {w0 w w' : World} {M : List Nat} {A : Nat → Prop} {es es' rs : List Ent}
theorem Sat.regroup (h : Sat w0 M A es w) (hk : (keys es').Nodup) (hsub : ∀ k ∈ keys es', k ∈ keys es) (hok : ∀ e ∈ es', e.okx w) (hro : ∀ F, Ent.ro F ∈ es' → Ent.ro F ∈ es) : Sat w0 M A es' w :=
  ⟨h.chg, h.dis, hk, fun k hk' => h.fresh k (hsub k hk'), hok, fun e he => by
    cases e with
    | ro F => exact okr_congr (h.okr _ (hro F he)) fun _ hb => hsub _ hb
    | box b T cs => trivial
    | row R v xs => trivial
    | obj o => trivial⟩
/-- the entries 'a' in front become the entries 'a'' with (some of) the same blocks -/
theorem Sat.front {a a' : List Ent} (h : Sat w0 M A (a ++ rs) w) (hp : ∃ r, (keys a).Perm (keys a' ++ r)) (hok : ∀ e ∈ a', e.okx w) (hro : ∀ F, Ent.ro F ∉ a') : Sat w0 M A (a' ++ rs) w := by
  obtain ⟨r, hp⟩ := hp
  have hn := h.nodup
  rw [keys_append] at hn
  have hp2 : (keys a ++ keys rs).Perm (r ++ (keys a' ++ keys rs)) := by
    refine (hp.append_right _).trans ?_
    rw [← List.append_assoc]
    exact List.Perm.append_right _ List.perm_append_comm
  have hn2 := hp2.nodup_iff.1 hn
  rw [List.nodup_append] at hn2
  refine h.regroup (by rw [keys_append]; exact hn2.2.1) (fun k hk => ?_) (fun e he => ?_) (fun F hF => ?_)
  · rw [keys_append] at hk ⊢
    exact hp2.symm.subset (List.mem_append_right _ hk)
  · rcases List.mem_append.1 he with q | q
    · exact hok e q
    · exact h.okx e (List.mem_append_right _ q)
  · rcases List.mem_append.1 hF with q | q
    · exact absurd q (hro F)
    · exact List.mem_append_right _ q
end
section
variable {w0 w w' : World} {M : List Nat} {A : Nat → Prop} {es es' rs : List Ent} {K X G : Type} [DecidableEq K] {kv : K → Value} {vv : G → Value} {ents : X → G → List Ent} {b : Nat} {xs : List (K × X)} {Z : List (K × G)} {hol : Option K} {mes : Array MapEntry} {mcl : Nat} {k : K} {x : X} {g : G}
/-- what is to be put in, and what the map leads to beside it, as one object -/
def famP (kv : K → Value) (vv : G → Value) (ents : X → G → List Ent) (b : Nat) (Z : List (K × G)) (xs' : List (K × X)) (Z' : List (K × G)) (es : Array MapEntry) (cl : Nat) : OW := {
  ks := b :: keys (famEs ents xs' Z' none)
  ok := fun w => MapAt kv b (mpV vv Z) es cl w ∧ ∀ e ∈ famEs ents xs' Z' none, e.okx w
  stay := fun {w w'} h m => ⟨(mapO kv b (mpV vv Z) es cl).stay (fun k hk => h k (by rw [List.mem_singleton.1 hk]; exact List.mem_cons_self ..)) m.1,
    fun e he => Ent.okx_of_block (m.2 e he) fun k hk => h k (List.mem_cons_of_mem _ (mem_keys.2 ⟨e, he, hk⟩))⟩
  lt := fun {w} m k hk => by
    rcases List.mem_cons.1 hk with rfl | hk
    · exact (Array.getElem?_eq_some_iff.1 m.1.heap).1
    · obtain ⟨e, he, hek⟩ := mem_keys.1 hk
      exact Ent.okx_lt (m.2 e he) hek }
end
end Go.J

/- J31: what the program does with a map whose values lead to more of ours: the rules. No program in sight. -/
namespace Go.J
open Go Go.RowKit
set_option linter.unusedSimpArgs false
set_option linter.unusedSectionVars false
/-! ### rows as values -/
def rowE {α : Type} (R : Rep α) (xs : List α) (s : SV) : List Ent := [.row R s.v xs]
section
variable {P : Program} {Rp : Post} {Kk : List Lay} {N : NN} {l fr : Fr} {ops : Array Oper} {rest : List Oper} {d : Nat} {dd : Option Nat} {ty : Nat} {pos : String} {af : Array Edge} {g0 : Option (Nat × Bool)} {x y u : Operand} {T E Tk : TypeId} {c : Code}
variable {w0 : World} {M : List Nat} {A : Nat → Prop} {es rs : List Ent} {j b rb : Nat} {K X G : Type} [DecidableEq K] {kv : K → Value} {vv : G → Value} {ents : X → G → List Ent} {xs : List (K × X)} {Z : List (K × G)} {hol : Option K} {k : K} {z : G} {mes : Array MapEntry} {mcl : Nat}
theorem LJ.sat {H H' : World → Prop} (hs : ∀ w, H w → H' w) (h : LJ P Rp ops rest Kk N l H') : LJ P Rp ops rest Kk N l H := fun a w hf hw => h a w hf (hs w hw)
theorem CJ.sat {H H' : World → Prop} (hs : ∀ w, H w → H' w) (h : CJ P Rp c Kk N l H') : CJ P Rp c Kk N l H := fun a w hf hw => h a w hf (hs w hw)
theorem NJ.sat {H H' : World → Prop} (hs : ∀ w, H w → H' w) (h : NJ P Rp Kk N l H') : NJ P Rp Kk N l H := fun a w hf hw => h a w hf (hs w hw)
theorem Sat.pick {w : World} (h : Sat w0 M A es w) (ks : List Nat) {ys r : List Ent} (hp : J.picks ks es = some (ys, r)) : Sat w0 M A (ys ++ r) w := h.perm (picks_perm hp)
end
/-! ### rows: read, taken out, given back -/
section
variable {w0 w : World} {M : List Nat} {A : Nat → Prop} {es rs : List Ent} {b : Nat} {K α : Type} [DecidableEq K] {kv : K → Value} {R : Rep α} {xs : List (K × List α)} {Z : List (K × SV)} {hol : Option K} {k : K} {mes : Array MapEntry} {mcl : Nat} {ys : List α}
theorem FamAt.row (m : FamAt kv SV.v (rowE R) b xs Z hol mes mcl w) (hh : hol ≠ some k) : w.ownsRow 0 R.T R.sz (SV.v ((lkM Z k).getD nilS)) ((lkM xs k).getD []).length (R.cells ((lkM xs k).getD [])) := by
  rcases m.lk k with ⟨h1, h2⟩ | ⟨y, g, h1, h2⟩
  · rw [h1, h2]; exact World.ownsRow_nil w 0 R.T R.sz
  · rw [h1, h2]
    refine m.own (.row R g.v y) ?_
    unfold famEs
    have hi := lkM_mem h1
    obtain ⟨i, hil, hie⟩ := List.getElem_of_mem hi
    have hzl : i < Z.length := by rw [m.len]; exact hil
    have hk : Z[i].1 = k := by
      have e1 : (xs.map Prod.fst)[i]'(by simpa using hil) = (Z.map Prod.fst)[i]'(by simpa using hzl) := by simp only [m.kys]
      simp only [List.getElem_map] at e1
      rw [← e1, hie]
    have hz : Z[i].2 = g := by
      have e2 : Z[i]? = some (k, Z[i].2) := by rw [List.getElem?_eq_getElem hzl, ← hk]
      have := lkM_some m.ndZ i e2
      rw [h2] at this
      exact (Option.some.inj this).symm
    refine List.mem_flatMap.2 ⟨(xs[i], Z[i]), List.mem_iff_getElem.2 ⟨i, by rw [List.length_zip]; omega, by rw [List.getElem_zip]⟩, ?_⟩
    rw [hie]
    simp only
    rw [if_neg hh, hz]
    exact List.mem_singleton.2 rfl
theorem FamAt.look (m : FamAt kv SV.v (rowE R) b xs Z none mes mcl w) (k : K) : RdS R (SV.v ((lkM Z k).getD nilS)) ((lkM xs k).getD []) w := RdS.of_row (m.row (by simp))
end
end Go.J

/- J32: 'for k, v := range m' over a map whose values lead to more of ours; the body may put values at keys that are there. No program in sight. -/
namespace Go.J
open Go Go.RowKit
set_option linter.unusedSimpArgs false
set_option linter.unusedSectionVars false
/-- the keys are the same, and so are the births -/
def KeptK {K G : Type} (ks : List K) (mes0 : Array MapEntry) (mcl0 : Nat) (Z : List (K × G)) (mes : Array MapEntry) (mcl : Nat) : Prop :=
  Z.map Prod.fst = ks ∧ mcl = mcl0 ∧ mes.toList.map (·.born) = mes0.toList.map (·.born)
section
variable {P : Program} {K : Type} [DecidableEq K] {kv : K → Value} {b : Nat} {l : List (K × Value)} {es : Array MapEntry} {clock : Nat} {w : World} {T E Tk : TypeId} {k : K} {v : Value}
end
section
variable {P : Program} {R : Post} {Kk : List Lay} {N : NN} {l fr : Fr} {ops : Array Oper} {rest : List Oper} {d : Nat} {dd : Option Nat} {ty : Nat} {pos : String} {af : Array Edge} {g0 : Option (Nat × Bool)} {x y u : Operand} {T E Tk : TypeId} {c : Code}
variable {w0 : World} {M : List Nat} {A : Nat → Prop} {es rs : List Ent} {j n b rb : Nat} {K X G : Type} [DecidableEq K] {kv : K → Value} {vv : G → Value} {ents : X → G → List Ent} {xs : List (K × X)} {Z : List (K × G)} {hol : Option K} {k : K} {z : G} {mes mes0 : Array MapEntry} {mcl mcl0 : Nat} {ks : List K}
theorem KeptK.has (h : KeptK ks mes0 mcl0 Z mes mcl) {i : Nat} (hi : ks[i]? = some k) : hasM Z k = true := by
  rw [hasM_iff, h.1]; exact List.mem_of_getElem? hi
theorem KeptK.refl (xs : List (K × X)) (h : xs.map Prod.fst = Z.map Prod.fst) : KeptK (xs.map Prod.fst) mes mcl Z mes mcl := ⟨h.symm, rfl, rfl⟩
end
end Go.J

/- J33: results that may be nil; pointers against nil; delete. No program in sight. -/
namespace Go.J
open Go Go.RowKit
set_option linter.unusedSimpArgs false
set_option linter.unusedSectionVars false
/-- what a pointer that may be nil leads to -/
def optE {α : Type} (o : Option α) (f : α → List Ent) : List Ent := match o with | none => [] | some t => f t
def optV {α : Type} (o : Option α) (v : Value) : Value := match o with | none => .pointer none | some _ => v
def optB {α β : Type} (o : Option α) (x : Option β) (f : α → Option β) : Option β := match o with | none => x | some t => f t
section
variable {P : Program} {Rp : Post} {Kk : List Lay} {N : NN} {l : Fr} {ops : Array Oper} {rest : List Oper} {d : Nat} {dd : Option Nat} {ty : Nat} {pos : String} {af : Array Edge} {g : Option (Nat × Bool)} {x y u : Operand} {T T' Te E Tk : TypeId} {H : World → Prop}
end
section
variable {P : Program} {K : Type} [DecidableEq K] {kv : K → Value} {b : Nat} {l : List (K × Value)} {es : Array MapEntry} {clock : Nat} {w : World} {T E Tk : TypeId} {k : K} {v : Value}
end
section
variable {P : Program} {Rp : Post} {Kk : List Lay} {N : NN} {l : Fr} {ops : Array Oper} {rest : List Oper} {d : Nat} {dd : Option Nat} {ty : Nat} {pos : String} {af : Array Edge} {x y : Operand} {T T' E Tk : TypeId}
variable {w0 : World} {M : List Nat} {A : Nat → Prop} {es : List Ent} {j b : Nat} {K V : Type} [DecidableEq K] {kv : K → Value} {vv : V → Value} {L : List (K × V)} {k : K} {mes : Array MapEntry} {mcl : Nat}
end
end Go.J

/- J34: cuts whose room ends where they end. No program in sight. -/
namespace Go.J
open Go Go.RowKit
section
variable {P : Program} {N : NN} {l : Fr} {dd : Option Nat} {ty : Nat} {pos : String} {af : Array Edge} {g : Option (Nat × Bool)} {x oh om : Operand} {T : TypeId}
variable {w0 : World} {M : List Nat} {A : Nat → Prop} {es : List Ent} {α : Type} {R : Rep α} {s : SV} {xs qs : List α} {lo hi : Int} {by_ : Nat} {zs : List Value}
end
end Go.J

/- J35: maps whose values are pointers to blocks of ours. No program in sight. -/
namespace Go.J
open Go Go.RowKit
set_option linter.unusedSimpArgs false
set_option linter.unusedSectionVars false
/-- what cannot be -/
def badO : OW := ⟨[], fun _ => False, fun _ h => h, fun h => h.elim⟩
def vvP {Q : Type} (h : Q → Nat) (g : Option Q) : Value := match g with | none => .pointer none | some q => .pointer (some ⟨h q, 0, none⟩)
def entsP {X Q : Type} (f : X → Q → List Ent) (x : X) (g : Option Q) : List Ent := match g with | none => [.obj badO] | some q => f x q
section
variable {K X G : Type} [DecidableEq K] {kv : K → Value} {vv : G → Value} {ents : X → G → List Ent} {b : Nat} {xs : List (K × X)} {Z : List (K × G)} {hol : Option K} {mes : Array MapEntry} {mcl : Nat} {k : K} {x : X} {g g' : G}
variable {w0 w : World} {M : List Nat} {A : Nat → Prop} {es rs : List Ent}
end
section
variable {K X Q : Type} [DecidableEq K] {kv : K → Value} {h : Q → Nat} {f : X → Q → List Ent} {b : Nat} {xs : List (K × X)} {Z : List (K × Option Q)} {hol : Option K} {mes : Array MapEntry} {mcl : Nat} {k : K} {t : X} {q q' : Q}
variable {P : Program} {Rp : Post} {Kk : List Lay} {N : NN} {l : Fr} {ops : Array Oper} {rest : List Oper} {d : Nat} {dd : Option Nat} {ty : Nat} {pos : String} {af : Array Edge} {g0 : Option (Nat × Bool)} {x y u : Operand} {T E Tk : TypeId} {c : Code}
variable {w0 : World} {M : List Nat} {A : Nat → Prop} {es rs : List Ent} {j : Nat}
end
end Go.J

/- J36: rows in what a pointer of a map leads to, read while the map is whole. No program in sight. -/
namespace Go.J
open Go Go.RowKit
section
variable {K X Q : Type} [DecidableEq K] {kv : K → Value} {h : Q → Nat} {f : X → Q → List Ent} {b : Nat} {xs : List (K × X)} {Z : List (K × Option Q)} {mes : Array MapEntry} {mcl : Nat} {k : K} {t : X} {q : Q}
end
end Go.J

/- J37: a new row that the library made; keys that are bools. No program in sight. -/
namespace Go.J
open Go Go.RowKit
set_option linter.unusedSimpArgs false
theorem Sat.newRowC {w0 w : World} {M : List Nat} {A : Nat → Prop} {es : List Ent} {α : Type} (R : Rep α) (h : Sat w0 M A es w) (xs : List α) (cap : Nat) {cs : List Value} (hcs : cs.take (xs.length * R.sz) = R.cells xs) (hcl : cs.length = cap * R.sz) (hle : xs.length ≤ cap) (hl : cap ≤ maxLen) :
    Sat w0 M A (.row R (SV.v ⟨some ⟨w.heap.size, 0, none⟩, xs.length, cap⟩) xs :: es) (w.alloc (.cells cs.toArray R.T)) := by
  have h1 := h.alloc R.T cs
  refine Sat.cast1 (fs := [.box w.heap.size R.T cs]) (e := .row R (SV.v ⟨some ⟨w.heap.size, 0, none⟩, xs.length, cap⟩) xs) h1 (by simp [keys, Ent.kl, SV.v, Value.ownBlock]) ?_ (fun F hF => by cases hF)
  have hb := h1.box (k := 0) rfl
  exact ⟨R.cells_len xs, .inr ⟨w.heap.size, cap, _, rfl, Nat.zero_le _, hb, hle, hl, by rw [List.size_toArray, hcl], hcs⟩⟩
theorem Sat.newRow {w0 w : World} {M : List Nat} {A : Nat → Prop} {es : List Ent} {α : Type} (R : Rep α) (h : Sat w0 M A es w) (xs : List α) {cs : List Value} (hcs : R.cells xs = cs) (hl : xs.length ≤ maxLen) :
    Sat w0 M A (.row R (SV.v ⟨some ⟨w.heap.size, 0, none⟩, xs.length, xs.length⟩) xs :: es) (w.alloc (.cells cs.toArray R.T)) := by
  subst hcs
  exact h.newRowC R xs xs.length (by rw [← R.cells_len xs]; exact List.take_length) (R.cells_len xs) (Nat.le_refl _) hl
end Go.J

/- J38: a row that make lays, of zeros; bits set and taken away. No program in sight. -/
namespace Go.G
open Go Go.J
set_option linter.unusedSimpArgs false
/-- make's model: n times zero; too long fails -/
def makeM {α : Type} (by_ : Nat) (z : α) (n : Int) : Option (List α) := if 0 ≤ n ∧ n.toNat * by_ ≤ 140737488355328 ∧ n.toNat ≤ maxLen then some (List.replicate n.toNat z) else none
/-- of all orders of a list one, the same for all of them -/
def permS (α : Type) : Setoid (List α) := ⟨List.Perm, .refl, .symm, .trans⟩
noncomputable def canonQ {α : Type} (q : Quotient (permS α)) : List α := Classical.choose (Quotient.exists_rep q)
noncomputable def canonM {α : Type} (l : List α) : List α := canonQ (Quotient.mk (permS α) l)
def orI (x y : Int) : Int := w64 ((BitVec.ofInt 64 x ||| BitVec.ofInt 64 y).toNat)
def andNotI (x y : Int) : Int := w64 ((BitVec.ofInt 64 x &&& ~~~BitVec.ofInt 64 y).toNat)
section
variable {P : Program} {N : NN} {l : Fr} {H : World → Prop} {d : Option Nat} {ty : Nat} {pos : String} {af : Array Edge} {g : Option (Nat × Bool)} {x y : Operand} {m n r : Int} {T T' : TypeId} {kk : IntKind}
end
section
variable {P : Program} {α : Type} {R : Rep α} {Rp : Post} {K : List Lay} {N : NN} {l : Fr} {ops : Array Oper} {rest : List Oper} {d : Nat} {ty : Nat} {pos : String} {af : Array Edge} {x y : Operand} {T by_ : Nat} {zs : List Value}
variable {w0 : World} {M : List Nat} {A : Nat → Prop} {es : List Ent} {m : Int} {q : List α} {z : α}
/-- a row that may be nil, and whether it is -/
def nrowO (R : Rep α) (s : SV) (o : Option (List α)) : OW := {
  ks := s.v.ownBlock.toList
  ok := fun w => (Ent.row R s.v (o.getD [])).okx w ∧ s.a.isNone = o.isNone
  stay := fun h hk => ⟨Ent.okx_of_block hk.1 (fun k hm => h k hm), hk.2⟩
  lt := fun h k hk => (World.ownsRow.lt h.1 k (by simpa using hk)).2 }
end
end Go.G

/- J40: rows of ours that begin behind their block's first cell (queues); rows of ours that stand in a slice of ours. No program in sight. -/
namespace Go.J
open Go Go.RowKit
set_option linter.unusedSimpArgs false
set_option linter.unusedSectionVars false
section
variable {w0 w : World} {M : List Nat} {A : Nat → Prop} {es rest : List Ent}
end
/-! ### queues -/
section
variable {P : Program} {α : Type} {R : Rep α} {w0 w : World} {M : List Nat} {A : Nat → Prop} {es rest : List Ent}
def QOk (R : Rep α) (s : SV) (q : List α) (w : World) : Prop :=
  (s = ⟨none, 0, 0⟩ ∧ q = []) ∨ ∃ g off cur, s.a = some ⟨g, off, none⟩ ∧ w.heap[g]? = some (.cells cur R.T (0, 0)) ∧ s.n = q.length ∧ q.length ≤ s.c ∧ s.c ≤ maxLen ∧ off + s.c * R.sz ≤ cur.size ∧ (cur.toList.drop off).take (q.length * R.sz) = R.cells q
def queO (R : Rep α) (s : SV) (q : List α) : OW := {
  ks := s.v.ownBlock.toList
  ok := QOk R s q
  stay := by
    intro w w' h hk
    rcases hk with hk | ⟨g, off, cur, h1, h2, h3⟩
    · exact .inl hk
    · exact .inr ⟨g, off, cur, h1, (h g (by simp [SV.v, h1, Value.ownBlock])).trans h2, h3⟩
  lt := by
    intro w hk k hm
    rcases hk with ⟨h1, _⟩ | ⟨g, off, cur, h1, h2, _⟩
    · subst h1; simp [SV.v, Value.ownBlock] at hm
    · have : k = g := by simpa [SV.v, h1, Value.ownBlock] using hm
      subst this
      exact (Array.getElem?_eq_some_iff.1 h2).1 }
theorem QOk.rds {s : SV} {q : List α} (h : QOk R s q w) : RdS R s.v q w := by
  rcases h with ⟨rfl, rfl⟩ | ⟨g, off, cur, h1, h2, h3, h4, h5, h6, h7⟩
  · exact ⟨by simp [maxLen], .inl ⟨rfl, none, 0, rfl, by simp [maxLen]⟩⟩
  · refine ⟨Nat.le_trans h4 h5, .inr ⟨g, off, s.c, by simp [SV.v, h1, h3], h4, h5, fun j u hu => ?_⟩⟩
    rw [← h7] at hu
    rw [List.getElem?_take] at hu
    split at hu
    · rw [List.getElem?_drop] at hu
      rw [cell_of_row w g (off + j) _ _ _ h2]
      simpa using hu
    · cases hu
theorem QOk.of_row {s : SV} {q : List α} (h : w.ownsRow 0 R.T R.sz s.v q.length (R.cells q)) : QOk R s q w := by
  rcases h.2 with ⟨h1, h2⟩ | ⟨g, cap, cur, h1, _, h2, h3, h4, h5, h6⟩
  · injection h1 with e1 e2 e3
    exact .inl ⟨by cases s; simp_all, List.eq_nil_of_length_eq_zero h2⟩
  · injection h1 with e1 e2 e3
    subst e3
    exact .inr ⟨g, 0, cur, e1, h2, e2, h3, h4, by omega, by simpa using h6⟩
theorem Sat.toQ {s : SV} {q : List α} (h : Sat w0 M A (.row R s.v q :: es) w) : Sat w0 M A (.obj (queO R s q) :: es) w :=
  Sat.cast1 (fs := [.row R s.v q]) h (by simp [keys, Ent.kl, queO]) (QOk.of_row (h.row (k := 0) rfl)) (fun F hF => by cases hF)
theorem QOk.cut {s : SV} {q qs : List α} {lo hi : Int} (h : QOk R s q w) (hq : sliceI q lo hi = some qs) (hh : hi = q.length) : QOk R (s.sub R.sz lo.toNat hi.toNat) qs w := by
  obtain ⟨a, b, rfl, rfl, hab, hb, rfl⟩ := sliceI_spec hq
  have hbq : b = q.length := by omega
  subst hbq
  simp only [Int.toNat_natCast]
  have hlen : ((q.drop a).take (q.length - a)).length = q.length - a := by simp
  rcases h with ⟨rfl, rfl⟩ | ⟨g, off, cur, h1, h2, h3, h4, h5, h6, h7⟩
  · have : a = 0 := by simpa using hab
    subst this
    exact .inl ⟨rfl, rfl⟩
  · by_cases hc : s.c = a
    · have hqa : q.length = a := by omega
      refine .inr ⟨g, off, cur, by simp [SV.sub, hc, h1], h2, by simp [SV.sub, hqa], by simp [SV.sub, hqa], by simp [SV.sub, hc, maxLen], by simp [SV.sub, hc]; omega, ?_⟩
      rw [hlen, hqa]
      simp [Rep.cells]
    · have hmul : a * R.sz + (s.c - a) * R.sz = s.c * R.sz := by rw [← Nat.add_mul]; congr 1; omega
      refine .inr ⟨g, off + a * R.sz, cur, by simp [SV.sub, hc, h1, add_at], h2, by rw [hlen]; simp [SV.sub], by rw [hlen]; simp [SV.sub]; omega, by simp [SV.sub]; omega, by simp only [SV.sub]; omega, ?_⟩
      rw [hlen]
      have e1 : R.cells q = R.cells (q.take a) ++ R.cells (q.drop a) := by rw [← R.cells_append, List.take_append_drop]
      have e2 : (R.cells (q.take a)).length = a * R.sz := by rw [R.cells_len, List.length_take, Nat.min_eq_left (by omega)]
      have e3 : (q.drop a).take (q.length - a) = q.drop a := List.take_of_length_le (by simp)
      rw [e3, ← List.drop_drop]
      have h8 := congrArg (List.drop (a * R.sz)) h7
      rw [e1, ← e2, List.drop_left, e2, List.drop_take, ← Nat.sub_mul] at h8
      exact h8
theorem Sat.qcut {s : SV} {q qs : List α} {lo hi : Int} (h : Sat w0 M A es w) (k : Nat) (hk : nth es k = some (.obj (queO R s q))) (hq : sliceI q lo hi = some qs) (hh : hi = q.length) :
    Sat w0 M A (setN es k (.obj (queO R (s.sub R.sz lo.toNat hi.toNat) qs))) w := by
  have hok : QOk R s q w := h.objAt hk
  have hb : (s.sub R.sz lo.toNat hi.toNat).v.ownBlock = s.v.ownBlock := by
    unfold SV.sub SV.v
    cases ha : s.a with
    | none => simp [Value.ownBlock]
    | some ad => by_cases hc : s.c = lo.toNat <;> simp [hc, Value.ownBlock, Addr.add] <;> split <;> rfl
  refine h.swap' hk (Chg.refl _ _) (hok.cut hq hh) ?_ (fun b hb' => ?_) (fun F hF => by cases hF)
  · show ((s.sub R.sz lo.toNat hi.toNat).v.ownBlock.toList).Nodup
    cases (s.sub R.sz lo.toNat hi.toNat).v.ownBlock <;> simp
  · have hb2 : b ∈ s.v.ownBlock.toList := by rw [← hb]; exact hb'
    exact ⟨(queO R s q).lt hok b hb2, .inr hb2⟩
/-- append to a queue, whatever the tape says of capacities -/
theorem run_appQ {T ty : TypeId} {ag : Bool} {by_ : Nat} {zs : List Value} (hT : P.underlying T = some (.slice R.T)) (hE : TyF P R.T ag R.sz by_ zs) (hzs : zs.length = R.sz)
    {s t : SV} {xs ys : List α} (hown : QOk R s xs w) (hsrc : RdS R t.v ys w) (hb : (xs.length + ys.length) * by_ ≤ 140737488355328) (hb2 : xs.length + ys.length ≤ maxLen) :
    ∃ (s' : SV) (w' : World), (Builtin.append_ #[T, T] ty #[s.v, t.v]).run P w = .ok s'.v w' ∧ QOk R s' (xs ++ ys) w' ∧ Chg s.v.ownBlock.toList w w' ∧ (∀ b, s'.v.ownBlock = some b → b < w'.heap.size ∧ (w.heap.size ≤ b ∨ s.v.ownBlock = some b)) := by
  obtain ⟨i, z, hi, hz, hzc, hsz, hby⟩ := hE.info
  have hlen : (R.cells (xs ++ ys)).length = (xs ++ ys).length * R.sz := R.cells_len _
  have hml : xs.length + ys.length ≤ 9223372036854775807 := by simpa [maxLen] using hb2
  have hzs' : z.cells.size = R.sz := by rw [hzc]; simpa using hzs
  rcases hown with ⟨rfl, rfl⟩ | ⟨g, off, cur, h1, h2, h3, h4, h5, h6, h7⟩
  · obtain ⟨s', w', hr, ho, hc, hk, -⟩ := run_app (P := P) (ty := ty) hT hE hzs (World.ownsRow_nil w 0 R.T R.sz) hsrc hb hb2
    exact ⟨s', w', hr, QOk.of_row ho, hc, fun b hb => ⟨(World.ownsRow.lt ho b hb).2, hk b hb⟩⟩
  · have hbk : s.v.ownBlock = some g := by simp [SV.v, h1, Value.ownBlock]
    have hlt : g < w.heap.size := (Array.getElem?_eq_some_iff.1 h2).1
    have hsv : s.v = .slice (some ⟨g, off, none⟩) xs.length s.c := by simp [SV.v, h1, h3]
    rcases hsrc.2 with ⟨h8, x0, cap0, h9, _⟩ | ⟨b, o2, cap, h8, h9, h10, h11⟩
    · subst h8
      refine ⟨s, w, ?_, by rw [List.append_nil]; exact .inr ⟨g, off, cur, h1, h2, h3, h4, h5, h6, h7⟩, Chg.refl _ _, fun b hb => ?_⟩
      · rw [h9, hsv]
        cases x0 <;> simp [Builtin.append_, run_underlying hT, sizeOf, typeInfo, hi, Builtin.lenOf, h4, Builtin.firstCells, storeCells, loadCells, loadCellsFrom]
      · rw [hbk] at hb; cases hb; exact ⟨hlt, .inr hbk⟩
    · rw [h8, hsv]
      have hl : (R.cells ys).length = ys.length * i.size := by rw [hsz]; exact R.cells_len ys
      have hnews : ∀ j u, (R.cells ys)[j]? = some u → w.cell? ((⟨b, o2, none⟩ : Addr).add j) = some u := fun j u hu => by rw [add_at]; exact h11 j u hu
      by_cases hroom : xs.length + ys.length ≤ s.c
      · have hle : (xs.length + ys.length) * R.sz ≤ s.c * R.sz := Nat.mul_le_mul_right _ hroom
        rw [Nat.add_mul] at hle
        have hl2 : (R.cells ys).length = ys.length * R.sz := R.cells_len ys
        have hf := run_firstCells_some (P := P) w i.size ys.length ⟨b, o2, none⟩ ys.length cap (R.cells ys) hl hnews
        have hst := run_storeCells_at P g (off + xs.length * i.size) R.T (R.cells ys) 0 cur w h2 (by rw [hsz, Nat.add_zero]; omega) (R.cells_one ys)
        simp only [Nat.add_zero] at hst
        refine ⟨⟨some ⟨g, off, none⟩, xs.length + ys.length, s.c⟩, w.setRow g (cur.toList.take (off + xs.length * i.size) ++ R.cells ys ++ cur.toList.drop (off + xs.length * i.size + (R.cells ys).length)).toArray, ?_, ?_, ?_, ?_⟩
        · simp [Builtin.append_, run_underlying hT, sizeOf, typeInfo, hi, Builtin.lenOf, hroom, hf, Addr.add_lit, hst, SV.v]
        · refine .inr ⟨g, off, _, rfl, setRow_heap w g cur _ R.T _ h2, by rw [List.length_append], by rw [List.length_append]; exact hroom, h5, ?_, ?_⟩
          · rw [hsz]
            simp only [List.size_toArray, List.length_append, List.length_take, List.length_drop, Array.length_toList]
            omega
          · rw [hsz]
            simp only [List.append_assoc]
            have hcl : (R.cells xs).length = xs.length * R.sz := R.cells_len xs
            have e0 : (cur.toList.take (off + xs.length * R.sz)).length = off + xs.length * R.sz := by
              have hcs : cur.toList.length = cur.size := Array.length_toList
              rw [List.length_take]; omega
            rw [List.drop_append_of_le_length (by rw [e0]; omega)]
            have e1 : (cur.toList.take (off + xs.length * R.sz)).drop off = R.cells xs := by
              rw [List.drop_take, show off + xs.length * R.sz - off = xs.length * R.sz by omega, h7]
            rw [e1, ← List.append_assoc, ← R.cells_append, ← hlen, List.take_left]
        · refine ⟨rfl, rfl, rfl, by simp, fun k _ hk => setRow_other w g k _ (fun e => hk (by simp [e, Value.ownBlock])), Nat.le_refl _⟩
        · intro k hk
          have : g = k := by simpa [SV.v, Value.ownBlock] using hk
          subst this
          exact ⟨by simpa using hlt, .inr rfl⟩
      · have holds : ∀ j u, (R.cells xs)[j]? = some u → w.cell? ((⟨g, off, none⟩ : Addr).add j) = some u := fun j u hu => by
          rw [add_at]
          have hrd : RdS R s.v xs w := QOk.rds (.inr ⟨g, off, cur, h1, h2, h3, h4, h5, h6, h7⟩)
          rw [← h7, List.getElem?_take] at hu
          split at hu
          · rw [List.getElem?_drop] at hu
            rw [cell_of_row w g (off + j) _ _ _ h2]
            simpa using hu
          · cases hu
        have hr := run_append_grow (P := P) w T ty R.T i z hT hi hz ⟨g, off, none⟩ xs.length s.c (R.cells xs) (by rw [hsz]; exact R.cells_len xs) holds ⟨b, o2, none⟩ ys.length cap (R.cells ys) hl hnews (by omega) (by omega) (by rw [hby]; exact growslice_fits (by omega) hb)
        have hge := grownCap_ge w (xs.length + ys.length) s.c R.T
        have hcm : grownCap w (xs.length + ys.length) s.c R.T ≤ maxLen := grownCap_le_maxLen w _ s.c R.T hb2
        refine ⟨⟨some ⟨w.heap.size, 0, none⟩, xs.length + ys.length, _⟩, _, hr, ?_, ⟨rfl, rfl, rfl, by simp, fun k hk _ => Below.heap_alloc w.drew _ k hk, Nat.le_succ _⟩, fun k hk => ?_⟩
        · refine QOk.of_row (s := ⟨some ⟨w.heap.size, 0, none⟩, xs.length + ys.length, grownCap w (xs.length + ys.length) s.c R.T⟩) ⟨hlen, .inr ⟨w.heap.size, _, _, by rw [List.length_append], Nat.zero_le _, Go.heap_alloc_new w.drew _, by rw [List.length_append]; exact hge, hcm, ?_, ?_⟩⟩
          · simp only [Array.size_append, List.size_toArray, size_zeroCells', hzs', List.length_append, R.cells_len, ← Nat.add_mul]
            congr 1
            omega
          · simp only [Array.toList_append]
            rw [← hlen, R.cells_append]
            exact List.take_left
        · simp only [SV.v, Value.ownBlock, Option.some.injEq] at hk
          subst hk
          exact ⟨by simp, .inl (Nat.le_refl _)⟩
end
section
variable {P : Program} {α : Type} {R : Rep α} {Rp : Post} {K : List Lay} {N : NN} {l : Fr} {ops : Array Oper} {rest : List Oper} {d : Nat} {ty : Nat} {pos : String} {af : Array Edge} {x y : Operand} {T by_ : Nat} {zs : List Value}
variable {w0 : World} {M : List Nat} {A : Nat → Prop} {es rs : List Ent} {s t : SV} {xs ys qs : List α} {k : Nat}
theorem r_appQ {ag : Bool} (hT : P.underlying T = some (.slice R.T)) (hE : TyF P R.T ag R.sz by_ zs) (hzs : zs.length = R.sz) (hx : ev l x = some s.v) (hy : ev l y = some t.v) (hk : nth es k = some (.obj (queO R s xs))) (hr : FactAt es (RdS R t.v ys))
    (hq : appM by_ xs ys = some qs) (hd : Nat.blt d N.n = true) (h : ∀ s' : SV, LJ P Rp ops rest K N ((d, s'.v) :: l) (Sat w0 M A (setN es k (.obj (queO R s' qs))))) :
    LJ P Rp ops (⟨some d, .call { callee := .builtin .append, args := #[x, y], argTypes := #[T, T] }, ty, pos, af, none⟩ :: rest) K N l (Sat w0 M A es) := by
  intro a w hf hw
  obtain ⟨rfl, hb, hb2⟩ := appM_spec hq
  refine wpList_plain rfl fun K' hK => ?_
  unfold Oper.wp
  obtain ⟨s', w', hrun, hown, hc, hkey⟩ := run_appQ (P := P) (ty := ty) hT hE hzs (hw.objAt hk) (hr.get hw) hb hb2
  have : (execOp a.eval ⟨some d, .call { callee := .builtin .append, args := #[x, y], argTypes := #[T, T] }, ty, pos, af, none⟩).run P w = .ok (.value s'.v) w' := by
    simp [execOp, resolve, invoke, builtin, hf.ev hx, hf.ev hy, hrun]
  rw [this]
  refine hK _ _ (h s' _ _ (hf.put hd _) (hw.swap' hk hc hown ?_ (fun b hb => ?_) (fun F hF => by cases hF)))
  · show (s'.v.ownBlock.toList).Nodup
    cases s'.v.ownBlock <;> simp
  · have hb' : s'.v.ownBlock = some b := by simpa [Ent.kl, queO] using hb
    obtain ⟨h1, h2⟩ := hkey b hb'
    exact ⟨h1, h2.imp id fun h => by simpa [Ent.kl, queO] using h⟩
end
end Go.J

/- J41: a slice whose rows are ours, too: they can be taken out and be turned. No program in sight. -/
namespace Go.J
open Go Go.RowKit
set_option linter.unusedSimpArgs false
set_option linter.unusedSectionVars false
section
variable {α : Type} {R : Rep α} {w0 w : World} {M : List Nat} {A : Nat → Prop} {es rest : List Ent}
/-- the rows that headers lead to, all of them ours -/
def rowsO (R : Rep α) (xs : List (List α)) (xg : List (List α × SV)) : OW := {
  ks := xg.flatMap fun p => p.2.v.ownBlock.toList
  ok := fun w => xg.map Prod.fst = xs ∧ ∀ p, p ∈ xg → w.ownsRow 0 R.T R.sz p.2.v p.1.length (R.cells p.1)
  stay := by
    intro w w' h hk
    exact ⟨hk.1, fun p hp => Ent.okx_of_block (e := .row R p.2.v p.1) (hk.2 p hp) fun k hm => h k (List.mem_flatMap.2 ⟨p, hp, hm⟩)⟩
  lt := by
    intro w hk k hm
    obtain ⟨p, hp, hm⟩ := List.mem_flatMap.1 hm
    exact (World.ownsRow.lt (hk.2 p hp) k (by simpa using hm)).2 }
/-- what is known of the others -/
def LkX {α' G : Type} (D : Nst α' G) (i : Nat) (xs : List α') (xg : List (α' × G)) (w : World) : Prop := xg.map Prod.fst = xs ∧ ∀ j p, j ≠ i → xg[j]? = some p → D.inn p w
theorem LkX.set {α' G : Type} {D : Nst α' G} {i : Nat} {xs : List α'} {xg : List (α' × G)} {x : α'} {g : G} (h : LkX D i xs xg w) (h1 : D.inn (x, g) w) : Lk D (xs.set i x) (xg.set i (x, g)) w :=
  ⟨by rw [List.map_set, h.1], fun p hp => by
    obtain ⟨j, hj, hjp⟩ := List.getElem_of_mem hp
    rw [List.getElem_set] at hjp
    split at hjp
    · subst hjp; exact h1
    · rename_i hne
      exact h.2 j p (fun e => hne e.symm) (by rw [← hjp]; exact List.getElem?_eq_getElem _)⟩
end
end Go.J

/- J42: rows made of nil slices; maps whose values have slices in them. No program in sight. -/
namespace Go.G
open Go Go.J Go.RowKit
set_option linter.unusedSimpArgs false
set_option linter.unusedSectionVars false
section
variable {α G K : Type} [DecidableEq K] {D : Nst α G} {xs : List (K × α)} {xg : List (K × (α × G))} {w : World} {x z : α} {g gz : G} {k : K}
theorem _root_.Go.J.Lk.mk {q : List α} {qg : List (α × G)} (hL : qg.map Prod.fst = q) (hm : ∀ p, p ∈ qg → p = (z, gz)) (h : D.inn (z, gz) w) : Lk D q qg w := ⟨hL, fun p hp => hm p hp ▸ h⟩
/-- the entries of a map, and the entries with their headers -/
def LkM {α G K : Type} (D : Nst α G) (xs : List (K × α)) (xg : List (K × (α × G))) (w : World) : Prop := mpV Prod.fst xg = xs ∧ ∀ p, p ∈ xg → D.inn p.2 w
theorem lkM_in {V : Type} {l : List (K × V)} {v : V} (h : lkM l k = some v) : (k, v) ∈ l := by
  unfold lkM at h
  cases hf : l.find? (fun p => decide (p.1 = k)) with
  | none => rw [hf] at h; cases h
  | some p =>
    rw [hf] at h
    have h1 := List.mem_of_find?_eq_some hf
    have h2 := List.find?_some hf
    simp at h h2
    subst h h2
    exact h1
theorem putM_in {V : Type} {l : List (K × V)} {v : V} {p : K × V} (h : p ∈ putM l k v) : p ∈ l ∨ p = (k, v) := by
  unfold putM at h
  split at h
  · obtain ⟨q, hq, rfl⟩ := List.mem_map.1 h
    split
    · exact .inr rfl
    · exact .inl hq
  · rcases List.mem_append.1 h with h | h
    · exact .inl h
    · exact .inr (List.mem_singleton.1 h)
theorem putM_hL (hL : mpV Prod.fst xg = xs) : mpV Prod.fst (putM xg k (x, g)) = putM xs k x := by rw [← hL]; exact (putM_map Prod.fst xg k (x, g)).symm
theorem LkM.put (h : LkM D xs xg w) (h1 : D.inn (x, g) w) : LkM D (putM xs k x) (putM xg k (x, g)) w := ⟨putM_hL h.1, fun p hp => by
  rcases putM_in hp with h2 | rfl
  · exact h.2 p h2
  · exact h1⟩
end
section
variable {P : Program} {N : NN} {l : Fr} {dd : Option Nat} {ty : Nat} {pos : String} {af : Array Edge} {g : Option (Nat × Bool)} {x y : Operand} {T E Tk : TypeId} {c : Bool}
variable {w0 : World} {M : List Nat} {A : Nat → Prop} {es : List Ent} {b : Nat} {K V : Type} [DecidableEq K] {kv : K → Value} {vv : V → Value} {L : List (K × V)} {k : K} {z y0 : V} {mes : Array MapEntry} {mcl : Nat}
end
end Go.G

/- J43: an append after which the shorter slice is used again; a row of nothing with room ahead. No program in sight. -/
namespace Go.J
open Go Go.RowKit
set_option linter.unusedSimpArgs false
set_option linter.unusedSectionVars false
set_option linter.unusedVariables false
theorem sv_inj {s s0 : SV} (h : s.v = s0.v) : s = s0 := by
  cases s; cases s0
  simp only [SV.v] at h
  injection h with h1 h2 h3
  subst h1
  have h2' : _ = _ := h2
  have h3' : _ = _ := h3
  simp_all
/-- what is left of the shorter slice -/
def RestOk {α : Type} (R : Rep α) (s s' : SV) (xs : List α) (w : World) : Prop :=
  (s'.v.ownBlock = s.v.ownBlock → (s = nilS ∧ xs = []) ∨ ∃ g c n', s = ⟨some ⟨g, 0, none⟩, xs.length, c⟩ ∧ s' = ⟨some ⟨g, 0, none⟩, n', c⟩) ∧ (s'.v.ownBlock ≠ s.v.ownBlock → w.ownsRow 0 R.T R.sz s.v xs.length (R.cells xs))
theorem RestOk.same {α : Type} {R : Rep α} {s s0 : SV} {xs : List α} {w : World} (h : w.ownsRow 0 R.T R.sz s.v xs.length (R.cells xs)) (he : s = s0) : RestOk R s0 s xs w := by
  subst he
  refine ⟨fun _ => ?_, fun h => absurd rfl h⟩
  rcases h.2 with ⟨h5, h6⟩ | ⟨g, cap, cur, h5, _⟩
  · exact .inl ⟨sv_inj (s0 := nilS) h5, List.eq_nil_of_length_eq_zero h6⟩
  · exact .inr ⟨g, cap, _, sv_inj (s0 := ⟨some ⟨g, 0, none⟩, xs.length, cap⟩) h5, by rw [sv_inj (s0 := ⟨some ⟨g, 0, none⟩, xs.length, cap⟩) h5]⟩
section
variable {α : Type} {R : Rep α} {w0 w : World} {M : List Nat} {A : Nat → Prop} {es : List Ent} {s s' : SV} {xs qs : List α}
def restK (s s' : SV) : List Nat := if s'.v.ownBlock = s.v.ownBlock then [] else s.v.ownBlock.toList
theorem RestOk.stay {w w' : World} (hs : ∀ k, k ∈ restK s s' → w'.heap[k]? = w.heap[k]?) (h : RestOk R s s' xs w) : RestOk R s s' xs w' := by
  refine ⟨h.1, fun hne => ?_⟩
  have := h.2 hne
  refine Ent.okx_of_block (e := .row R s.v xs) this fun k hm => hs k ?_
  unfold restK
  rw [if_neg hne]
  exact hm
theorem RestOk.lt {w : World} (h : RestOk R s s' xs w) : ∀ k, k ∈ restK s s' → k < w.heap.size := by
  intro k hk
  unfold restK at hk
  split at hk
  · cases hk
  · rename_i hne
    exact (World.ownsRow.lt (h.2 hne) k (by simpa using hk)).2
def restO (R : Rep α) (s s' : SV) (xs : List α) : OW := { ks := restK s s', ok := RestOk R s s' xs, stay := RestOk.stay, lt := RestOk.lt }
def duoO (R : Rep α) (s s' : SV) (xs qs : List α) : OW := {
  ks := s'.v.ownBlock.toList ++ restK s s'
  ok := fun w => w.ownsRow 0 R.T R.sz s'.v qs.length (R.cells qs) ∧ RestOk R s s' xs w
  stay := fun hs h => ⟨Ent.okx_of_block (e := .row R s'.v qs) h.1 fun k hm => hs k (List.mem_append_left _ hm), RestOk.stay (fun k hk => hs k (List.mem_append_right _ hk)) h.2⟩
  lt := fun h k hk => by
    rcases List.mem_append.1 hk with h1 | h1
    · exact (World.ownsRow.lt h.1 k (by simpa using h1)).2
    · exact h.2.lt k h1 }
end
section
variable {P : Program} {Rp : Post} {K : List Lay} {N : NN} {l : Fr} {ops : Array Oper} {rest : List Oper} {d : Nat} {ty : Nat} {pos : String} {af : Array Edge} {x y : Operand} {T : TypeId}
variable {w0 : World} {M : List Nat} {A : Nat → Prop} {es : List Ent} {α : Type} {R : Rep α} {s t : SV} {xs ys qs : List α} {k by_ : Nat} {zs : List Value}
end
end Go.J
namespace Go.G
open Go Go.J Go.RowKit
section
variable {P : Program} {α : Type} {R : Rep α} {Rp : Post} {K : List Lay} {N : NN} {l : Fr} {ops : Array Oper} {rest : List Oper} {d : Nat} {ty : Nat} {pos : String} {af : Array Edge} {x y : Operand} {T by_ : Nat} {zs : List Value}
variable {w0 : World} {M : List Nat} {A : Nat → Prop} {es : List Ent} {m : Int} {q : List α} {z : α}
end
end Go.G

/- J44: a slice of rows of ours from which one row at a time is taken out and put back. No program in sight. -/
namespace Go.J
open Go Go.RowKit
set_option linter.unusedSimpArgs false
set_option linter.unusedSectionVars false
section
variable {α : Type} {R : Rep α} {w0 w : World} {M : List Nat} {A : Nat → Prop} {es rest : List Ent}
/-- all rows but one -/
def holeO (R : Rep α) (i : Nat) (xs : List (List α)) (xg : List (List α × SV)) : OW := {
  ks := (xg.eraseIdx i).flatMap fun p => p.2.v.ownBlock.toList
  ok := fun w => xg.map Prod.fst = xs ∧ ∀ p, p ∈ xg.eraseIdx i → w.ownsRow 0 R.T R.sz p.2.v p.1.length (R.cells p.1)
  stay := by
    intro w w' h hk
    exact ⟨hk.1, fun p hp => Ent.okx_of_block (e := .row R p.2.v p.1) (hk.2 p hp) fun k hm => h k (List.mem_flatMap.2 ⟨p, hp, hm⟩)⟩
  lt := by
    intro w hk k hm
    obtain ⟨p, hp, hm⟩ := List.mem_flatMap.1 hm
    exact (World.ownsRow.lt (hk.2 p hp) k (by simpa using hm)).2 }
end
end Go.J

/- J45: elements that lead to rows of ours: a slice of structs, each with a slice of its own. No program in sight. -/
namespace Go.J
open Go Go.RowKit
set_option linter.unusedSimpArgs false
set_option linter.unusedSectionVars false
section
variable {α β : Type} {R : Rep β} {f : α → List β} {w0 w : World} {M : List Nat} {A : Nat → Prop} {es rest : List Ent}
/-- the rows in the elements, all of them ours -/
def innO (R : Rep β) (f : α → List β) (xs : List α) (xg : List (α × SV)) : OW := {
  ks := xg.flatMap fun p => p.2.v.ownBlock.toList
  ok := fun w => xg.map Prod.fst = xs ∧ ∀ p, p ∈ xg → w.ownsRow 0 R.T R.sz p.2.v (f p.1).length (R.cells (f p.1))
  stay := by
    intro w w' h hk
    exact ⟨hk.1, fun p hp => Ent.okx_of_block (e := .row R p.2.v (f p.1)) (hk.2 p hp) fun k hm => h k (List.mem_flatMap.2 ⟨p, hp, hm⟩)⟩
  lt := by
    intro w hk k hm
    obtain ⟨p, hp, hm⟩ := List.mem_flatMap.1 hm
    exact (World.ownsRow.lt (hk.2 p hp) k (by simpa using hm)).2 }
/-- all of them but one -/
def innH (R : Rep β) (f : α → List β) (i : Nat) (xs : List α) (xg : List (α × SV)) : OW := {
  ks := (xg.eraseIdx i).flatMap fun p => p.2.v.ownBlock.toList
  ok := fun w => xg.map Prod.fst = xs ∧ ∀ p, p ∈ xg.eraseIdx i → w.ownsRow 0 R.T R.sz p.2.v (f p.1).length (R.cells (f p.1))
  stay := by
    intro w w' h hk
    exact ⟨hk.1, fun p hp => Ent.okx_of_block (e := .row R p.2.v (f p.1)) (hk.2 p hp) fun k hm => h k (List.mem_flatMap.2 ⟨p, hp, hm⟩)⟩
  lt := by
    intro w hk k hm
    obtain ⟨p, hp, hm⟩ := List.mem_flatMap.1 hm
    exact (World.ownsRow.lt (hk.2 p hp) k (by simpa using hm)).2 }
/-- a row of headers is what its cells are -/
theorem cells_set {γ : Type} (R : Rep γ) : ∀ (xs : List γ) (i : Nat) (a b : γ), xs[i]? = some a → R.enc b = R.enc a → R.cells (xs.set i b) = R.cells xs
  | [], i, a, b, h, _ => by simp at h
  | x :: xs, 0, a, b, h, e => by
    rw [List.getElem?_cons_zero] at h
    cases h
    simp only [List.set_cons_zero, Rep.cells, List.flatMap_cons, e]
  | x :: xs, i + 1, a, b, h, e => by
    have := cells_set R xs i a b (by simpa using h) e
    simp only [Rep.cells] at this
    simp only [List.set_cons_succ, Rep.cells, List.flatMap_cons, this]
end
end Go.J

/- J46: loops by what follows them: their rounds may part by an order that is not known, and what follows is the same in the end. No program in sight. -/
namespace Go.J
open Go Go.RowKit
set_option linter.unusedSimpArgs false
set_option linter.unusedSectionVars false
set_option linter.unusedVariables false
/-- a loop over a row, by what follows it -/
def rangeK {α σ β : Type} (step : Nat → α → σ → (σ → Option β) → Option β) (K : σ → Option β) : Nat → List α → σ → Option β
  | _, [], s => K s
  | i, x :: xs, s => step i x s fun s' => rangeK step K (i + 1) xs s'
/-- a loop, by what follows it -/
def loopK {σ β : Type} (step : σ → (σ → Option β) → Option β) : Nat → σ → Option β
  | 0, _ => none
  | n + 1, s => step s (loopK step n)
/-- whichever comes next -/
noncomputable def anyIx {β : Type} (J : List Nat) (f : Nat → Option β) : Option β := by
  classical exact if h : ∃ r, ∀ j, j ∈ J → f j = some r then some h.choose else none
theorem anyIx_spec {β : Type} {J : List Nat} {f : Nat → Option β} {r : β} (h : anyIx J f = some r) : ∀ j, j ∈ J → f j = some r := by
  unfold anyIx at h
  split at h
  · rename_i hx
    cases h
    exact hx.choose_spec
  · cases h
theorem anyIx_of {β : Type} {J : List Nat} {f : Nat → Option β} {r : β} (h0 : ∃ j, j ∈ J) (h : ∀ j, j ∈ J → f j = some r) : anyIx J f = some r := by
  unfold anyIx
  have hx : ∃ r, ∀ j, j ∈ J → f j = some r := ⟨r, h⟩
  rw [dif_pos hx]
  obtain ⟨j, hj⟩ := h0
  have := hx.choose_spec j hj
  rw [h j hj] at this
  exact this.symm
/-- a loop over a map, by what follows it -/
noncomputable def mrangeK {α σ β : Type} (step : Nat → α → σ → (σ → Option β) → Option β) (K : σ → Option β) (L : List α) : Nat → List Nat → σ → Option β
  | 0, _, s => K s
  | n + 1, idx, s => anyIx ((List.range L.length).filter fun j => !decide (j ∈ idx)) fun j => L[j]?.bind fun x => step idx.length x s fun s' => mrangeK step K L n (idx ++ [j]) s'
section
variable {P : Program} {R : Post} {K : List Lay} {N : NN} {fr : Fr} {H : World → Prop}
theorem cj_whileK {σ γ β : Type} {c : Code} {b0 n0 : Nat} {step : σ → (σ → Option β) → Option β} {s0 : σ} {res : β} (hs : loopK step n0 s0 = some res) (g0 : γ) (l : σ → γ → Fr) (Hs : σ → γ → World → Prop) (hl : SubF (l s0 g0) fr) (hH : ∀ w, H w → Hs s0 g0 w)
    (round : ∀ (s : σ) (q : γ) (self : σ → Option β), step s self = some res →
      ∀ I : Act → World → Prop, (∀ (fr' : Fr) (H' : World → Prop) s' q', self s' = some res → SubF (l s' q') fr' → (∀ w, H' w → Hs s' q' w) → NJ P R (.inv I :: .blk b0 :: K) N fr' H') → CJ P R c (.inv I :: .blk b0 :: K) N (l s q) (Hs s q)) : CJ P R (.block b0 (.loop c)) K N fr H := by
  refine cj_blk (cj_loop (σ := σ × γ) (fun s => l s.1 s.2) (fun s => Hs s.1 s.2) (fun n s => loopK step n s.1 = some res) n0 (s0, g0) hs hl hH ?_)
  rintro n ⟨s, q⟩ hn
  cases n with
  | zero => cases hn
  | succ n =>
    refine round s q (loopK step n) hn _ ?_
    intro fr' H' s' q' hJ hl' hH'
    exact nj_round (σ := σ × γ) (l := fun s => l s.1 s.2) (Hs := fun s => Hs s.1 s.2) n (s', q') (Nat.lt_succ_self n) hJ hl' hH'
theorem cj_rangeK0 {α σ γ β : Type} {xs : List α} {step : Nat → α → σ → (σ → Option β) → Option β} {Kf : σ → Option β} {s0 : σ} {res : β} {m : Int} {bodyc : Code} {b0 b1 r1 r2 tc ti tn td T1 T2 T3 T4 ty1 ty2 ty3 : Nat} {p1 p2 p3 : String} {a1 a2 a3 : Array Edge}
    (hs : rangeK step Kf 0 xs s0 = some res) (g0 : γ) (l : σ → γ → Fr) (Hs : σ → γ → World → Prop) (hl : SubF ((ti, .int .i64 0) :: (tn, .int .i64 m) :: l s0 g0) fr) (hH : ∀ w, H w → Hs s0 g0 w) (hm : ∀ i : Nat, (i : Int) < m ↔ i < xs.length) (hmx : xs.length ≤ maxLen)
    (hfr : ∀ s c, look (l s c) tc = none ∧ look (l s c) td = none ∧ look (l s c) ti = none ∧ look (l s c) tn = none) (hne : Nat.beq tc ti = false ∧ Nat.beq tc tn = false ∧ Nat.beq td tn = false ∧ Nat.beq ti tn = false ∧ Nat.beq td ti = false) (hb1 : Nat.blt tc N.n = true) (hb2 : Nat.blt td N.n = true) (hb3 : Nat.blt ti N.n = true)
    (after : ∀ s c, Kf s = some res → NJ P R K N (l s c) (Hs s c))
    (body : ∀ (i : Nat) (x : α) (s : σ) (c : γ) (self : σ → Option β), xs[i]? = some x → step i x s self = some res →
      ∀ I : Act → World → Prop, (∀ (fr' : Fr) (H' : World → Prop) (s' : σ) (c' : γ), self s' = some res → SubF ((ti, .int .i64 i) :: (tn, .int .i64 m) :: l s' c') fr' → (∀ w, H' w → Hs s' c' w) → NJ P R (.inv I :: .blk b0 :: K) N fr' H') →
      CJ P R bodyc (.blk b1 :: .inv I :: .blk b0 :: K) N ((ti, .int .i64 i) :: (tn, .int .i64 m) :: l s c) (Hs s c)) :
    CJ P R (.block b0 (.loop (.seq (.region r1 #[⟨some tc, .binOp .lss T1 (.tmp ti) (.tmp tn) T2, ty1, p1, a1, none⟩] false) (.seq (.cond (.tmp tc) .skip (.exit b0)) (.seq (.block b1 bodyc)
      (.region r2 #[⟨some td, .binOp .add T3 (.tmp ti) (.const (.int .i64 1)) T4, ty2, p2, a2, none⟩, ⟨some ti, .move (.tmp td), ty3, p3, a3, none⟩] false)))))) K N fr H := by
  have n1 : tc ≠ ti := fun e => by have := hne.1; rw [e] at this; simp at this
  have n2 : tc ≠ tn := fun e => by have := hne.2.1; rw [e] at this; simp at this
  have n3 : td ≠ tn := fun e => by have := hne.2.2.1; rw [e] at this; simp at this
  have n4 : ti ≠ tn := fun e => by have := hne.2.2.2.1; rw [e] at this; simp at this
  have n5 : td ≠ ti := fun e => by have := hne.2.2.2.2; rw [e] at this; simp at this
  refine cj_blk (cj_loop (σ := Nat × σ × γ) (fun q => (ti, .int .i64 q.1) :: (tn, .int .i64 m) :: l q.2.1 q.2.2) (fun q => Hs q.2.1 q.2.2) (fun n q => n = xs.length - q.1 ∧ q.1 ≤ xs.length ∧ rangeK step Kf q.1 (xs.drop q.1) q.2.1 = some res) xs.length (0, s0, g0)
    ⟨by simp, Nat.zero_le _, by simpa using hs⟩ hl hH ?_)
  rintro n ⟨i, s, c⟩ ⟨hn, hi, hrun⟩
  simp only at hn hi hrun
  have le1 : ∀ v, FLe ((ti, .int .i64 (i : Int)) :: (tn, .int .i64 m) :: l s c) ((tc, v) :: (ti, .int .i64 (i : Int)) :: (tn, .int .i64 m) :: l s c) := by
    intro v j u hj
    rw [look_cons]
    by_cases e : tc = j
    · subst e
      rw [look_cons, if_neg n1.symm, look_cons, if_neg n2.symm, (hfr s c).1] at hj
      cases hj
    · rw [if_neg e]; exact hj
  refine cj_rseq (lp hb1 (p_lss (x := .tmp ti) (y := .tmp tn) (m := (i : Int)) (n := m) (k := .i64) ?_ ?_) (lj_seq (cj_seq (cj_if (b := decide ((i : Int) < m)) ?_ (fun hb => ?_) (fun hb => ?_)))))
  · simp only [ev]; rw [look_cons, if_pos rfl]
  · simp only [ev]; rw [look_cons, if_neg n4, look_cons, if_pos rfl]
  · simp only [ev]; rw [look_cons, if_pos rfl]
  · have hlt : i < xs.length := (hm i).1 (by simpa using hb)
    have hd : xs.drop i = xs[i] :: xs.drop (i + 1) := List.drop_eq_getElem_cons hlt
    rw [hd] at hrun
    refine cj_skip (nj_seq (cj_seq (cj_blk ?_)))
    -- the body's own continuation
    have hbody := body i xs[i] s c (fun s' => rangeK step Kf (i + 1) (xs.drop (i + 1)) s') (List.getElem?_eq_getElem hlt) hrun
      (fun a w => Code.wpS P (Code.region r2 #[⟨some td, .binOp .add T3 (.tmp ti) (.const (.int .i64 1)) T4, ty2, p2, a2, none⟩, ⟨some ti, .move (.tmp td), ty3, p3, a3, none⟩] false)
        (QK P R (.inv (fun a w => ∃ (n' : Nat) (q' : Nat × σ × γ), n' < n ∧ (n' = xs.length - q'.1 ∧ q'.1 ≤ xs.length ∧ rangeK step Kf q'.1 (xs.drop q'.1) q'.2.1 = some res) ∧ Frm N ((ti, .int .i64 q'.1) :: (tn, .int .i64 m) :: l q'.2.1 q'.2.2) a ∧ Hs q'.2.1 q'.2.2 w) :: .blk b0 :: K)) a w)
      ?_
    · intro a w hf hw
      refine wpS_mono (hbody a w (hf.le (le1 _)) hw) ?_
      intro e a' w' hq
      cases e with
      | normal => exact hq
      | exit id =>
        by_cases e : id = b1
        · subst e
          simp only [QK, Exit.inBlock, if_true, Exit.then] at hq ⊢
          exact hq
        · simp only [QK, Exit.inBlock, if_neg e, Exit.then] at hq ⊢
          exact hq
      | goto l => exact hq
      | ret => exact hq
      | panic ch => exact hq
      | outgrown => exact hq
    · intro fr' H' s' c' hJ hsub hH'
      refine nj_inv fun a w hf hw => ?_
      have hf0 := hf.sub hsub
      have hw64 : w64 ((i : Int) + 1) = ((i + 1 : Nat) : Int) := by
        rw [w64_id]
        · rfl
        · unfold maxLen at hmx; omega
      have hstep : CJ P R (Code.region r2 #[⟨some td, .binOp .add T3 (.tmp ti) (.const (.int .i64 1)) T4, ty2, p2, a2, none⟩, ⟨some ti, .move (.tmp td), ty3, p3, a3, none⟩] false)
          (.inv (fun a w => ∃ (n' : Nat) (q' : Nat × σ × γ), n' < n ∧ (n' = xs.length - q'.1 ∧ q'.1 ≤ xs.length ∧ rangeK step Kf q'.1 (xs.drop q'.1) q'.2.1 = some res) ∧ Frm N ((ti, .int .i64 q'.1) :: (tn, .int .i64 m) :: l q'.2.1 q'.2.2) a ∧ Hs q'.2.1 q'.2.2 w) :: .blk b0 :: K) N
          ((ti, .int .i64 (i : Int)) :: (tn, .int .i64 m) :: l s' c') (Hs s' c') := by
        refine cj_reg (lp hb2 (p_add (m := (i : Int)) (n := 1) ?_ rfl) (lp hb3 (p_mv (v := .int .i64 (w64 ((i : Int) + 1))) ?_) (lj_nil (nj_inv fun a w hf hw => ⟨xs.length - (i + 1), (i + 1, s', c'), by omega, ⟨rfl, hlt, hJ⟩, hf.le ?_, hw⟩))))
        · simp only [ev]; rw [look_cons, if_pos rfl]
        · simp only [ev]; rw [look_cons, if_pos rfl]
        · intro j u hj
          rw [look_cons] at hj ⊢
          by_cases e1 : ti = j
          · rw [if_pos e1] at hj ⊢; rw [hw64]; exact hj
          · rw [if_neg e1] at hj ⊢
            rw [look_cons] at hj
            by_cases e2 : tn = j
            · subst e2
              rw [if_pos rfl] at hj
              rw [look_cons, if_neg n3, look_cons, if_neg n4, look_cons, if_pos rfl]
              exact hj
            · rw [if_neg e2] at hj
              have e3 : td ≠ j := fun e => by subst e; rw [(hfr s' c').2.1] at hj; cases hj
              rw [look_cons, if_neg e3, look_cons, if_neg e1, look_cons, if_neg e2]
              exact hj
      exact hstep a w hf0 (hH' w hw)
  · have hge : ¬ i < xs.length := fun h => by have := (hm i).2 h; simp at hb; omega
    have hd : xs.drop i = [] := List.drop_eq_nil_of_le (by omega)
    rw [hd] at hrun
    refine cj_exit (K' := K) ?_ (fun a w hf hw => after s c hrun a w (hf.le ?_) hw)
    · simp [target]
    · intro j u hj
      rw [look_cons, if_neg (fun e => by subst e; rw [(hfr s c).1] at hj; cases hj), look_cons, if_neg (fun e => by subst e; rw [(hfr s c).2.2.1] at hj; cases hj), look_cons, if_neg (fun e => by subst e; rw [(hfr s c).2.2.2] at hj; cases hj)]
      exact hj
theorem cj_rangeK {α σ γ β : Type} {xs : List α} {step : Nat → α → σ → (σ → Option β) → Option β} {Kf : σ → Option β} {s0 : σ} {res : β} {m : Int} {bodyc : Code} {b0 b1 r1 r2 tc ti tn td T1 T2 T3 T4 ty1 ty2 ty3 : Nat} {p1 p2 p3 : String} {a1 a2 a3 : Array Edge}
    (hs : rangeK step Kf 0 xs s0 = some res) (g0 : γ) (l : σ → γ → Fr) (Hs : σ → γ → World → Prop) (hl : SubF ((ti, .int .i64 0) :: (tn, .int .i64 m) :: l s0 g0) fr) (hH : ∀ w, H w → Hs s0 g0 w) (hm : ∀ i : Nat, (i : Int) < m ↔ i < xs.length) (hmx : ∀ w, H w → xs.length ≤ maxLen)
    (hfr : ∀ s c, look (l s c) tc = none ∧ look (l s c) td = none ∧ look (l s c) ti = none ∧ look (l s c) tn = none) (hne : Nat.beq tc ti = false ∧ Nat.beq tc tn = false ∧ Nat.beq td tn = false ∧ Nat.beq ti tn = false ∧ Nat.beq td ti = false) (hb1 : Nat.blt tc N.n = true) (hb2 : Nat.blt td N.n = true) (hb3 : Nat.blt ti N.n = true)
    (after : ∀ s c, Kf s = some res → NJ P R K N (l s c) (Hs s c))
    (body : ∀ (i : Nat) (x : α) (s : σ) (c : γ) (self : σ → Option β), xs[i]? = some x → step i x s self = some res →
      ∀ I : Act → World → Prop, (∀ (fr' : Fr) (H' : World → Prop) (s' : σ) (c' : γ), self s' = some res → SubF ((ti, .int .i64 i) :: (tn, .int .i64 m) :: l s' c') fr' → (∀ w, H' w → Hs s' c' w) → NJ P R (.inv I :: .blk b0 :: K) N fr' H') →
      CJ P R bodyc (.blk b1 :: .inv I :: .blk b0 :: K) N ((ti, .int .i64 i) :: (tn, .int .i64 m) :: l s c) (Hs s c)) :
    CJ P R (.block b0 (.loop (.seq (.region r1 #[⟨some tc, .binOp .lss T1 (.tmp ti) (.tmp tn) T2, ty1, p1, a1, none⟩] false) (.seq (.cond (.tmp tc) .skip (.exit b0)) (.seq (.block b1 bodyc)
      (.region r2 #[⟨some td, .binOp .add T3 (.tmp ti) (.const (.int .i64 1)) T4, ty2, p2, a2, none⟩, ⟨some ti, .move (.tmp td), ty3, p3, a3, none⟩] false)))))) K N fr H :=
  fun a w hf hw => cj_rangeK0 hs g0 l Hs hl hH hm (hmx w hw) hfr hne hb1 hb2 hb3 after body a w hf hw
end
section
variable {P : Program} {R : Post} {Kk : List Lay} {N : NN} {fr l : Fr} {ops : Array Oper} {rest : List Oper} {d : Nat} {dd : Option Nat} {ty : Nat} {pos : String} {af : Array Edge} {g : Option (Nat × Bool)} {x y u : Operand} {T E Tk : TypeId} {c : Code}
variable {w0 : World} {M : List Nat} {A : Nat → Prop} {es : List Ent} {j k b rb : Nat} {K V : Type} [DecidableEq K] {kv : K → Value} {vv : V → Value} {L : List (K × V)} {v z : V} {mes : Array MapEntry} {mcl : Nat}
theorem cj_mrangeK {σ γ β : Type} {step : Nat → K × V → σ → (σ → Option β) → Option β} {s0 : σ} {Kf : σ → Option β} {res : β} {bodyc : Code} {b0 b1 r1 tn tc ti ty1 ty2 : Nat} {p1 p2 : String} {a1 a2 : Array Edge} {H : World → Prop}
    (hs : mrangeK step Kf L L.length [] s0 = some res) (hrb : rb ≠ b) (g0 : γ) (l : σ → γ → Fr) (E : σ → γ → List Ent)
    (hl : SubF ((ti, .pointer (some ⟨rb, 0, none⟩)) :: l s0 g0) fr) (hH : ∀ w, H w → Sat w0 M A (.obj (oneO rb (itObj b mes mcl [])) :: E s0 g0) w)
    (hM : ∀ s c, FactAt (E s c) (MapAt kv b (mpV vv L) mes mcl))
    (hfr : ∀ s c, look (l s c) tc = none ∧ look (l s c) tn = none ∧ look (l s c) ti = none) (hne : Nat.beq tc ti = false ∧ Nat.beq tn ti = false ∧ Nat.beq tc tn = false) (hb1 : Nat.blt tc N.n = true) (hb2 : Nat.blt tn N.n = true)
    (after : ∀ s c, Kf s = some res → NJ P R Kk N (l s c) (Sat w0 M A (E s c)))
    (body : ∀ (i : Nat) (x : K × V) (s : σ) (c : γ) (idx : List Nat) (ix : Nat) (self : σ → Option β), L[ix]? = some (x.1, x.2) → step i x s self = some res → ∀ I : Act → World → Prop, (∀ (fr' : Fr) (H' : World → Prop) (s' : σ) (c' : γ), self s' = some res → SubF ((ti, .pointer (some ⟨rb, 0, none⟩)) :: l s' c') fr' → (∀ w, H' w → Sat w0 M A (.obj (oneO rb (itObj b mes mcl (idx ++ [ix]))) :: E s' c') w) → NJ P R (.inv I :: .blk b0 :: Kk) N fr' H') →
      CJ P R bodyc (.blk b1 :: .inv I :: .blk b0 :: Kk) N ((ti, .pointer (some ⟨rb, 0, none⟩)) :: l s c) (Sat w0 M A (.obj (oneO rb (itObj b mes mcl (idx ++ [ix]))) :: E s c))) :
    CJ P R (.block b0 (.loop (.seq (.region r1 #[⟨some tn, .next (.tmp ti) false, ty1, p1, a1, none⟩, ⟨some tc, .extract (.tmp tn) 0, ty2, p2, a2, none⟩] false) (.seq (.cond (.tmp tc) .skip (.exit b0)) (.block b1 bodyc))))) Kk N fr H := by
  have n1 : tc ≠ ti := fun e => by have := hne.1; rw [e] at this; simp at this
  have n2 : tn ≠ ti := fun e => by have := hne.2.1; rw [e] at this; simp at this
  have n3 : tc ≠ tn := fun e => by have := hne.2.2; rw [e] at this; simp at this
  refine cj_blk (cj_loop (σ := List Nat × σ × γ) (fun q => (ti, .pointer (some ⟨rb, 0, none⟩)) :: l q.2.1 q.2.2) (fun q => Sat w0 M A (.obj (oneO rb (itObj b mes mcl q.1)) :: E q.2.1 q.2.2))
    (fun n q => n = L.length - q.1.length ∧ q.1.Nodup ∧ (∀ i ∈ q.1, i < L.length) ∧ mrangeK step Kf L n q.1 q.2.1 = some res) L.length ([], s0, g0)
    ⟨by simp, List.nodup_nil, by simp, hs⟩ hl hH ?_)
  rintro n ⟨idx, s, c⟩ ⟨hn, hnd, hlt, hrun⟩
  simp only at hn hnd hlt hrun
  have le2 : ∀ v v', FLe ((ti, .pointer (some ⟨rb, 0, none⟩)) :: l s c) ((tc, v) :: (tn, v') :: (ti, .pointer (some ⟨rb, 0, none⟩)) :: l s c) := by
    intro v v' j u hj
    rw [look_cons]
    by_cases e : tc = j
    · subst e
      rw [look_cons, if_neg n1.symm, (hfr s c).1] at hj
      cases hj
    · rw [if_neg e, look_cons]
      by_cases e2 : tn = j
      · subst e2
        rw [look_cons, if_neg n2.symm, (hfr s c).2.1] at hj
        cases hj
      · rw [if_neg e2]; exact hj
  refine cj_seq (cj_reg (r_next (k := 0) (b := b) (kv := kv) (vv := vv) (L := L) (mes := mes) (mcl := mcl) ((hM s c).cons1) rfl hrb hlt ?_ hb2 (fun hall => ?_) (fun i kk v hni hi => ?_)))
  · simp only [ev]; rw [look_cons, if_pos rfl]
  · -- all were met
    refine lp hb1 (p_ext (vs := [.bool false]) (v := .bool false) ?_ rfl) (lj_seq (cj_seq (cj_if_f (c := .tmp tc) ?_ ?_)))
    · simp only [ev]; rw [look_cons, if_pos rfl]
    · simp only [ev]; rw [look_cons, if_pos rfl]
    · have hz : n = 0 := by
        have := List.Nodup.length_le_of_subset (l₁ := List.range L.length) (l₂ := idx) List.nodup_range (fun i hi => hall i (List.mem_range.1 hi))
        simp at this; omega
      have hk : Kf s = some res := by rw [hz] at hrun; exact hrun
      refine cj_exit (K' := Kk) ?_ (fun a w hf hw => after s c hk a w (hf.le ?_) (hw.sublist (List.sublist_cons_self _ _)))
      · simp [target]
      · intro j u hj
        rw [look_cons, if_neg (fun e => by subst e; rw [(hfr s c).1] at hj; cases hj), look_cons, if_neg (fun e => by subst e; rw [(hfr s c).2.1] at hj; cases hj), look_cons, if_neg (fun e => by subst e; rw [(hfr s c).2.2] at hj; cases hj)]
        exact hj
  · -- one more
    have hil : i < L.length := (List.getElem?_eq_some_iff.1 hi).1
    have hnd' : (idx ++ [i]).Nodup := by
      rw [List.nodup_append]
      exact ⟨hnd, by simp, fun a ha c hc => by simp at hc; subst hc; exact fun e => hni (e ▸ ha)⟩
    have hlt' : ∀ j ∈ idx ++ [i], j < L.length := fun j hj => by
      rcases List.mem_append.1 hj with h | h
      · exact hlt j h
      · simp at h; subst h; exact hil
    have hlen : idx.length < L.length := by
      have := List.Nodup.length_le_of_subset hnd' (l₂ := List.range L.length) (fun j hj => List.mem_range.2 (hlt' j hj))
      simp at this; omega
    obtain ⟨n', hn'⟩ : ∃ n', n = n' + 1 := ⟨n - 1, by omega⟩
    subst hn'
    have h0 := anyIx_spec hrun i (by simp [hil, hni])
    rw [hi] at h0
    have h0 : step idx.length (kk, v) s (fun s' => mrangeK step Kf L n' (idx ++ [i]) s') = some res := h0
    refine lp hb1 (p_ext (vs := [.bool true, kv kk, vv v]) (v := .bool true) ?_ rfl) (lj_seq (cj_seq (cj_if_t (c := .tmp tc) ?_ (cj_skip (nj_seq (cj_blk ?_))))))
    · simp only [ev]; rw [look_cons, if_pos rfl]
    · simp only [ev]; rw [look_cons, if_pos rfl]
    · have hbody := body idx.length (kk, v) s c idx i (fun s' => mrangeK step Kf L n' (idx ++ [i]) s') hi h0
        (fun a w => ∃ (n2 : Nat) (s' : List Nat × σ × γ), n2 < n' + 1 ∧ (n2 = L.length - s'.1.length ∧ s'.1.Nodup ∧ (∀ i ∈ s'.1, i < L.length) ∧ mrangeK step Kf L n2 s'.1 s'.2.1 = some res) ∧ Frm N ((ti, .pointer (some ⟨rb, 0, none⟩)) :: l s'.2.1 s'.2.2) a ∧ Sat w0 M A (.obj (oneO rb (itObj b mes mcl s'.1)) :: E s'.2.1 s'.2.2) w)
        (fun fr' H' s' c' hJ hsub hH' => nj_inv fun a w hf hw => ⟨n', (idx ++ [i], s', c'), Nat.lt_succ_self _, ⟨by simp; omega, hnd', hlt', hJ⟩, hf.sub hsub, hH' w hw⟩)
      exact fun a w hf hw => hbody a w (hf.le (le2 _ _)) hw
end
end Go.J
