/- J33: results that may be nil; pointers against nil; delete. No program in sight. -/
import Derived.Test.YtfgekmoffcobaaaGreatDoorJ32
namespace Go.J
open Go Go.RowKit
set_option linter.unusedSimpArgs false
set_option linter.unusedSectionVars false
theorem FactAt.fam {es : List Ent} {K X G : Type} [DecidableEq K] {kv : K → Value} {vv : G → Value} {ents : X → G → List Ent} {b : Nat} {xs : List (K × X)} {Z : List (K × G)} {hol : Option K} {mes : Array MapEntry} {mcl : Nat} (j : Nat)
    (h : nth es j = some (.obj (famO kv vv ents b xs Z hol mes mcl))) : FactAt es (FamAt kv vv ents b xs Z hol mes mcl) := .obj j h
/-- what a pointer that may be nil leads to -/
def optE {α : Type} (o : Option α) (f : α → List Ent) : List Ent := match o with | none => [] | some t => f t
def optV {α : Type} (o : Option α) (v : Value) : Value := match o with | none => .pointer none | some _ => v
theorem optE_none {α : Type} (f : α → List Ent) : optE none f = [] := rfl
theorem optE_some {α : Type} (t : α) (f : α → List Ent) : optE (some t) f = f t := rfl
theorem optV_none {α : Type} (v : Value) : optV (none : Option α) v = .pointer none := rfl
theorem optV_some {α : Type} (t : α) (v : Value) : optV (some t) v = v := rfl
def optB {α β : Type} (o : Option α) (x : Option β) (f : α → Option β) : Option β := match o with | none => x | some t => f t
theorem optB_none {α β : Type} (x : Option β) (f : α → Option β) : optB none x f = x := rfl
theorem optB_some {α β : Type} (t : α) (x : Option β) (f : α → Option β) : optB (some t) x f = f t := rfl
theorem optB_cases {α β : Type} {o : Option α} {x : Option β} {f : α → Option β} {r : β} {C : Prop} (h : optB o x f = some r) (h0 : o = none → x = some r → C) (h1 : ∀ t, o = some t → f t = some r → C) : C := by
  cases o with
  | none => exact h0 rfl h
  | some t => exact h1 t rfl h
section
variable {P : Program} {Rp : Post} {Kk : List Lay} {N : NN} {l : Fr} {ops : Array Oper} {rest : List Oper} {d : Nat} {dd : Option Nat} {ty : Nat} {pos : String} {af : Array Edge} {g : Option (Nat × Bool)} {x y u : Operand} {T T' Te E Tk : TypeId} {H : World → Prop}
theorem p_nepn {q : Option Addr} (hT : P.underlying T = some (.pointer Te)) (hx : ev l x = some (.pointer q)) (hy : ev l y = some (.pointer none)) : PureOp P N ⟨dd, .binOp .neq T x y T', ty, pos, af, g⟩ l H (.bool (!q.isNone)) := p_bin hx hy fun w => by
  have hg : (eqGuard .neq T x y (.pointer q) (.pointer none)).run P w = .ok () w := by cases q <;> simp [eqGuard]
  have h : ∀ d, (Op.equalIn (d + 1) T (.pointer q) (.pointer none)).run P w = .ok q.isNone w := fun d => by
    cases q <;> simp [Op.equalIn, run_underlying hT]
  simp only [binOp]
  simp [hg, Op.equal, Op.maxDepth, h 9999]
end
section
variable {P : Program} {K : Type} [DecidableEq K] {kv : K → Value} {b : Nat} {l : List (K × Value)} {es : Array MapEntry} {clock : Nat} {w : World} {T E Tk : TypeId} {k : K} {v : Value}
theorem map_eraseI {α β : Type} (f : α → β) : ∀ (l : List α) (i : Nat), (l.eraseIdx i).map f = (l.map f).eraseIdx i
  | [], _ => rfl
  | _ :: _, 0 => rfl
  | x :: l, i + 1 => by simp [map_eraseI f l i]
theorem delM_none {V : Type} {l : List (K × V)} (h : ∀ p ∈ l, p.1 ≠ k) : delM l k = l := by
  unfold delM
  rw [List.filter_eq_self]
  intro p hp
  simp [h p hp]
theorem delM_at {V : Type} {l : List (K × V)} {u : V} (hn : (l.map Prod.fst).Nodup) (i : Nat) (h : l[i]? = some (k, u)) : delM l k = l.eraseIdx i := by
  induction l generalizing i with
  | nil => cases h
  | cons p l ih =>
    simp only [List.map_cons, List.nodup_cons] at hn
    cases i with
    | zero =>
      simp at h; subst h
      have h1 : delM l k = l := delM_none fun q hq e => hn.1 (by have := List.mem_map_of_mem (f := Prod.fst) hq; rwa [e] at this)
      unfold delM at h1 ⊢
      simp [h1]
    | succ i =>
      have h' : l[i]? = some (k, u) := by simpa using h
      have hne : p.1 ≠ k := fun e => hn.1 (by rw [e]; exact List.mem_map.2 ⟨(k, u), List.mem_of_getElem? h', rfl⟩)
      have := ih hn.2 i h'
      unfold delM at this ⊢
      simp [hne, this]
theorem run_delete_own {em : Bool} (hT : P.underlying T = some (.map Tk E)) (hK : KeyF P Tk kv) (m : MapAt kv b l es clock w) (ty Tk' : TypeId) : ∃ es', (Builtin.delete_ #[T, Tk'] ty #[.map (some b), kv k]).run P w = .ok (.tuple #[]) (w.putObj b (.map es' clock)) ∧ MapAt kv b (delM l k) es' clock (w.putObj b (.map es' clock)) := by
  have hlt := (Array.getElem?_eq_some_iff.1 m.heap).1
  have hput : ∀ o : Obj, (setObj b o).run P w = .ok () (w.putObj b o) := fun o => by rw [MapKept.run_setObj_map o m.heap]; rfl
  rcases hK.find k w l es.toList m.el with ⟨i, u, h1, h2⟩ | ⟨h1, h2⟩
  · refine ⟨es.eraseIdxIfInBounds i, ?_, World.putObj_heap_same hlt, ?_, ?_, ?_, ?_⟩
    · simp [Builtin.delete_, run_underlying hT, MapKept.run_getObj_map m.heap, hK.chk, h1, hput]
    · rw [delM_at m.nd i h2]
      have := m.el
      unfold EL at this ⊢
      rw [Array.toList_eraseIdxIfInBounds, map_eraseI, map_eraseI, this]
    · rw [delM_at m.nd i h2, map_eraseI]
      exact List.Nodup.sublist (List.eraseIdx_sublist _ _) m.nd
    · rw [Array.toList_eraseIdxIfInBounds]
      exact fun e he => m.born e ((List.eraseIdx_sublist _ _).subset he)
    · rw [Array.toList_eraseIdxIfInBounds, map_eraseI]
      exact List.Nodup.sublist (List.eraseIdx_sublist _ _) m.bnd
  · refine ⟨es, ?_, World.putObj_heap_same hlt, ?_, ?_, m.born, m.bnd⟩
    · simp [Builtin.delete_, run_underlying hT, MapKept.run_getObj_map m.heap, hK.chk, h1, hput]
    · rw [delM_none h2]; exact m.el
    · rw [delM_none h2]; exact m.nd
end
section
variable {P : Program} {Rp : Post} {Kk : List Lay} {N : NN} {l : Fr} {ops : Array Oper} {rest : List Oper} {d : Nat} {dd : Option Nat} {ty : Nat} {pos : String} {af : Array Edge} {x y : Operand} {T T' E Tk : TypeId}
variable {w0 : World} {M : List Nat} {A : Nat → Prop} {es : List Ent} {j b : Nat} {K V : Type} [DecidableEq K] {kv : K → Value} {vv : V → Value} {L : List (K × V)} {k : K} {mes : Array MapEntry} {mcl : Nat}
theorem r_del (hT : P.underlying T = some (.map Tk E)) (hK : KeyF P Tk kv) (hj : nth es j = some (.obj (mapO kv b (mpV vv L) mes mcl))) (hx : ev l x = some (.map (some b))) (hy : ev l y = some (kv k))
    (h : ∀ es', LJ P Rp ops rest Kk N l (Sat w0 M A (setN es j (.obj (mapO kv b (mpV vv (delM L k)) es' mcl))))) :
    LJ P Rp ops (⟨none, .call { callee := .builtin .delete, args := #[x, y], argTypes := #[T, T'] }, ty, pos, af, none⟩ :: rest) Kk N l (Sat w0 M A es) := by
  intro a w hf hw
  refine wpList_plain rfl fun K' hKk => ?_
  unfold Oper.wp
  have m : MapAt kv b (mpV vv L) mes mcl w := hw.objAt hj
  obtain ⟨es2, h1, h2⟩ := run_delete_own (P := P) (k := k) (em := true) hT hK m ty T'
  have : (execOp a.eval ⟨none, .call { callee := .builtin .delete, args := #[x, y], argTypes := #[T, T'] }, ty, pos, af, none⟩).run P w = .ok (.value (.tuple #[])) (w.putObj b (.map es2 mcl)) := by
    simp [execOp, resolve, invoke, builtin, hf.ev hx, hf.ev hy, h1]
  rw [this]
  rw [delM_map] at h2
  exact hKk _ _ (h es2 _ _ (hf.put_none _) (Sat.swapO hw hj rfl rfl (chg_put m.heap) h2))
end
end Go.J
