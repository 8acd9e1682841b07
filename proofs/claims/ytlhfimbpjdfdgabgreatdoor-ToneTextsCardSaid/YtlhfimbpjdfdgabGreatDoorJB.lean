/- JB: the rules (J17..J37), in one text. No program in sight. -/
import Derived.Test.YtlhfimbpjdfdgabGreatDoorJA
import Derived.RangeFuncRecord
import Derived.RangeFuncIn
import Derived.Lib.AppendStr
import Derived.Lib.UnsafeStr
import Derived.Lib.Builder
import Derived.MapKept
import Derived.Lib.Bytealg
import Derived.Lib.SlicesCompact
import Derived.Lib.AppendZeros
/- J17: conversions; an error held against nil. No program in sight. -/
namespace Go.J
open Go Go.RowKit
section
variable {P : Program} {N : NN} {l : Fr} {H : World → Prop} {dd : Option Nat} {ty : Nat} {pos : String} {af : Array Edge} {g : Option (Nat × Bool)} {x : Operand} {T T' : TypeId} {m : Int} {k k' : IntKind} {dS : TypeDesc}
theorem p_cvi (hS : P.underlying T = some dS) (hT : P.underlying T' = some (.int k)) (hx : ev l x = some (.int k' m)) : PureOp P N ⟨dd, .convert T T' x, ty, pos, af, g⟩ l H (.int k (k.wrap m)) := fun a w hf _ => by
  simp [execOp, hf.ev hx, convert, run_underlying hS, run_underlying hT, Conv.intToInt]
theorem p_cvs (hS : P.underlying T = some dS) (hT : P.underlying T' = some .string) (hx : ev l x = some (.int k' m)) : PureOp P N ⟨dd, .convert T T' x, ty, pos, af, g⟩ l H (.string (Utf8.encode m)) := fun a w hf _ => by
  simp [execOp, hf.ev hx, convert, run_underlying hS, run_underlying hT, Conv.intToString]
theorem p_eqni {ms : Array (String × TypeId)} (hT : P.underlying T = some (.interface ms)) (hm : P.methodsAt T = ms) (hx : ev l x = some .nilIface) : PureOp P N ⟨dd, .binOp .eql T x (.const .nilIface) T', ty, pos, af, g⟩ l H (.bool true) := p_bin hx rfl fun w => by
  have h := run_eql_nil_nil (P := P) w T (by rw [hm]; exact hT)
  have e : (eqGuard .eql T x (.const .nilIface) .nilIface .nilIface).run P w = .ok () w := by simp [eqGuard]
  simp [Sem.run_bind, e, h]
end
end Go.J

/- J18: code in a round of a range over a function; functions that leave with a mark. No program in sight. -/
namespace Go.J
open Go Go.RowKit

/-! ### code that does the same in a round -/
def noDefer (o : Oper) : Bool := match o.op with | .defer _ => false | _ => true
def rcode : Code → Bool
  | .seq x y => rcode x && rcode y
  | .region _ ops _ => ops.toList.all noDefer
  | .cond _ x y => rcode x && rcode y
  | .block _ c => rcode c
  | .loop c => rcode c
  | .exit _ | .ret | .skip => true
  | _ => false
/-! ### a block that holds no cells -/
def oneO (b : Nat) (o : Obj) : OW := ⟨[b], fun w => w.heap[b]? = some o, fun h hk => (h b (by simp)).trans hk, fun h k hk => by simp at hk; subst hk; exact (Array.getElem?_eq_some_iff.1 h).1⟩
section
variable {w0 w : World} {M : List Nat} {A : Nat → Prop} {es : List Ent} {b k : Nat} {o o' : Obj}
theorem Sat.allocO (h : Sat w0 M A es w) (o : Obj) : Sat w0 M A (.obj (oneO w.heap.size o) :: es) (w.alloc o) := by
  have := h.step (w' := w.alloc o) [] (by simp) ⟨rfl, rfl, rfl, by simp, fun b hb _ => Below.heap_alloc w _ b hb⟩ es [.obj (oneO w.heap.size o)] (List.Sublist.refl _) (by simp)
    (by simp [keys, Ent.kl, oneO]) (by intro k hk; simp [keys, Ent.kl, oneO] at hk; subst hk; exact ⟨by simp, .inl (Nat.le_refl _)⟩)
    (by intro e he; simp at he; subst he; exact Go.heap_alloc_new w _) (by intro e he; simp at he; subst he; intros; trivial)
  exact this.perm List.perm_append_comm
theorem Sat.objAt (h : Sat w0 M A es w) {q : OW} (hk : nth es k = some (.obj q)) : q.ok w := h.okx _ (nth_mem hk)
end

/-! ### functions that leave with a mark -/
def markOf (D : Nat) : Deferred := { target := .collected D, args := #[] }
def defO (D : Nat) : OW := oneO D (.deferred (some []))
/-- what the body of such a function must achieve -/
def markPost (P : Program) (fn : Func) (R : Ending → World → Prop) : Post := fun e a w => match e with
  | .normal | .ret => LeavesInM Fence.wide 0 P fn a.tmps R a.defers .returning w
  | _ => False
instance {P : Program} {fn : Func} {R : Ending → World → Prop} : PanicOk (markPost P fn R) := ⟨fun _ _ _ _ _ h => h⟩
section
variable {P : Program} {K : List Lay} {l : Fr} {w0 : World} {M : List Nat} {A : Nat → Prop} {es r : List Ent} {rs : List ResultVar} {vs : List Value} {fn : Func} {X : Type} {V : X → Value} {post : X → List Ent}
end
end Go.J

/- J19: 'for i, x := range slices.Backward(s)'. No program in sight. -/
namespace Go.J
open Go Go.RowKit
/-- the model of the loop -/
def rangeB {α σ ρ : Type} (step : Nat → α → σ → Option (Flow σ ρ)) (xs : List α) (s : σ) : Option (Flow σ ρ) := rangeM (fun j x s => step (xs.length - 1 - j) x s) 0 xs.reverse s
/-- the library's closure -/
def backCode (TS TE TF TI TB : Nat) (p q : String) : Code :=
  .seq (.region 0 #[⟨some 4, .load TS (.tmp 1), TS, p, #[], none⟩, ⟨some 5, .call { callee := .builtin .len, args := #[.tmp 4], argTypes := #[TS] }, TI, p, #[⟨0, .data⟩], none⟩,
      ⟨some 6, .binOp .sub TI (.tmp 5) (.const (.int .i64 1)) TI, TI, p, #[⟨1, .data⟩], none⟩, ⟨some 3, .assign (.tmp 6), TI, p, #[⟨2, .data⟩, ⟨0, .phase⟩, ⟨1, .phase⟩, ⟨2, .phase⟩], none⟩] false)
    (.block 0 (.loop (.seq (.seq (.region 1 #[⟨some 7, .move (.tmp 3), TI, p, #[], none⟩, ⟨some 8, .binOp .geq TI (.tmp 7) (.const (.int .i64 0)) TI, TB, p, #[⟨0, .data⟩], none⟩] false) (.cond (.tmp 8) .skip (.exit 0)))
      (.seq (.block 1 (.seq (.region 3 #[⟨some 11, .move (.tmp 0), TF, q, #[], none⟩, ⟨some 12, .move (.tmp 3), TI, q, #[], none⟩, ⟨some 13, .load TS (.tmp 1), TS, q, #[], none⟩, ⟨some 14, .move (.tmp 3), TI, q, #[], none⟩,
          ⟨some 15, .indexAddr TS (.tmp 13) (.tmp 14), 0, q, #[⟨2, .data⟩, ⟨3, .data⟩], none⟩, ⟨some 16, .load TE (.tmp 15), TE, q, #[⟨4, .data⟩], none⟩,
          ⟨some 17, .call { callee := .value (.tmp 11), args := #[.tmp 12, .tmp 16], argTypes := #[TI, TE] }, TB, q, #[⟨0, .data⟩, ⟨1, .data⟩, ⟨5, .data⟩], none⟩, ⟨some 18, .unOp .not TB (.tmp 17), TB, q, #[⟨6, .data⟩], none⟩] false) (.cond (.tmp 18) .ret .skip)))
        (.region 2 #[⟨some 9, .move (.tmp 3), TI, p, #[], none⟩, ⟨some 10, .binOp .sub TI (.tmp 9) (.const (.int .i64 1)) TI, TI, p, #[⟨0, .data⟩], none⟩,
          ⟨some 3, .assign (.tmp 10), TI, p, #[⟨1, .data⟩, ⟨0, .phase⟩, ⟨1, .phase⟩], none⟩] false)))))
section
variable {P : Program} {N : NN} {l : Fr} {H : World → Prop} {Q : Post} {a : Act} {w : World} {ops : Array Oper}
end
section
variable {P : Program} {w0 : World} {M : List Nat} {A : Nat → Prop} {α σ γ ρ : Type} {R : Rep α} {xs : List α} {sv : SV} {fn : Func} {kb bx TS TE TF TI TB by_ by2 : Nat} {p q : String} {zs zs2 : List Value}
end
end Go.J

/- J20: strings.Builder: what it holds as an entry of ours; append of a string; a string over bytes. No program in sight. -/
namespace Go.J
open Go Go.RowKit
set_option linter.unusedSimpArgs false
/-- bytes in memory -/
def RB (T : TypeId) : Rep UInt8 := ⟨T, 1, 1, fun u => [.int .u8 u.toNat], fun _ => rfl, fun x u hu => by simp only [List.mem_singleton] at hu; subst hu; rfl, by decide⟩
theorem RB_cells (T : TypeId) (l : List UInt8) : (RB T).cells l = l.map fun b => Value.int .u8 b.toNat := by
  show l.flatMap (fun u => [Value.int .u8 u.toNat]) = _
  rw [List.map_eq_flatMap]
theorem RB_str (T : TypeId) (s : ByteArray) : (RB T).cells s.data.toList = Lib.strCells s := RB_cells T _
/-- a builder in block b: its bytes are l, s is the header of their row -/
def bldO (Tb T8 : TypeId) (b : Nat) (s : SV) (l : List UInt8) : OW := {
  ks := b :: s.v.ownBlock.toList
  ok := fun w => (b :: s.v.ownBlock.toList).Nodup ∧ (∃ q, (q = none ∨ q = some ⟨b, 0, none⟩) ∧ w.heap[b]? = some (.cells [.pointer q, s.v].toArray Tb (0, 0))) ∧ w.ownsRow 0 T8 1 s.v l.length ((RB T8).cells l) ∧ (l = [] → s = nilS) ∧ (l ≠ [] → s.a ≠ none)
  stay := fun {w w'} h hk => by
    refine ⟨hk.1, ?_, ?_, hk.2.2.2⟩
    · obtain ⟨q, h1, h2⟩ := hk.2.1
      exact ⟨q, h1, (h b (List.mem_cons_self ..)).trans h2⟩
    · exact Ent.okx_of_block (e := .row (RB T8) s.v l) (w := w) hk.2.2.1 (fun k hk => h k (List.mem_cons_of_mem _ hk))
  lt := fun {w} hk k hkm => by
    rcases List.mem_cons.1 hkm with rfl | h
    · obtain ⟨q, -, h2⟩ := hk.2.1
      exact (Array.getElem?_eq_some_iff.1 h2).1
    · exact Ent.okx_lt (e := .row (RB T8) s.v l) (w := w) hk.2.2.1 h }
section
variable {w0 w : World} {M : List Nat} {A : Nat → Prop} {es : List Ent} {Tb T8 b : Nat} {s : SV} {l : List UInt8}
/-- the same blocks, told otherwise -/
theorem Sat.recast {e : Ent} {fs : List Ent} (h : Sat w0 M A (e :: es) w) (hk : keys fs = e.kl) (hok : ∀ f, f ∈ fs → f.okx w) (hro : noRo fs = true) : Sat w0 M A (fs ++ es) w := by
  have hkk : keys (fs ++ es) = keys (e :: es) := by rw [keys_append, keys_cons, hk]
  refine ⟨h.chg, h.dis, by rw [hkk]; exact h.nodup, fun k hm => h.fresh k (by rw [← hkk]; exact hm), fun f hf => ?_, fun f hf => ?_⟩
  · rcases List.mem_append.1 hf with h1 | h1
    · exact hok f h1
    · exact h.okx f (List.mem_cons_of_mem _ h1)
  · rcases List.mem_append.1 hf with h1 | h1
    · cases f with
      | ro F => exact (noRo_mem hro h1).elim
      | box b T cs => trivial
      | row R v xs => trivial
      | obj o => trivial
    · rw [hkk]; exact h.okr f (List.mem_cons_of_mem _ h1)
theorem Sat.cast1 {fs : List Ent} {e : Ent} (h : Sat w0 M A (fs ++ es) w) (hk : keys fs = e.kl) (hok : e.okx w) (hro : ∀ F, e ≠ .ro F) : Sat w0 M A (e :: es) w := by
  have hkk : keys (e :: es) = keys (fs ++ es) := by rw [keys_append, keys_cons, hk]
  refine ⟨h.chg, h.dis, by rw [hkk]; exact h.nodup, fun k hm => h.fresh k (by rw [← hkk]; exact hm), fun f hf => ?_, fun f hf => ?_⟩
  · rcases List.mem_cons.1 hf with h1 | h1
    · subst h1; exact hok
    · exact h.okx f (List.mem_append_right _ h1)
  · rcases List.mem_cons.1 hf with h1 | h1
    · subst h1
      cases f with
      | ro F => exact (hro F rfl).elim
      | box b T cs => trivial
      | row R v xs => trivial
      | obj o => trivial
    · rw [hkk]; exact h.okr f (List.mem_append_right _ h1)
theorem Sat.openB (h : Sat w0 M A (.obj (bldO Tb T8 b s l) :: es) w) : ∃ q, (q = none ∨ q = some ⟨b, 0, none⟩) ∧ (l = [] → s = nilS) ∧ (l ≠ [] → s.a ≠ none) ∧ Sat w0 M A (.box b Tb [.pointer q, s.v] :: .row (RB T8) s.v l :: es) w := by
  obtain ⟨h1, ⟨q, h2, h3⟩, h4, h5, h6⟩ : (bldO Tb T8 b s l).ok w := h.okx _ (List.mem_cons_self ..)
  refine ⟨q, h2, h5, h6, h.recast (fs := [.box b Tb [.pointer q, s.v], .row (RB T8) s.v l]) (by simp [keys, Ent.kl, bldO]) (fun f hf => ?_) rfl⟩
  simp only [List.mem_cons, List.not_mem_nil, or_false] at hf
  rcases hf with rfl | rfl
  · exact h3
  · exact h4
theorem Sat.closeB {q : Option Addr} (h : Sat w0 M A (.box b Tb [.pointer q, s.v] :: .row (RB T8) s.v l :: es) w) (hq : q = none ∨ q = some ⟨b, 0, none⟩) (h1 : l = [] → s = nilS) (h2 : l ≠ [] → s.a ≠ none) : Sat w0 M A (.obj (bldO Tb T8 b s l) :: es) w := by
  have hnd := h.nodup
  rw [keys_cons, keys_cons, ← List.append_assoc] at hnd
  have hnd1 := (List.nodup_append.1 hnd).1
  refine h.cast1 (fs := [.box b Tb [.pointer q, s.v], .row (RB T8) s.v l]) (e := .obj (bldO Tb T8 b s l)) (by simp [keys, Ent.kl, bldO]) ?_ (fun F h => by cases h)
  exact ⟨hnd1, ⟨q, hq, h.box (k := 0) rfl⟩, h.row (k := 1) rfl, h1, h2⟩
end
section
variable {P : Program} {Rp : Post} {K : List Lay} {N : NN} {l : Fr} {ops : Array Oper} {rest : List Oper} {d : Nat} {dd : Option Nat} {ty : Nat} {pos : String} {af : Array Edge} {g : Option (Nat × Bool)} {x y : Operand} {T T' T8 Tb b : TypeId} {c : Code}
variable {w0 : World} {M : List Nat} {A : Nat → Prop} {es : List Ent} {s : SV} {bs : List UInt8} {t : ByteArray} {k : Nat} {zs : List Value}
/-- append of a string's bytes -/
theorem run_app_str (hT : P.underlying T = some (.slice T8)) (hS : P.underlying T' = some .string) (hE : TyF P T8 false 1 1 [.int .u8 0]) {w : World} (hown : w.ownsRow 0 T8 1 s.v bs.length ((RB T8).cells bs)) (hl : bs.length + t.size ≤ 140737488355328) (hnil : bs = [] → s = nilS) :
    ∃ (s' : SV) (w' : World), (Builtin.append_ #[T, T'] ty #[s.v, .string t]).run P w = .ok s'.v w' ∧ w'.ownsRow 0 T8 1 s'.v (bs ++ t.data.toList).length ((RB T8).cells (bs ++ t.data.toList)) ∧ Chg s.v.ownBlock.toList w w' ∧
      (∀ b, s'.v.ownBlock = some b → w.heap.size ≤ b ∨ s.v.ownBlock = some b) ∧ (bs ++ t.data.toList = [] → s' = nilS) ∧ (bs ++ t.data.toList ≠ [] → s'.a ≠ none) := by
  obtain ⟨i, z, hi, hz, hzc, hsz, hby⟩ := hE.info
  have hts : t.data.toList.length = t.size := by simp
  have hbl : (bs ++ t.data.toList).length = bs.length + t.size := by rw [List.length_append, hts]
  have hcl : ((RB T8).cells (bs ++ t.data.toList)).length = bs.length + t.size := by rw [(RB T8).cells_len, hbl]; exact Nat.mul_one _
  have happ : (RB T8).cells (bs ++ t.data.toList) = (RB T8).cells bs ++ Lib.strCells t := by rw [(RB T8).cells_append, RB_str]
  have hzs : z.cells.size = 1 := by rw [hzc]; rfl
  by_cases h0 : t.size = 0
  · have ht : t.data.toList = [] := List.eq_nil_of_length_eq_zero (by rw [hts]; exact h0)
    rw [ht, List.append_nil]
    refine ⟨s, w, ?_, hown, Chg.refl _ _, fun b hb => .inr hb, hnil, fun hne => ?_⟩
    · have hle : s.n ≤ s.c := by
        rcases hown.2 with ⟨h5, h6⟩ | ⟨g, cap, cur, h5, _, _, h6, _⟩
        · injection h5 with _ h7 h8; omega
        · injection h5 with _ h7 h8; omega
      have hf := Lib.run_firstCells_string (P := P) w 1 t
      have hsc : Lib.strCells t = [] := by unfold Lib.strCells; rw [ht]; rfl
      rw [h0, hsc] at hf
      have hsz' : i.size = 1 := hsz
      simp only [SV.v]
      cases ha : s.a with
      | none => simp [Builtin.append_, run_underlying hT, run_underlying hS, sizeOf, typeInfo, hi, hsz', Builtin.lenOf, h0, hle, hf]
      | some a => simp [Builtin.append_, run_underlying hT, run_underlying hS, sizeOf, typeInfo, hi, hsz', Builtin.lenOf, h0, hle, hf, storeCells]
    · intro ha
      rcases hown.2 with ⟨h5, h6⟩ | ⟨g, cap, cur, h5, _⟩
      · exact hne (List.eq_nil_of_length_eq_zero h6)
      · injection h5 with h7; rw [ha] at h7; cases h7
  · have hne : bs ++ t.data.toList ≠ [] := fun h => by
      have := congrArg List.length h
      rw [hbl, List.length_nil] at this
      omega
    rcases hown.2 with ⟨h5, h6⟩ | ⟨g, cap, cur, h5, _, hg, hn, hcm, hcs, ht⟩
    · -- from nothing
      have hb0 : bs = [] := List.eq_nil_of_length_eq_zero h6
      subst hb0
      have hr := run_append_nil_string (P := P) w T T' ty T8 i z hT hS hi hz t (by omega) (by omega) (by rw [hby]; omega)
      have hge := grownCap_ge w t.size 0 T8
      have hcm := grownCap_le_maxLen w t.size 0 T8 (by unfold maxLen; omega)
      refine ⟨⟨some ⟨w.heap.size, 0, none⟩, t.size, grownCap w t.size 0 T8⟩, _, by rw [h5]; exact hr, ⟨by rw [hcl, hbl, Nat.mul_one], .inr ⟨w.heap.size, _, _, by rw [hbl]; simp [SV.v], Nat.zero_le _, Go.heap_alloc_new w.drew _, by rw [hbl]; simpa using hge, hcm, ?_, ?_⟩⟩, ⟨rfl, rfl, rfl, by simp, fun k hk _ => Below.heap_alloc w.drew _ k hk⟩, fun b hb => ?_, fun h => (hne h).elim, fun _ => by simp⟩
      · have := size_zeroCells' z.cells (grownCap w t.size 0 T8 - t.size)
        rw [hzs] at this
        simp only [Array.size_append, Array.size_map, this]
        have : t.data.size = t.size := rfl
        omega
      · rw [hbl, Nat.mul_one]
        simp only [List.length_nil, Nat.zero_add, Array.toList_append, Array.toList_map]
        rw [happ]
        have e : (RB T8).cells ([] : List UInt8) = [] := rfl
        rw [e, List.nil_append]
        have e2 : (Lib.strCells t).length = t.size := Lib.strCells_length t
        rw [← e2]
        exact List.take_left
      · simp only [Value.ownBlock, SV.v, Option.some.injEq] at hb
        exact .inl (by omega)
    · have hcells : ((RB T8).cells bs).length = bs.length := by rw [(RB T8).cells_len]; exact Nat.mul_one _
      rw [Nat.mul_one] at ht hcs
      by_cases hroom : bs.length + t.size ≤ cap
      · have hr := Lib.run_append_room_string (P := P) w T T' ty T8 i hT hS hi hsz g bs.length cap cur hg t hroom (by omega)
        refine ⟨⟨some ⟨g, 0, none⟩, bs.length + t.size, cap⟩, _, by rw [h5]; exact hr, ⟨by rw [hcl, hbl, Nat.mul_one], .inr ⟨g, cap, _, by rw [hbl], Nat.zero_le _, setRow_heap w g cur _ T8 _ hg, by rw [hbl]; exact hroom, hcm, ?_, ?_⟩⟩, ⟨rfl, rfl, rfl, by simp, fun k _ hk => setRow_other w g k _ (fun e => hk (by rw [h5]; simp [Value.ownBlock, e]))⟩, fun b hb => ?_, fun h => (hne h).elim, fun _ => by simp⟩
        · simp only [List.size_toArray, List.length_append, List.length_take, List.length_drop, Array.length_toList, Lib.strCells_length]
          omega
        · rw [hbl, Nat.mul_one, happ, ht]
          have : ((RB T8).cells bs ++ Lib.strCells t).length = bs.length + t.size := by rw [List.length_append, hcells, Lib.strCells_length]
          rw [← this]
          exact List.take_left
        · exact .inr (by rw [h5]; exact hb)
      · have holds : ∀ j u, ((RB T8).cells bs)[j]? = some u → w.cell? ((⟨g, 0, none⟩ : Addr).add j) = some u := hown.cells (g := g) (by rw [h5]; rfl)
        have hr := Lib.run_append_grow_string (P := P) w T T' ty T8 i z hT hS hi hz ⟨g, 0, none⟩ bs.length cap ((RB T8).cells bs) (by rw [hcells, hsz, Nat.mul_one]) holds t (by omega) (by omega) (by rw [hby]; exact growslice_fits (by omega) (by omega))
        have hge := grownCap_ge w (bs.length + t.size) cap T8
        have hcm2 := grownCap_le_maxLen w (bs.length + t.size) cap T8 (by unfold maxLen; omega)
        refine ⟨⟨some ⟨w.heap.size, 0, none⟩, bs.length + t.size, grownCap w (bs.length + t.size) cap T8⟩, _, by rw [h5]; exact hr, ⟨by rw [hcl, hbl, Nat.mul_one], .inr ⟨w.heap.size, _, _, by rw [hbl], Nat.zero_le _, Go.heap_alloc_new w.drew _, by rw [hbl]; exact hge, hcm2, ?_, ?_⟩⟩, ⟨rfl, rfl, rfl, by simp, fun k hk _ => Below.heap_alloc w.drew _ k hk⟩, fun b hb => ?_, fun h => (hne h).elim, fun _ => by simp⟩
        · have := size_zeroCells' z.cells (grownCap w (bs.length + t.size) cap T8 - (bs.length + t.size))
          rw [hzs] at this
          simp only [Array.size_append, List.size_toArray, hcells, Lib.strCells_length, this]
          omega
        · rw [hbl, Nat.mul_one, happ]
          have : ((RB T8).cells bs ++ Lib.strCells t).length = bs.length + t.size := by rw [List.length_append, hcells, Lib.strCells_length]
          simp only [Array.toList_append]
          rw [← this]
          exact List.take_left
        · simp only [Value.ownBlock, SV.v, Option.some.injEq] at hb
          exact .inl (by omega)
theorem r_apps (hT : P.underlying T = some (.slice T8)) (hS : P.underlying T' = some .string) (hE : TyF P T8 false 1 1 [.int .u8 0]) (hx : ev l x = some s.v) (hy : ev l y = some (.string t)) (hk : nth es k = some (.row (RB T8) s.v bs))
    (hl : bs.length + t.size ≤ 140737488355328) (hnil : bs = [] → s = nilS) (hd : Nat.blt d N.n = true)
    (h : ∀ s' : SV, (bs ++ t.data.toList = [] → s' = nilS) → (bs ++ t.data.toList ≠ [] → s'.a ≠ none) → LJ P Rp ops rest K N ((d, s'.v) :: l) (Sat w0 M A (setN es k (.row (RB T8) s'.v (bs ++ t.data.toList))))) :
    LJ P Rp ops (⟨some d, .call { callee := .builtin .append, args := #[x, y], argTypes := #[T, T'] }, ty, pos, af, none⟩ :: rest) K N l (Sat w0 M A es) := by
  intro a w hf hw
  refine wpList_plain rfl fun K' hK => ?_
  unfold Oper.wp
  obtain ⟨s', w', hrun, hown, hc, hkey, hn1, hn2⟩ := run_app_str (P := P) (ty := ty) hT hS hE (hw.row hk) hl hnil
  have : (execOp a.eval ⟨some d, .call { callee := .builtin .append, args := #[x, y], argTypes := #[T, T'] }, ty, pos, af, none⟩).run P w = .ok (.value s'.v) w' := by
    simp [execOp, resolve, invoke, builtin, hf.ev hx, hf.ev hy, hrun]
  rw [this]
  refine hK _ _ (h s' hn1 hn2 _ _ (hf.put hd _) (hw.swap hk hc hown (fun b hb => ?_) (fun F hF => by cases hF)))
  exact ⟨(World.ownsRow.lt hown b hb).2, hkey b hb⟩
/-- where the bytes lie -/
theorem p_usd {ats : Array TypeId} (hx : ev l x = some s.v) (hr : FactAt es (RdS (RB T8) s.v bs)) (hnil : bs = [] → s = nilS) :
    PureOp P N ⟨dd, .call { callee := .builtin .unsafeSliceData, args := #[x], argTypes := ats }, ty, pos, af, g⟩ l (Sat w0 M A es) (.pointer s.a) := fun a w hf hw => by
  have h1 : (Builtin.unsafeSliceData_ ats ty #[s.v]).run P w = .ok (.pointer s.a) w := by
    rcases (hr.get hw).2 with ⟨h2, _⟩ | ⟨b, off, cap, h2, h3, h4, _⟩
    · rw [hnil h2]; exact Lib.run_unsafeSliceData_nil w ats ty 0 0
    · injection h2 with h5 h6 h7
      simp only [SV.v, h5, h6, h7]
      by_cases h0 : bs = []
      · have := hnil h0
        rw [this] at h5; cases h5
      · have : 0 < bs.length := List.length_pos_iff.2 h0
        exact Lib.run_unsafeSliceData_row w ats ty _ _ _ (by omega)
  simp [execOp, resolve, invoke, builtin, hf.ev hx, h1]
/-- a string over bytes of ours, which are ours no more -/
theorem r_ustr {pt it Tn : TypeId} (hp : P.underlying pt = some (.pointer T8)) (hc : P.cellsOf T8 = 1) (hx : ev l x = some (.pointer s.a)) (hy : ev l y = some (.int .i64 bs.length)) {r : List Ent} (hk : pick1 es k = some (.row (RB T8) s.v bs, r)) (hnil : bs = [] → s = nilS) (hd : Nat.blt d N.n = true)
    (h : LJ P Rp ops rest K N ((d, .string ⟨bs.toArray⟩) :: l) (Sat w0 M A r)) :
    LJ P Rp ops (⟨some d, .call { callee := .builtin .unsafeString, args := #[x, y], argTypes := #[pt, it] }, Tn, pos, af, none⟩ :: rest) K N l (Sat w0 M A es) := by
  intro a w hf hw
  have hw1 := hw.perm (pick1_perm hk)
  have hrow : w.ownsRow 0 T8 1 s.v bs.length ((RB T8).cells bs) := hw1.row (k := 0) rfl
  refine wpList_plain rfl fun K' hK => ?_
  unfold Oper.wp
  by_cases h0 : bs = []
  · subst h0
    have hn := hnil rfl
    have hrun : (Builtin.unsafeString_ #[pt, it] Tn #[.pointer s.a, .int .i64 ((([] : List UInt8).length : Nat) : Int)]).run P w = .ok (.string ⟨#[]⟩) w := Lib.run_unsafeString_none w pt it Tn s.a
    have : (execOp a.eval ⟨some d, .call { callee := .builtin .unsafeString, args := #[x, y], argTypes := #[pt, it] }, Tn, pos, af, none⟩).run P w = .ok (.value (.string ⟨#[]⟩)) w := by
      simp only [List.length_nil] at hrun
      simp [execOp, resolve, invoke, builtin, hf.ev hx, hf.ev hy]
      rw [show (0 : Int) = ((0 : Nat) : Int) from rfl, hrun]; rfl
    rw [this]
    exact hK _ _ (h _ _ (hf.put hd _) (hw1.sublist (List.sublist_cons_self _ _)))
  · rcases hrow.2 with ⟨_, h6⟩ | ⟨g, cap, cur, h5, _, hg, hn, hcm, hcs, ht⟩
    · exact (h0 (List.eq_nil_of_length_eq_zero h6)).elim
    · injection h5 with h7 h8 h9
      have hsh : w.shape? g = some (T8, cur.size) := by simp [World.shape?, hg]
      have hrun := Lib.run_unsafeString_row (P := P) w pt it Tn T8 hp hc g cur.size hsh bs h0 (by omega) (by unfold maxLen at hcm; omega) (fun j x hx => by
        have := hrow.cells (g := g) (by simp only [SV.v, h7, h8, h9]; rfl) j (.int .u8 x.toNat) (by rw [RB_cells]; simp [hx])
        exact this)
      have : (execOp a.eval ⟨some d, .call { callee := .builtin .unsafeString, args := #[x, y], argTypes := #[pt, it] }, Tn, pos, af, none⟩).run P w = .ok (.value (.string ⟨bs.toArray⟩)) (w.freeze ⟨g, 0, none⟩ bs.length) := by
        simp [execOp, resolve, invoke, builtin, hf.ev hx, hf.ev hy, h7]
        rw [hrun]; rfl
      rw [this]
      refine hK _ _ (h _ _ (hf.put hd _) ?_)
      have hkl : Ent.kl (.row (RB T8) s.v bs) = [g] := by
        show s.v.ownBlock.toList = [g]
        simp only [SV.v, h7, h8, h9]
        rfl
      have hnd := hw1.nodup
      rw [keys_cons, hkl] at hnd
      have hc : Chg [g] w (w.freeze ⟨g, 0, none⟩ bs.length) := by
        unfold World.freeze
        split
        · exact Chg.refl _ _
        · refine ⟨rfl, rfl, rfl, by simp, fun b hb hbg => ?_⟩
          simp only [Array.getElem?_modify]
          rw [if_neg]
          intro e
          exact hbg (by simp [e])
      have := hw1.step (w' := w.freeze ⟨g, 0, none⟩ bs.length) [g] (fun k hk' => by rw [keys_cons, hkl]; exact List.mem_append_left _ hk') hc r [] (List.sublist_cons_self _ _) (fun k hk1 hk2 => by
        simp only [List.mem_singleton] at hk2
        subst hk2
        exact (List.nodup_append.1 hnd).2.2 k (List.mem_singleton.2 rfl) k hk1 rfl) List.nodup_nil (fun k hk => by cases hk) (fun e he => by cases he) (fun e he => by cases he)
      simpa using this
theorem cj_openB (h : ∀ q, (q = none ∨ q = some ⟨b, 0, none⟩) → (bs = [] → s = nilS) → (bs ≠ [] → s.a ≠ none) → CJ P Rp c K N l (Sat w0 M A (.box b Tb [.pointer q, s.v] :: .row (RB T8) s.v bs :: es))) :
    CJ P Rp c K N l (Sat w0 M A (.obj (bldO Tb T8 b s bs) :: es)) := fun a w hf hw => by
  obtain ⟨q, h1, h2, h3, h4⟩ := hw.openB
  exact h q h1 h2 h3 a w hf h4
theorem cj_closeB {q : Option Addr} (hq : q = none ∨ q = some ⟨b, 0, none⟩) (h1 : bs = [] → s = nilS) (h2 : bs ≠ [] → s.a ≠ none) (h : CJ P Rp c K N l (Sat w0 M A (.obj (bldO Tb T8 b s bs) :: es))) :
    CJ P Rp c K N l (Sat w0 M A (.box b Tb [.pointer q, s.v] :: .row (RB T8) s.v bs :: es)) := fun a w hf hw => h a w hf (hw.closeB hq h1 h2)
/-- a new builder -/
theorem r_alB {ag : Bool} {by_ : Nat} (hE' : TyF P Tb ag 2 by_ [.pointer none, .slice none 0 0]) (T8 : TypeId) (hd : Nat.blt d N.n = true) (h : ∀ b, LJ P Rp ops rest K N ((d, .pointer (some ⟨b, 0, none⟩)) :: l) (Sat w0 M A (.obj (bldO Tb T8 b nilS []) :: es))) :
    LJ P Rp ops (⟨some d, .alloc Tb, ty, pos, af, none⟩ :: rest) K N l (Sat w0 M A es) := by
  refine r_al hE' hd fun b => ?_
  intro a w hf hw
  have h1 := hw.nil_row (RB T8)
  have h2 := h1.perm (List.Perm.swap _ _ _)
  exact h b a w hf (Sat.closeB (s := nilS) (l := []) (q := none) h2 (.inl rfl) (fun _ => rfl) (fun h => (h rfl).elim))
end
end Go.J

/- J21: pointers against nil, against themselves, through unsafe.Pointer; a call that the model answers itself. No program in sight. -/
namespace Go.J
open Go Go.RowKit
section
variable {P : Program} {Rp : Post} {K : List Lay} {N : NN} {l : Fr} {ops : Array Oper} {rest : List Oper} {d : Nat} {dd : Option Nat} {ty : Nat} {pos : String} {af : Array Edge} {g : Option (Nat × Bool)} {x y : Operand} {T T' Te Tb : TypeId}
variable {w0 : World} {M : List Nat} {A : Nat → Prop} {es : List Ent} {H : World → Prop} {k b : Nat} {cs : List Value}
theorem p_eqpn {q : Option Addr} (hT : P.underlying T = some (.pointer Te)) (hx : ev l x = some (.pointer q)) (hy : ev l y = some (.pointer none)) : PureOp P N ⟨dd, .binOp .eql T x y T', ty, pos, af, g⟩ l H (.bool q.isNone) := p_bin hx hy fun w => by
  have hg : (eqGuard .eql T x y (.pointer q) (.pointer none)).run P w = .ok () w := by cases q <;> simp [eqGuard]
  have h : ∀ d, (Op.equalIn (d + 1) T (.pointer q) (.pointer none)).run P w = .ok q.isNone w := fun d => by
    cases q <;> simp [Op.equalIn, run_underlying hT]
  simp only [binOp]
  simp [hg, Op.equal, Op.maxDepth, h 9999]
theorem p_nepp {a : Addr} {j : TypeInfo} (hT : P.underlying T = some (.pointer Te)) (hj : P.info? Te = some j) (hx : ev l x = some (.pointer (some a))) (hy : ev l y = some (.pointer (some a))) : PureOp P N ⟨dd, .binOp .neq T x y T', ty, pos, af, g⟩ l H (.bool false) := p_bin hx hy fun w => by
  have hg : (eqGuard .neq T x y (.pointer (some a)) (.pointer (some a))).run P w = .ok () w := by simp [eqGuard]
  simp [hg, Lib.run_neq_ptr_same w a hT hj]
theorem Sat.shape {w : World} (hw : Sat w0 M A es w) (hk : nth es k = some (.box b Tb cs)) : w.shape? b = some (Tb, cs.length) := by
  have := hw.box hk
  simp [World.shape?, this]
theorem p_tousp {j : TypeInfo} {off : Nat} (hT : P.underlying T = some (.pointer Te)) (hT' : P.underlying T' = some .unsafePointer) (hj : P.info? Te = some j) (hj0 : j.size ≠ 0) (hk : nth es k = some (.box b Tb cs)) (ho : Nat.blt off cs.length = true) (hx : ev l x = some (.pointer (some ⟨b, off, none⟩))) :
    PureOp P N ⟨dd, .convert T T' x, ty, pos, af, g⟩ l (Sat w0 M A es) (.pointer (some ⟨b, off, none⟩)) := fun a w hf hw => by
  have h := Lib.run_to_unsafe (P := P) (w := w) ⟨b, off, none⟩ hT hT' hj hj0 (hw.shape hk) (by simpa [Nat.blt_eq] using ho)
  simp [execOp, hf.ev hx, h]
theorem p_frusp {j : TypeInfo} {off : Nat} (hT : P.underlying T = some .unsafePointer) (hT' : P.underlying T' = some (.pointer Te)) (hj : P.info? Te = some j) (hk : nth es k = some (.box b Tb cs)) (hl : liesAt P P.depth Tb (cs.length / P.cellsOf Tb) off Te 1 = true) (hx : ev l x = some (.pointer (some ⟨b, off, none⟩))) :
    PureOp P N ⟨dd, .convert T T' x, ty, pos, af, g⟩ l (Sat w0 M A es) (.pointer (some ⟨b, off, none⟩)) := fun a w hf hw => by
  have h := Lib.run_from_unsafe (P := P) (w := w) ⟨b, off, none⟩ hT hT' hj (hw.shape hk) hl
  simp [execOp, hf.ev hx, h]
theorem p_ext_call {f : FuncId} {c : Operand} {as : List Operand} {ats : Array TypeId} {avs : List Value} {v : Value} (hcf : ∀ w, (callFunc f avs.toArray).run P w = .ok (.value v) w) (hc : ev l c = some (.func (.func f) #[] #[])) (ha : evA l as = some avs) :
    PureOp P N ⟨dd, .call { callee := .value c, args := as.toArray, argTypes := ats }, ty, pos, af, g⟩ l H v := fun a w hf hw => by
  have h1 := hf.evA ha
  have h2 := hf.ev hc
  have h3 : as.toArray.map a.eval = avs.toArray := by rw [← h1]; simp
  simp [execOp, resolve, Deferred.ofValue, invoke, h2, h3, hcf]
end
end Go.J

/- J22: maps of plain things: a block of ours that holds a map; look, put, entry and store, delete, length. No program in sight. -/
namespace Go.J
open Go Go.RowKit
set_option linter.unusedSimpArgs false
set_option linter.unusedSectionVars false
/-! ### the plain side: a map is its entries, in the order in which they came -/
section
variable {K V V' : Type} [DecidableEq K]
def lkM (l : List (K × V)) (k : K) : Option V := (l.find? fun p => decide (p.1 = k)).map (·.2)
def hasM (l : List (K × V)) (k : K) : Bool := l.any fun p => decide (p.1 = k)
def putM (l : List (K × V)) (k : K) (v : V) : List (K × V) := if hasM l k then l.map (fun p => if p.1 = k then (k, v) else p) else l ++ [(k, v)]
def delM (l : List (K × V)) (k : K) : List (K × V) := l.filter fun p => !decide (p.1 = k)
def mpV (f : V → V') (l : List (K × V)) : List (K × V') := l.map fun p => (p.1, f p.2)
theorem hasM_iff (l : List (K × V)) (k : K) : hasM l k = true ↔ k ∈ l.map Prod.fst := by
  unfold hasM
  simp only [List.any_eq_true, decide_eq_true_eq, List.mem_map]
theorem lkM_some {l : List (K × V)} {k : K} {v : V} (hn : (l.map Prod.fst).Nodup) (i : Nat) (h : l[i]? = some (k, v)) : lkM l k = some v := by
  induction l generalizing i with
  | nil => cases h
  | cons p l ih =>
    simp only [List.map_cons, List.nodup_cons] at hn
    cases i with
    | zero => simp at h; subst h; simp [lkM]
    | succ i =>
      have h' : l[i]? = some (k, v) := by simpa using h
      have hne : p.1 ≠ k := fun e => hn.1 (by rw [e]; exact List.mem_map.2 ⟨(k, v), List.mem_of_getElem? h', rfl⟩)
      have := ih hn.2 i h'
      unfold lkM at this ⊢
      rw [List.find?_cons, decide_eq_false hne]
      exact this
end
/-! ### keys -/
structure KeyF (P : Program) (T : TypeId) {K : Type} [DecidableEq K] (kv : K → Value) : Prop where
  chk : ∀ em k w, (Instr.checkKey em 10000 T (kv k)).run P w = .ok () w
  eq : ∀ x y w, (Op.equal T (kv x) (kv y)).run P w = .ok (decide (x = y)) w
  now : ∃ d, P.underlying T = some d ∧ ((∀ x y, Instr.sameNow d (kv x) (kv y) = some (decide (x = y))) ∨ ∀ x y, Instr.sameNow d (kv x) (kv y) = none)
  same : ∀ k, Instr.sameBits 10000 (kv k) (kv k) = true
section
variable {P : Program} {T : TypeId} {K : Type} [DecidableEq K] {kv : K → Value}
def EL (kv : K → Value) (es : List MapEntry) (l : List (K × Value)) : Prop := es.map (fun e => (e.key, e.val)) = l.map fun p => (kv p.1, p.2)
end
/-! ### a map in a block of ours -/
section
variable {K : Type} [DecidableEq K]
structure MapAt (kv : K → Value) (b : Nat) (l : List (K × Value)) (es : Array MapEntry) (clock : Nat) (w : World) : Prop where
  heap : w.heap[b]? = some (.map es clock)
  el : EL kv es.toList l
  nd : (l.map Prod.fst).Nodup
  born : ∀ e ∈ es.toList, e.born < clock
  bnd : (es.toList.map (·.born)).Nodup
def mapO (kv : K → Value) (b : Nat) (l : List (K × Value)) (es : Array MapEntry) (clock : Nat) : OW := {
  ks := [b]
  ok := MapAt kv b l es clock
  stay := fun {w w'} h m => ⟨(h b (List.mem_singleton.2 rfl)).trans m.heap, m.el, m.nd, m.born, m.bnd⟩
  lt := fun {w} m k hkm => by
    rw [List.mem_singleton.1 hkm]
    exact (Array.getElem?_eq_some_iff.1 m.heap).1 }
/-- which entry was born as the n-th -/
def BornAt (l : List (K × Value)) (es : Array MapEntry) (k : K) (n : Nat) : Prop := ∃ (i : Nat) (e : MapEntry), es.toList[i]? = some e ∧ e.born = n ∧ ∃ v, l[i]? = some (k, v)
theorem EL.len {kv : K → Value} {es : List MapEntry} {l : List (K × Value)} (h : EL kv es l) : es.length = l.length := by
  have := congrArg List.length h
  simpa using this
theorem EL.set {kv : K → Value} {es : List MapEntry} {l : List (K × Value)} (h : EL kv es l) (i : Nat) (k : K) (v : Value) (f : MapEntry → MapEntry) (hf : ∀ e, es[i]? = some e → (f e).key = kv k ∧ (f e).val = v) :
    EL kv (es.modify i f) (l.set i (k, v)) := by
  unfold EL at h ⊢
  refine List.ext_getElem? fun j => ?_
  have hj := congrArg (·[j]?) h
  simp only [List.getElem?_map] at hj ⊢
  rw [List.getElem?_modify, List.getElem?_set]
  by_cases hij : i = j
  · subst hij
    rw [if_pos rfl]
    cases he : es[i]? with
    | none =>
      have : ¬ i < l.length := by
        rw [← EL.len h]
        exact fun hlt => by rw [List.getElem?_eq_getElem hlt] at he; cases he
      simp [this]
    | some e =>
      have : i < l.length := by
        rw [← EL.len h]
        exact (List.getElem?_eq_some_iff.1 he).1
      have h1 := hf e he
      simp [this, h1.1, h1.2]
  · rw [if_neg hij]
    simp only [if_neg hij]
    simpa using hj
theorem mod_born (es : List MapEntry) (i : Nat) (f : MapEntry → MapEntry) (hf : ∀ e, (f e).born = e.born) : (es.modify i f).map (·.born) = es.map (·.born) := by
  refine List.ext_getElem? fun j => ?_
  simp only [List.getElem?_map, List.getElem?_modify]
  by_cases hij : i = j
  · subst hij; cases es[i]? <;> simp [hf]
  · simp only [if_neg hij]; cases es[j]? <;> rfl
theorem MapAt.put {kv : K → Value} {b : Nat} {l : List (K × Value)} {es : Array MapEntry} {clock : Nat} {w w' : World} (m : MapAt kv b l es clock w) {i : Nat} {k : K} {v u : Value} (hi : l[i]? = some (k, u)) (f : MapEntry → MapEntry)
    (hf : ∀ e, es[i]? = some e → (f e).key = kv k ∧ (f e).val = v) (hb : ∀ e, (f e).born = e.born) (hw : w'.heap[b]? = some (.map (es.modify i f) clock)) : MapAt kv b (l.set i (k, v)) (es.modify i f) clock w' := by
  have hbm := mod_born es.toList i f hb
  refine ⟨hw, ?_, ?_, ?_, ?_⟩
  · rw [Array.toList_modify]
    exact m.el.set i k v f fun e he => hf e (by simpa using he)
  · have : (l.set i (k, v)).map Prod.fst = l.map Prod.fst := by
      rw [List.map_set]
      have h2 := List.getElem?_eq_some_iff.1 hi
      have h3 : k = (l.map Prod.fst)[i]'(by simpa using h2.1) := by simp [h2.2]
      show (l.map Prod.fst).set i k = _
      conv => lhs; rw [h3]
      rw [List.set_getElem_self]
    rw [this]; exact m.nd
  · rw [Array.toList_modify]
    intro e he
    have : e.born ∈ (es.toList.modify i f).map (·.born) := List.mem_map_of_mem he
    rw [hbm] at this
    obtain ⟨e', he', h⟩ := List.mem_map.1 this
    rw [← h]; exact m.born e' he'
  · rw [Array.toList_modify, hbm]; exact m.bnd
end
end Go.J

/- J23: what the program does with a map of ours. No program in sight. -/
namespace Go.J
open Go Go.RowKit
set_option linter.unusedSimpArgs false
set_option linter.unusedSectionVars false
section
variable {P : Program} {K : Type} [DecidableEq K] {kv : K → Value} {b : Nat} {l : List (K × Value)} {es : Array MapEntry} {clock : Nat} {w : World} {T E Tk : TypeId} {k : K} {z v : Value}
theorem MapAt.entry (m : MapAt kv b l es clock w) {i : Nat} {u : Value} (h : l[i]? = some (k, u)) : ∃ e, es.toList[i]? = some e ∧ e.key = kv k ∧ e.val = u := by
  have hj := congrArg (·[i]?) m.el
  simp only [List.getElem?_map, h] at hj
  cases he : es.toList[i]? with
  | none => rw [he] at hj; cases hj
  | some e =>
    rw [he] at hj
    simp at hj
    exact ⟨e, rfl, hj.1, hj.2⟩
end
section
variable {P : Program} {Rp : Post} {Kk : List Lay} {N : NN} {l : Fr} {ops : Array Oper} {rest : List Oper} {d : Nat} {dd : Option Nat} {ty : Nat} {pos : String} {af : Array Edge} {g : Option (Nat × Bool)} {x y u : Operand} {T E Tk : TypeId} {c : Code}
variable {w0 : World} {M : List Nat} {A : Nat → Prop} {es : List Ent} {j b : Nat} {K V : Type} [DecidableEq K] {kv : K → Value} {vv : V → Value} {L : List (K × V)} {k : K} {v z : V} {mes : Array MapEntry} {mcl : Nat}
theorem Sat.swapO {w w' : World} {o o' : OW} (h : Sat w0 M A es w) (hk : nth es j = some (.obj o)) (h1 : o.ks = [b]) (h2 : o'.ks = [b]) (hc : Chg [b] w w') (hok : o'.ok w') : Sat w0 M A (setN es j (.obj o')) w' := by
  have hlt : b < w.heap.size := o.lt (h.objAt hk) b (by rw [h1]; exact List.mem_singleton.2 rfl)
  refine h.swap' hk (by show Chg o.ks w w'; rw [h1]; exact hc) hok (by show o'.ks.Nodup; rw [h2]; simp) (fun q hq => ?_) (fun F hF => by cases hF)
  have hq' : q ∈ o'.ks := hq
  rw [h2] at hq'
  rw [List.mem_singleton.1 hq']
  exact ⟨Nat.lt_of_lt_of_le hlt hc.size, .inr (by show b ∈ o.ks; rw [h1]; exact List.mem_singleton.2 rfl)⟩
end
end Go.J

/- J24: what may be a map's key. No program in sight. -/
namespace Go.J
open Go Go.RowKit
set_option linter.unusedSimpArgs false
section
variable {P : Program} {T : TypeId}
end
theorem FactAt.map {es : List Ent} {K : Type} {kv : K → Value} [DecidableEq K] {b : Nat} {l : List (K × Value)} {mes : Array MapEntry} {mcl : Nat} (j : Nat) (h : nth es j = some (.obj (mapO kv b l mes mcl))) : FactAt es (MapAt kv b l mes mcl) := .obj j h
end Go.J

/- J25: 'for k, v := range m' over a map that stays as it is: any order of its entries. No program in sight. -/
namespace Go.J
open Go Go.RowKit
set_option linter.unusedSimpArgs false
set_option linter.unusedSectionVars false
/-- what comes out whatever the order -/
noncomputable def anyOrd {α β : Type} (L : List α) (f : List α → Option β) : Option β := by
  classical exact if h : ∃ r, ∀ L', L'.Perm L → f L' = some r then some h.choose else none
/-! ### the iterator -/
def bornOf (es : Array MapEntry) (i : Nat) : Nat := ((es[i]?).map (·.born)).getD 0
def itObj (b : Nat) (es : Array MapEntry) (clock : Nat) (idx : List Nat) : Obj := .mapIter (some b) clock (idx.map (bornOf es)).toArray clock
section
variable {P : Program} {K : Type} [DecidableEq K] {kv : K → Value} {b r : Nat} {l : List (K × Value)} {es : Array MapEntry} {clock : Nat} {w : World}
theorem MapAt.size (m : MapAt kv b l es clock w) : es.size = l.length := by
  have := EL.len m.el
  simpa using this
end
end Go.J

/- J26: 'for k, v := range m': the rules. No program in sight. -/
namespace Go.J
open Go Go.RowKit
set_option linter.unusedSimpArgs false
set_option linter.unusedSectionVars false
section
variable {P : Program} {K : Type} [DecidableEq K] {kv : K → Value} {b r : Nat} {l : List (K × Value)} {es : Array MapEntry} {clock : Nat} {w : World}
end
/-- the entries that were met, in the order in which they were met -/
def met {α : Type} (L : List α) (idx : List Nat) : List α := idx.filterMap (L[·]?)
section
variable {P : Program} {R : Post} {Kk : List Lay} {N : NN} {fr l : Fr} {ops : Array Oper} {rest : List Oper} {d : Nat} {dd : Option Nat} {ty : Nat} {pos : String} {af : Array Edge} {g : Option (Nat × Bool)} {x y u : Operand} {T E Tk : TypeId} {c : Code}
variable {w0 : World} {M : List Nat} {A : Nat → Prop} {es : List Ent} {j k b rb : Nat} {K V : Type} [DecidableEq K] {kv : K → Value} {vv : V → Value} {L : List (K × V)} {v z : V} {mes : Array MapEntry} {mcl : Nat}
end
end Go.J

/- J27: 'for k := range maps.Keys(m)': whatever the order. No program in sight. -/
namespace Go.J
open Go Go.RowKit
set_option linter.unusedSimpArgs false
set_option linter.unusedSectionVars false
/-- the library's closure -/
def keysCode (TM TK TF TB : Nat) (p q : String) : Code :=
  .seq (.region 0 #[⟨some 4, .load TM (.tmp 1), TM, p, #[], none⟩, ⟨some 5, .range TM (.tmp 4), 0, p, #[⟨0, .data⟩], none⟩] false)
    (.block 0 (.loop (.seq (.region 1 #[⟨some 6, .next (.tmp 5) false, 0, p, #[], none⟩, ⟨some 7, .extract (.tmp 6) 0, TB, p, #[⟨0, .data⟩], none⟩] false)
      (.seq (.cond (.tmp 7) .skip (.exit 0)) (.block 1 (.seq (.region 2 #[⟨some 8, .entry (.tmp 5), 0, p, #[], none⟩, ⟨some 9, .extract (.tmp 8) 0, TK, p, #[⟨0, .data⟩], none⟩, ⟨some 3, .assign (.tmp 9), TK, p, #[⟨1, .data⟩, ⟨0, .phase⟩, ⟨1, .phase⟩], none⟩] false)
        (.seq (.region 3 #[⟨some 10, .move (.tmp 0), TF, q, #[], none⟩, ⟨some 11, .move (.tmp 3), TK, q, #[], none⟩, ⟨some 12, .call { callee := .value (.tmp 10), args := #[.tmp 11], argTypes := #[TK] }, TB, q, #[⟨0, .data⟩, ⟨1, .data⟩], none⟩,
            ⟨some 13, .unOp .not TB (.tmp 12), TB, q, #[⟨2, .data⟩], none⟩] false) (.cond (.tmp 13) .ret .skip))))))))
section
variable {P : Program} {w0 : World} {M : List Nat} {A : Nat → Prop} {K V σ γ ρ β : Type} [DecidableEq K] {kv : K → Value} {vv : V → Value} {L : List (K × V)} {mes : Array MapEntry} {mcl mb : Nat} {fn : Func} {kb bx TM TE TK TF TB by2 : Nat} {p q : String} {zs2 : List Value}
end
end Go.J

/- J28: strings in order: comparing, sorting, compacting; all keys of a map. No program in sight. -/
namespace Go.G
open Go Go.J
set_option linter.unusedSimpArgs false
abbrev Bs := List UInt8
/-- what ends with a permutation -/
noncomputable def KfP {α ρ : Type} (L : List α) (f : Flow (List α) ρ) : Option Unit := by
  classical exact if ∃ L', L'.Perm L ∧ f = .brk L' then some () else none
def appStep {α ρ : Type} (by_ : Nat) (_ : Nat) (x : α) (u : List α) : Option (Flow (List α) ρ) := (appM by_ u [x]).bind fun q => some (.nxt q)
end Go.G

/- J29: room made ahead (slices.Grow of nil): cap of nil, append(nil, make(..)...), the cut of that room. No program in sight. -/
namespace Go.G
open Go Go.J
set_option linter.unusedSimpArgs false
/-- how often a closure may call itself -/
@[irreducible] def FUEL : Nat := 100000
/-- a row that was grown from nil by n: too long fails -/
def growM (by_ : Nat) (n : Int) : Option Unit := if 0 < n ∧ n.toNat * by_ ≤ 140737488355328 ∧ n.toNat ≤ maxLen then some () else none
theorem growM_spec {by_ : Nat} {n : Int} {u : Unit} (h : growM by_ n = some u) : ∃ k : Nat, n = k ∧ 0 < k ∧ k * by_ ≤ 140737488355328 ∧ k ≤ maxLen := by
  unfold growM at h
  split at h
  · rename_i h3
    exact ⟨n.toNat, by omega, by omega, h3.2.1, h3.2.2⟩
  · cases h
/-- a block of c elements, whatever they are -/
def spareO (T sz b c : Nat) : OW := {
  ks := [b]
  ok := fun w => c ≤ maxLen ∧ ∃ cur : Array Value, w.heap[b]? = some (.cells cur T (0, 0)) ∧ cur.size = c * sz
  stay := fun h hk => ⟨hk.1, by obtain ⟨cur, h1, h2⟩ := hk.2; exact ⟨cur, (h b (by simp)).trans h1, h2⟩⟩
  lt := fun h k hk => by
    simp at hk
    subst hk
    obtain ⟨cur, h1, -⟩ := h.2
    exact (Array.getElem?_eq_some_iff.1 h1).1 }
section
variable {P : Program} {α : Type} {R : Rep α} {Rp : Post} {K : List Lay} {N : NN} {l : Fr} {ops : Array Oper} {rest : List Oper} {d : Nat} {dd : Option Nat} {ty : Nat} {pos : String} {af : Array Edge} {g : Option (Nat × Bool)} {x y : Operand} {T Ti by_ : Nat} {zs : List Value}
variable {w0 : World} {M : List Nat} {A : Nat → Prop} {es : List Ent} {b c k n : Nat} {m : Int} {u : Unit}
theorem p_capN {H : World → Prop} {E : TypeId} (hT : P.underlying T = some (.slice E)) (hx : ev l x = some (.slice none 0 0)) :
    PureOp P N ⟨dd, .call { callee := .builtin .cap, args := #[x], argTypes := #[T] }, ty, pos, af, g⟩ l H (.int .i64 0) := fun a w hf hw => by
  simp [execOp, resolve, invoke, builtin, hf.ev hx, Builtin.cap_, run_underlying hT, goInt]
theorem r_growN {ag : Bool} (hT : P.underlying T = some (.slice R.T)) (hTi : P.underlying Ti = some (.int .i64)) (hE : TyF P R.T ag R.sz by_ zs) (hsz : 0 < R.sz) (hzs : zs.length = R.sz) (hx : ev l x = some (.slice none 0 0)) (hy : ev l y = some (.int .i64 m)) (hq : growM by_ m = some u) (hd : Nat.blt d N.n = true)
    (h : ∀ (b c n : Nat), n ≤ c → LJ P Rp ops rest K N ((d, .slice (some ⟨b, 0, none⟩) n c) :: l) (Sat w0 M A (.obj (spareO R.T R.sz b c) :: es))) :
    LJ P Rp ops (⟨some d, .call { callee := .builtin .append, args := #[x, y], argTypes := #[T, Ti] }, ty, pos, af, none⟩ :: rest) K N l (Sat w0 M A es) := by
  intro a w hf hw
  obtain ⟨n, rfl, h0, h1, h2⟩ := growM_spec hq
  obtain ⟨i, z, hi, hz, hzc, hs, hb⟩ := hE.info
  have hz2 : z.cells.size = R.sz := by rw [hzc]; simpa using hzs
  refine wpList_plain rfl fun K' hK => ?_
  have hr := Lib.run_append_nil_zeros (P := P) w T Ti ty R.T i z .i64 .i64 hT hTi hi hz n h0 (by omega) (by unfold maxLen at h2; omega) (by rw [hb]; omega)
  refine Lib.wp_append_run w x y T Ti rfl _ _ (hf.ev hx) (hf.ev hy) _ _ hr ?_
  have hge := grownCap_ge w n 0 R.T
  refine hK _ _ (h _ _ _ hge _ _ (hf.put hd _) ?_)
  have hal := hw.drew.allocO (.cells (Builtin.zeroCells z.cells n ++ Builtin.zeroCells z.cells (grownCap w n 0 R.T - n)) R.T)
  refine hal.swapO (j := 0) (b := w.heap.size) rfl rfl rfl ⟨rfl, rfl, rfl, Nat.le_refl _, fun _ _ _ => rfl⟩ ⟨grownCap_le_maxLen w n 0 R.T h2, _, hal.objAt (k := 0) rfl, ?_⟩
  simp only [Array.size_append, size_zeroCells', hz2, ← Nat.add_mul]
  congr 1
  omega
/-- nothing of the room is in use: an empty row -/
theorem r_cutG {ag : Bool} (hT : P.underlying T = some (.slice R.T)) (hE : TyF P R.T ag R.sz by_ zs) (hx : ev l x = some (.slice (some ⟨b, 0, none⟩) n c)) (hy : ev l y = some (.int .i64 0)) (hnc : n ≤ c) (hk : nth es k = some (.obj (spareO R.T R.sz b c))) (hd : Nat.blt d N.n = true)
    (h : ∀ s' : SV, LJ P Rp ops rest K N ((d, s'.v) :: l) (Sat w0 M A (setN es k (.row R s'.v [])))) :
    LJ P Rp ops (⟨some d, .slice T x none (some y) none, ty, pos, af, none⟩ :: rest) K N l (Sat w0 M A es) := by
  intro a w hf hw
  have hB := run_sliceBounds (P := P) (w := w) (c := c) (n := n) (a := 0) (b := 0) (lo := none) (hi := some (.int .i64 0)) (Nat.le_refl _) (Nat.zero_le _) hnc (.inr ⟨rfl, rfl⟩) (.inl rfl)
  refine wpList_plain rfl fun K' hK => ?_
  unfold Oper.wp
  have e1 : evO l (some y) = some (some (.int .i64 0)) := by simp [evO, hy]
  have : (execOp a.eval ⟨some d, .slice T x none (some y) none, ty, pos, af, none⟩).run P w = .ok (.value (SV.v ⟨some ⟨b, 0, none⟩, 0, c⟩)) w := by
    have hB2 : (Instr.sliceBounds true n c none (some (Value.int IntKind.i64 0)) none).run P w = .ok (0, 0, c) w := hB
    have e2 : (Instr.sliceAt T (.slice (some ⟨b, 0, none⟩) n c) none (some (.int .i64 0)) none).run P w = .ok (SV.v ⟨some ⟨b, 0, none⟩, 0, c⟩) w := by
      simp only [Instr.sliceAt, Sem.run_bind, run_underlying hT, Result.andThen_ok, Instr.slice, hB2, hE.size w, Sem.run_pure]
      simp [Addr.add]
    simp [execOp, hf.ev hx, hf.evO e1, e2]
  rw [this]
  refine hK _ _ (h ⟨some ⟨b, 0, none⟩, 0, c⟩ _ _ (hf.put hd _) ?_)
  obtain ⟨hm, cur, hcur, hcs⟩ := hw.objAt hk
  refine hw.swap' hk ⟨rfl, rfl, rfl, Nat.le_refl _, fun _ _ _ => rfl⟩ (e' := .row R (SV.v ⟨some ⟨b, 0, none⟩, 0, c⟩) []) ?_ (by simp [Ent.kl, Value.ownBlock]) ?_ (fun F hF => by cases hF)
  · exact ⟨by simp [Rep.cells], .inr ⟨b, c, cur, rfl, Nat.zero_le _, hcur, Nat.zero_le _, hm, hcs, by simp [Rep.cells]⟩⟩
  · intro q hq
    have : q = b := by simpa [Ent.kl, Value.ownBlock] using hq
    subst this
    exact ⟨(Array.getElem?_eq_some_iff.1 hcur).1, .inr (by simp [Ent.kl, spareO])⟩
end
end Go.G

/- J30: maps whose values lead to more of ours (rows of things, blocks with maps of their own): the map and all that its values lead to are one object. No program in sight. -/
namespace Go.J
open Go Go.RowKit
set_option linter.unusedSimpArgs false
set_option linter.unusedSectionVars false
section
variable {K X G : Type} [DecidableEq K]
/-! ### the plain side -/
def repM {V : Type} (l : List (K × V)) (k : K) (v : V) : List (K × V) := l.map fun p => if p.1 = k then (k, v) else p
theorem lkM_has {V : Type} (l : List (K × V)) (k : K) : hasM l k = (lkM l k).isSome := by
  unfold hasM lkM
  rw [Option.isSome_map, Bool.eq_iff_iff, List.find?_isSome, List.any_eq_true]
theorem lkM_mem {V : Type} {l : List (K × V)} {k : K} {v : V} (h : lkM l k = some v) : (k, v) ∈ l := by
  unfold lkM at h
  cases hf : l.find? fun p => decide (p.1 = k) with
  | none => rw [hf] at h; cases h
  | some p =>
    rw [hf] at h
    cases h
    have h1 := List.find?_some hf
    have h2 := List.mem_of_find?_eq_some hf
    simp at h1
    rw [← h1]; exact h2
/-! ### what the values lead to -/
def famEs (ents : X → G → List Ent) (xs : List (K × X)) (Z : List (K × G)) (hol : Option K) : List Ent :=
  (xs.zip Z).flatMap fun p => if hol = some p.1.1 then [] else ents p.1.2 p.2.2
def fem (ents : X → G → List Ent) (hol : Option K) (t : K × (X × G)) : List Ent := if hol = some t.1 then [] else ents t.2.1 t.2.2
variable (kv : K → Value) (vv : G → Value) (ents : X → G → List Ent) (b : Nat)
structure FamAt (xs : List (K × X)) (Z : List (K × G)) (hol : Option K) (es : Array MapEntry) (cl : Nat) (w : World) : Prop where
  map : MapAt kv b (mpV vv Z) es cl w
  kys : xs.map Prod.fst = Z.map Prod.fst
  own : ∀ e ∈ famEs ents xs Z hol, e.okx w
def famO (xs : List (K × X)) (Z : List (K × G)) (hol : Option K) (es : Array MapEntry) (cl : Nat) : OW := {
  ks := b :: keys (famEs ents xs Z hol)
  ok := FamAt kv vv ents b xs Z hol es cl
  stay := fun {w w'} h m => ⟨(mapO kv b (mpV vv Z) es cl).stay (fun k hk => h k (by rw [List.mem_singleton.1 hk]; exact List.mem_cons_self ..)) m.map, m.kys,
    fun e he => Ent.okx_of_block (m.own e he) fun k hk => h k (List.mem_cons_of_mem _ (mem_keys.2 ⟨e, he, hk⟩))⟩
  lt := fun {w} m k hk => by
    rcases List.mem_cons.1 hk with rfl | hk
    · exact (Array.getElem?_eq_some_iff.1 m.map.heap).1
    · obtain ⟨e, he, hek⟩ := mem_keys.1 hk
      exact Ent.okx_lt (m.own e he) hek }
variable {kv vv ents b}
theorem FamAt.ndZ {xs : List (K × X)} {Z : List (K × G)} {hol : Option K} {es : Array MapEntry} {cl : Nat} {w : World} (m : FamAt kv vv ents b xs Z hol es cl w) : (Z.map Prod.fst).Nodup := by
  have := m.map.nd
  rwa [show (mpV vv Z).map Prod.fst = Z.map Prod.fst by unfold mpV; rw [List.map_map]; rfl] at this
theorem FamAt.has {xs : List (K × X)} {Z : List (K × G)} {hol : Option K} {es : Array MapEntry} {cl : Nat} {w : World} (m : FamAt kv vv ents b xs Z hol es cl w) (k : K) : hasM Z k = hasM xs k := by
  rw [Bool.eq_iff_iff, hasM_iff, hasM_iff, m.kys]
theorem FamAt.len {xs : List (K × X)} {Z : List (K × G)} {hol : Option K} {es : Array MapEntry} {cl : Nat} {w : World} (m : FamAt kv vv ents b xs Z hol es cl w) : Z.length = xs.length := by
  have := congrArg List.length m.kys
  simpa using this.symm
theorem FamAt.lk {xs : List (K × X)} {Z : List (K × G)} {hol : Option K} {es : Array MapEntry} {cl : Nat} {w : World} (m : FamAt kv vv ents b xs Z hol es cl w) (k : K) :
    (lkM xs k = none ∧ lkM Z k = none) ∨ ∃ x g, lkM xs k = some x ∧ lkM Z k = some g := by
  have h := m.has k
  rw [lkM_has, lkM_has] at h
  cases h1 : lkM xs k with
  | none => rw [h1] at h; left; exact ⟨rfl, by simpa using h⟩
  | some x =>
    rw [h1] at h
    cases h2 : lkM Z k with
    | none => rw [h2] at h; cases h
    | some g => exact .inr ⟨x, g, rfl, rfl⟩
end
/-! ### the lists of what is ours, grouped anew -/
section
variable {w0 w w' : World} {M : List Nat} {A : Nat → Prop} {es es' rs : List Ent}
theorem Sat.regroup (h : Sat w0 M A es w) (hk : (keys es').Nodup) (hsub : ∀ k ∈ keys es', k ∈ keys es) (hok : ∀ e ∈ es', e.okx w) (hro : ∀ F, Ent.ro F ∈ es' → Ent.ro F ∈ es) : Sat w0 M A es' w :=
  ⟨h.chg, h.dis, hk, fun k hk' => h.fresh k (hsub k hk'), hok, fun e he => by
    cases e with
    | ro F => exact okr_congr (h.okr _ (hro F he)) fun _ hb => hsub _ hb
    | box b T cs => trivial
    | row R v xs => trivial
    | obj o => trivial⟩
/-- the entries 'a' in front become the entries 'a'' with (some of) the same blocks -/
theorem Sat.front {a a' : List Ent} (h : Sat w0 M A (a ++ rs) w) (hp : ∃ r, (keys a).Perm (keys a' ++ r)) (hok : ∀ e ∈ a', e.okx w) (hro : ∀ F, Ent.ro F ∉ a') : Sat w0 M A (a' ++ rs) w := by
  obtain ⟨r, hp⟩ := hp
  have hn := h.nodup
  rw [keys_append] at hn
  have hp2 : (keys a ++ keys rs).Perm (r ++ (keys a' ++ keys rs)) := by
    refine (hp.append_right _).trans ?_
    rw [← List.append_assoc]
    exact List.Perm.append_right _ List.perm_append_comm
  have hn2 := hp2.nodup_iff.1 hn
  rw [List.nodup_append] at hn2
  refine h.regroup (by rw [keys_append]; exact hn2.2.1) (fun k hk => ?_) (fun e he => ?_) (fun F hF => ?_)
  · rw [keys_append] at hk ⊢
    exact hp2.symm.subset (List.mem_append_right _ hk)
  · rcases List.mem_append.1 he with q | q
    · exact hok e q
    · exact h.okx e (List.mem_append_right _ q)
  · rcases List.mem_append.1 hF with q | q
    · exact absurd q (hro F)
    · exact List.mem_append_right _ q
end
section
variable {w0 w w' : World} {M : List Nat} {A : Nat → Prop} {es es' rs : List Ent} {K X G : Type} [DecidableEq K] {kv : K → Value} {vv : G → Value} {ents : X → G → List Ent} {b : Nat} {xs : List (K × X)} {Z : List (K × G)} {hol : Option K} {mes : Array MapEntry} {mcl : Nat} {k : K} {x : X} {g : G}
/-- what is to be put in, and what the map leads to beside it, as one object -/
def famP (kv : K → Value) (vv : G → Value) (ents : X → G → List Ent) (b : Nat) (Z : List (K × G)) (xs' : List (K × X)) (Z' : List (K × G)) (es : Array MapEntry) (cl : Nat) : OW := {
  ks := b :: keys (famEs ents xs' Z' none)
  ok := fun w => MapAt kv b (mpV vv Z) es cl w ∧ ∀ e ∈ famEs ents xs' Z' none, e.okx w
  stay := fun {w w'} h m => ⟨(mapO kv b (mpV vv Z) es cl).stay (fun k hk => h k (by rw [List.mem_singleton.1 hk]; exact List.mem_cons_self ..)) m.1,
    fun e he => Ent.okx_of_block (m.2 e he) fun k hk => h k (List.mem_cons_of_mem _ (mem_keys.2 ⟨e, he, hk⟩))⟩
  lt := fun {w} m k hk => by
    rcases List.mem_cons.1 hk with rfl | hk
    · exact (Array.getElem?_eq_some_iff.1 m.1.heap).1
    · obtain ⟨e, he, hek⟩ := mem_keys.1 hk
      exact Ent.okx_lt (m.2 e he) hek }
end
end Go.J

/- J31: what the program does with a map whose values lead to more of ours: the rules. No program in sight. -/
namespace Go.J
open Go Go.RowKit
set_option linter.unusedSimpArgs false
set_option linter.unusedSectionVars false
/-! ### rows as values -/
def rowE {α : Type} (R : Rep α) (xs : List α) (s : SV) : List Ent := [.row R s.v xs]
section
variable {P : Program} {Rp : Post} {Kk : List Lay} {N : NN} {l fr : Fr} {ops : Array Oper} {rest : List Oper} {d : Nat} {dd : Option Nat} {ty : Nat} {pos : String} {af : Array Edge} {g0 : Option (Nat × Bool)} {x y u : Operand} {T E Tk : TypeId} {c : Code}
variable {w0 : World} {M : List Nat} {A : Nat → Prop} {es rs : List Ent} {j b rb : Nat} {K X G : Type} [DecidableEq K] {kv : K → Value} {vv : G → Value} {ents : X → G → List Ent} {xs : List (K × X)} {Z : List (K × G)} {hol : Option K} {k : K} {z : G} {mes : Array MapEntry} {mcl : Nat}
theorem Sat.pick {w : World} (h : Sat w0 M A es w) (ks : List Nat) {ys r : List Ent} (hp : J.picks ks es = some (ys, r)) : Sat w0 M A (ys ++ r) w := h.perm (picks_perm hp)
end
/-! ### rows: read, taken out, given back -/
section
variable {w0 w : World} {M : List Nat} {A : Nat → Prop} {es rs : List Ent} {b : Nat} {K α : Type} [DecidableEq K] {kv : K → Value} {R : Rep α} {xs : List (K × List α)} {Z : List (K × SV)} {hol : Option K} {k : K} {mes : Array MapEntry} {mcl : Nat} {ys : List α}
theorem FamAt.row (m : FamAt kv SV.v (rowE R) b xs Z hol mes mcl w) (hh : hol ≠ some k) : w.ownsRow 0 R.T R.sz (SV.v ((lkM Z k).getD nilS)) ((lkM xs k).getD []).length (R.cells ((lkM xs k).getD [])) := by
  rcases m.lk k with ⟨h1, h2⟩ | ⟨y, g, h1, h2⟩
  · rw [h1, h2]; exact World.ownsRow_nil w 0 R.T R.sz
  · rw [h1, h2]
    refine m.own (.row R g.v y) ?_
    unfold famEs
    have hi := lkM_mem h1
    obtain ⟨i, hil, hie⟩ := List.getElem_of_mem hi
    have hzl : i < Z.length := by rw [m.len]; exact hil
    have hk : Z[i].1 = k := by
      have e1 : (xs.map Prod.fst)[i]'(by simpa using hil) = (Z.map Prod.fst)[i]'(by simpa using hzl) := by simp only [m.kys]
      simp only [List.getElem_map] at e1
      rw [← e1, hie]
    have hz : Z[i].2 = g := by
      have e2 : Z[i]? = some (k, Z[i].2) := by rw [List.getElem?_eq_getElem hzl, ← hk]
      have := lkM_some m.ndZ i e2
      rw [h2] at this
      exact (Option.some.inj this).symm
    refine List.mem_flatMap.2 ⟨(xs[i], Z[i]), List.mem_iff_getElem.2 ⟨i, by rw [List.length_zip]; omega, by rw [List.getElem_zip]⟩, ?_⟩
    rw [hie]
    simp only
    rw [if_neg hh, hz]
    exact List.mem_singleton.2 rfl
theorem FamAt.look (m : FamAt kv SV.v (rowE R) b xs Z none mes mcl w) (k : K) : RdS R (SV.v ((lkM Z k).getD nilS)) ((lkM xs k).getD []) w := RdS.of_row (m.row (by simp))
end
end Go.J

/- J32: 'for k, v := range m' over a map whose values lead to more of ours; the body may put values at keys that are there. No program in sight. -/
namespace Go.J
open Go Go.RowKit
set_option linter.unusedSimpArgs false
set_option linter.unusedSectionVars false
/-- the keys are the same, and so are the births -/
def KeptK {K G : Type} (ks : List K) (mes0 : Array MapEntry) (mcl0 : Nat) (Z : List (K × G)) (mes : Array MapEntry) (mcl : Nat) : Prop :=
  Z.map Prod.fst = ks ∧ mcl = mcl0 ∧ mes.toList.map (·.born) = mes0.toList.map (·.born)
section
variable {P : Program} {K : Type} [DecidableEq K] {kv : K → Value} {b : Nat} {l : List (K × Value)} {es : Array MapEntry} {clock : Nat} {w : World} {T E Tk : TypeId} {k : K} {v : Value}
end
section
variable {P : Program} {R : Post} {Kk : List Lay} {N : NN} {l fr : Fr} {ops : Array Oper} {rest : List Oper} {d : Nat} {dd : Option Nat} {ty : Nat} {pos : String} {af : Array Edge} {g0 : Option (Nat × Bool)} {x y u : Operand} {T E Tk : TypeId} {c : Code}
variable {w0 : World} {M : List Nat} {A : Nat → Prop} {es rs : List Ent} {j n b rb : Nat} {K X G : Type} [DecidableEq K] {kv : K → Value} {vv : G → Value} {ents : X → G → List Ent} {xs : List (K × X)} {Z : List (K × G)} {hol : Option K} {k : K} {z : G} {mes mes0 : Array MapEntry} {mcl mcl0 : Nat} {ks : List K}
theorem KeptK.has (h : KeptK ks mes0 mcl0 Z mes mcl) {i : Nat} (hi : ks[i]? = some k) : hasM Z k = true := by
  rw [hasM_iff, h.1]; exact List.mem_of_getElem? hi
theorem KeptK.refl (xs : List (K × X)) (h : xs.map Prod.fst = Z.map Prod.fst) : KeptK (xs.map Prod.fst) mes mcl Z mes mcl := ⟨h.symm, rfl, rfl⟩
end
end Go.J

/- J33: results that may be nil; pointers against nil; delete. No program in sight. -/
namespace Go.J
open Go Go.RowKit
set_option linter.unusedSimpArgs false
set_option linter.unusedSectionVars false
/-- what a pointer that may be nil leads to -/
def optE {α : Type} (o : Option α) (f : α → List Ent) : List Ent := match o with | none => [] | some t => f t
def optV {α : Type} (o : Option α) (v : Value) : Value := match o with | none => .pointer none | some _ => v
def optB {α β : Type} (o : Option α) (x : Option β) (f : α → Option β) : Option β := match o with | none => x | some t => f t
section
variable {P : Program} {Rp : Post} {Kk : List Lay} {N : NN} {l : Fr} {ops : Array Oper} {rest : List Oper} {d : Nat} {dd : Option Nat} {ty : Nat} {pos : String} {af : Array Edge} {g : Option (Nat × Bool)} {x y u : Operand} {T T' Te E Tk : TypeId} {H : World → Prop}
end
section
variable {P : Program} {K : Type} [DecidableEq K] {kv : K → Value} {b : Nat} {l : List (K × Value)} {es : Array MapEntry} {clock : Nat} {w : World} {T E Tk : TypeId} {k : K} {v : Value}
end
section
variable {P : Program} {Rp : Post} {Kk : List Lay} {N : NN} {l : Fr} {ops : Array Oper} {rest : List Oper} {d : Nat} {dd : Option Nat} {ty : Nat} {pos : String} {af : Array Edge} {x y : Operand} {T T' E Tk : TypeId}
variable {w0 : World} {M : List Nat} {A : Nat → Prop} {es : List Ent} {j b : Nat} {K V : Type} [DecidableEq K] {kv : K → Value} {vv : V → Value} {L : List (K × V)} {k : K} {mes : Array MapEntry} {mcl : Nat}
end
end Go.J

/- J34: cuts whose room ends where they end. No program in sight. -/
namespace Go.J
open Go Go.RowKit
section
variable {P : Program} {N : NN} {l : Fr} {dd : Option Nat} {ty : Nat} {pos : String} {af : Array Edge} {g : Option (Nat × Bool)} {x oh om : Operand} {T : TypeId}
variable {w0 : World} {M : List Nat} {A : Nat → Prop} {es : List Ent} {α : Type} {R : Rep α} {s : SV} {xs qs : List α} {lo hi : Int} {by_ : Nat} {zs : List Value}
end
end Go.J

/- J35: maps whose values are pointers to blocks of ours. No program in sight. -/
namespace Go.J
open Go Go.RowKit
set_option linter.unusedSimpArgs false
set_option linter.unusedSectionVars false
/-- what cannot be -/
def badO : OW := ⟨[], fun _ => False, fun _ h => h, fun h => h.elim⟩
def vvP {Q : Type} (h : Q → Nat) (g : Option Q) : Value := match g with | none => .pointer none | some q => .pointer (some ⟨h q, 0, none⟩)
def entsP {X Q : Type} (f : X → Q → List Ent) (x : X) (g : Option Q) : List Ent := match g with | none => [.obj badO] | some q => f x q
section
variable {K X G : Type} [DecidableEq K] {kv : K → Value} {vv : G → Value} {ents : X → G → List Ent} {b : Nat} {xs : List (K × X)} {Z : List (K × G)} {hol : Option K} {mes : Array MapEntry} {mcl : Nat} {k : K} {x : X} {g g' : G}
variable {w0 w : World} {M : List Nat} {A : Nat → Prop} {es rs : List Ent}
end
section
variable {K X Q : Type} [DecidableEq K] {kv : K → Value} {h : Q → Nat} {f : X → Q → List Ent} {b : Nat} {xs : List (K × X)} {Z : List (K × Option Q)} {hol : Option K} {mes : Array MapEntry} {mcl : Nat} {k : K} {t : X} {q q' : Q}
variable {P : Program} {Rp : Post} {Kk : List Lay} {N : NN} {l : Fr} {ops : Array Oper} {rest : List Oper} {d : Nat} {dd : Option Nat} {ty : Nat} {pos : String} {af : Array Edge} {g0 : Option (Nat × Bool)} {x y u : Operand} {T E Tk : TypeId} {c : Code}
variable {w0 : World} {M : List Nat} {A : Nat → Prop} {es rs : List Ent} {j : Nat}
end
end Go.J

/- J36: rows in what a pointer of a map leads to, read while the map is whole. No program in sight. -/
namespace Go.J
open Go Go.RowKit
section
variable {K X Q : Type} [DecidableEq K] {kv : K → Value} {h : Q → Nat} {f : X → Q → List Ent} {b : Nat} {xs : List (K × X)} {Z : List (K × Option Q)} {mes : Array MapEntry} {mcl : Nat} {k : K} {t : X} {q : Q}
end
end Go.J

/- J37: a new row that the library made; keys that are bools. No program in sight. -/
namespace Go.J
open Go Go.RowKit
set_option linter.unusedSimpArgs false
theorem Sat.newRowC {w0 w : World} {M : List Nat} {A : Nat → Prop} {es : List Ent} {α : Type} (R : Rep α) (h : Sat w0 M A es w) (xs : List α) (cap : Nat) {cs : List Value} (hcs : cs.take (xs.length * R.sz) = R.cells xs) (hcl : cs.length = cap * R.sz) (hle : xs.length ≤ cap) (hl : cap ≤ maxLen) :
    Sat w0 M A (.row R (SV.v ⟨some ⟨w.heap.size, 0, none⟩, xs.length, cap⟩) xs :: es) (w.alloc (.cells cs.toArray R.T)) := by
  have h1 := h.alloc R.T cs
  refine Sat.cast1 (fs := [.box w.heap.size R.T cs]) (e := .row R (SV.v ⟨some ⟨w.heap.size, 0, none⟩, xs.length, cap⟩) xs) h1 (by simp [keys, Ent.kl, SV.v, Value.ownBlock]) ?_ (fun F hF => by cases hF)
  have hb := h1.box (k := 0) rfl
  exact ⟨R.cells_len xs, .inr ⟨w.heap.size, cap, _, rfl, Nat.zero_le _, hb, hle, hl, by rw [List.size_toArray, hcl], hcs⟩⟩
theorem Sat.newRow {w0 w : World} {M : List Nat} {A : Nat → Prop} {es : List Ent} {α : Type} (R : Rep α) (h : Sat w0 M A es w) (xs : List α) {cs : List Value} (hcs : R.cells xs = cs) (hl : xs.length ≤ maxLen) :
    Sat w0 M A (.row R (SV.v ⟨some ⟨w.heap.size, 0, none⟩, xs.length, xs.length⟩) xs :: es) (w.alloc (.cells cs.toArray R.T)) := by
  subst hcs
  exact h.newRowC R xs xs.length (by rw [← R.cells_len xs]; exact List.take_length) (R.cells_len xs) (Nat.le_refl _) hl
end Go.J
