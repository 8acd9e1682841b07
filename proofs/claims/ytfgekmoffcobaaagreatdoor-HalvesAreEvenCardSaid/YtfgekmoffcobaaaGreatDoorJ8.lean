/- J8: the models' partial operations, and their rules. No program in sight. -/
import Derived.Test.YtfgekmoffcobaaaGreatDoorJ7
import Derived.StillTail
import Derived.Laws.StructEq
namespace Go.J
open Go Go.RowKit
def quoM (a b : Int) : Option Int := if b = 0 then none else some (w64 (a.tdiv b))
def remM (a b : Int) : Option Int := if b = 0 then none else some (a.tmod b)
def catM (a b : ByteArray) : Option ByteArray := if a.size + b.size ≤ 9223372036854775807 then some (a ++ b) else none
section
variable {P : Program} {N : NN} {l : Fr} {H : World → Prop} {d : Option Nat} {ty : Nat} {pos : String} {af : Array Edge} {g : Option (Nat × Bool)} {x y : Operand} {m n r : Int} {T T' : TypeId} {s t u : ByteArray}
theorem p_quoM (h : quoM m n = some r) (hx : ev l x = some (.int .i64 m)) (hy : ev l y = some (.int .i64 n)) : PureOp P N ⟨d, .binOp .quo T x y T', ty, pos, af, g⟩ l H (.int .i64 r) := by
  unfold quoM at h
  split at h
  · cases h
  · cases h; exact p_quo hx hy ‹_›
theorem p_remM (h : remM m n = some r) (hx : ev l x = some (.int .i64 m)) (hy : ev l y = some (.int .i64 n)) : PureOp P N ⟨d, .binOp .rem T x y T', ty, pos, af, g⟩ l H (.int .i64 r) := by
  unfold remM at h
  split at h
  · cases h
  · cases h; exact p_rem hx hy ‹_›
theorem p_catM (h : catM s t = some u) (hx : ev l x = some (.string s)) (hy : ev l y = some (.string t)) : PureOp P N ⟨d, .binOp .add T x y T', ty, pos, af, g⟩ l H (.string u) := by
  unfold catM at h
  split at h
  · cases h; exact p_cat hx hy ‹_›
  · cases h
end
/-! ### structs compared -/
def EqV (P : Program) (d : Nat) (T : TypeId) (u v : Value) (b : Bool) : Prop := ∀ w, (Op.equalIn d T u v).run P w = .ok b w
def EqFs (P : Program) (d : Nat) (xs ys : Array Value) (fs : List Field) (b : Bool) : Prop := ∀ w, (Op.eqFields d xs ys fs).run P w = .ok b w
section
variable {P : Program} {d : Nat} {T : TypeId} {xs ys : Array Value} {fs : List Field} {f : Field} {b c : Bool} {k : IntKind}
theorem eqv_int (h : P.underlying T = some (.int k)) (m n : Int) : EqV P (d + 1) T (.int k m) (.int k n) (m == n) := fun w => run_equalIn_int w d T k k m n h
theorem eqv_bool (h : P.underlying T = some .bool) (m n : Bool) : EqV P (d + 1) T (.bool m) (.bool n) (m == n) := fun w => run_equalIn_bool w d T m n h
theorem eqv_str (h : P.underlying T = some .string) (m n : ByteArray) : EqV P (d + 1) T (.string m) (.string n) (m == n) := fun w => by rw [beq_toListBytes]; exact run_equalIn_string w d T m n h
theorem eqf_nil : EqFs P d xs ys [] true := fun _ => rfl
theorem eqf_cons (u v : Value) (hn : f.name ≠ "_") (hu : ∀ w, (part f.type xs f.offset).run P w = .ok u w) (hv : ∀ w, (part f.type ys f.offset).run P w = .ok v w) (h : EqV P d f.type u v b) (t : EqFs P d xs ys fs c) : EqFs P d xs ys (f :: fs) (b && c) := by
  intro w
  simp only [Op.eqFields, if_pos hn, Sem.run_bind, hu, hv, Result.andThen_ok, h w]
  cases b
  · simp
  · simpa using t w
theorem eqv_struct (hu : P.underlying T = some (.struct fs.toArray)) (hp : P.stoodInHeld T = false) (h : EqFs P d xs ys fs b) : EqV P (d + 1) T (.agg xs) (.agg ys) b := by
  have hf : P.fieldsOf T = fs.toArray := by unfold Program.fieldsOf; rw [hu]
  intro w
  rw [run_equalIn_struct w d T xs ys (by rw [hf]; exact hu) hp, hf]
  exact h w
theorem p_eqst {N : NN} {l : Fr} {H : World → Prop} {dd : Option Nat} {ty T' : Nat} {pos : String} {af : Array Edge} {g : Option (Nat × Bool)} {x y : Operand} (hm : P.eqGuardType P.depth T = false) (hx : ev l x = some (.agg xs)) (hy : ev l y = some (.agg ys)) (h : EqV P 10000 T (.agg xs) (.agg ys) b) :
    PureOp P N ⟨dd, .binOp .eql T x y T', ty, pos, af, g⟩ l H (.bool b) := p_bin hx hy fun w => by
  simp only [Sem.run_bind, run_eqGuard_agg w _ _ _ _ _ _ hm, Result.andThen_ok, run_eql_struct, h w]
theorem p_nest {N : NN} {l : Fr} {H : World → Prop} {dd : Option Nat} {ty T' : Nat} {pos : String} {af : Array Edge} {g : Option (Nat × Bool)} {x y : Operand} (hm : P.eqGuardType P.depth T = false) (hx : ev l x = some (.agg xs)) (hy : ev l y = some (.agg ys)) (h : EqV P 10000 T (.agg xs) (.agg ys) b) :
    PureOp P N ⟨dd, .binOp .neq T x y T', ty, pos, af, g⟩ l H (.bool (!b)) := p_bin hx hy fun w => by
  simp only [Sem.run_bind, run_eqGuard_agg w _ _ _ _ _ _ hm, Result.andThen_ok, run_neq_struct, h w]
end
/-! ### reads, then one write: regions that draw their order -/
def SJ (P : Program) (R : Post) (ops : Array Oper) (K : List Lay) (hd tl : List Oper) (N : NN) (l : Fr) (H : World → Prop) : Prop := ∀ a w, Frm N l a → H w → wpStill P ops w (fun a' => wpList P ops (QK P R K) tl a' w) hd a
section
variable {P : Program} {R : Post} {K : List Lay} {N : NN} {l : Fr} {H : World → Prop} {ops : Array Oper} {rest tl opl : List Oper} {d ty j e id : Nat} {op : Op} {pos : String} {af : Array Edge} {v : Value}
variable {w0 : World} {M : List Nat} {A : Nat → Prop} {es : List Ent}
/-- a head that only reads, then a tail in its written order: any order comes to the same -/
theorem wpS_tail {Q : Post} {a : Act} {w : World} (n : Nat) (hm : P.follows .mixedOrders = true) (hB : Region.lexTailB .any opl.toArray n = true)
    (h : wpStill P opl.toArray { w with drawn := w.drawn + 1 } (fun a' => wpList P opl.toArray Q (opl.drop n) a' { w with drawn := w.drawn + 1 }) (opl.take n) a) : Code.wpS P (.region id opl.toArray true) Q a w := by
  refine wpS_region_any hm ?_
  unfold Region.lexTailB at hB
  simp only [Bool.and_eq_true, decide_eq_true_eq, List.size_toArray] at hB
  have hlen := hB.1.1.1.2
  have hd : (opl.drop n).length = opl.toArray.size - n := by rw [List.length_drop, List.size_toArray]
  have ht : (opl.take n).length = n := List.length_take_of_le (Nat.le_of_lt hlen)
  have hfr : HeadInv .any opl.toArray n (Array.replicate opl.toArray.size false) := by
    refine ⟨by simp, fun j oj _ hl => ?_, fun t _ hlt => ?_⟩
    · rw [getD_replicate_false] at hl; cases hl
    · exact getD_in (by simpa using hlt) (getD_replicate_false _ _)
  have hget : ∀ j, j < (opl.take n).length → (opl.take n)[j]? = opl.toArray[0 + j]? := fun j hj => by
    rw [ht] at hj
    simp [hj]
  have hlex := hB.2
  have key := wpAnyL_lex (md := .any) (g := opl.toArray.size - n) hB.1.1.1.1 hB.1.1.2 hB.1.2 (by simpa using hlen) (opl.take n) 0 _ a hget (by rw [ht, Nat.zero_add]) hfr (by rw [ht]; simpa using hlex) h
  have tailed := wpAny_of_head (Q' := Q) (g := opl.toArray.size - n) (fun listed a' hL => by
    have e := wpAny_of_seq (md := .any) (Q' := Q) (opl.drop n) n listed a' { w with drawn := w.drawn + 1 } (fun j => by simp [List.getElem?_drop]) (by rw [hd]; exact hL.1) hL.2
    rw [hd] at e
    exact e) _ _ _ key
  have hs : (opl.take n).length + (opl.toArray.size - n) = opl.toArray.size := by rw [ht, List.size_toArray]; omega
  rw [hs] at tailed
  exact tailed
theorem cj_tail (n : Nat) (hm : P.follows .mixedOrders = true) (hB : Region.lexTailB .any opl.toArray n = true) (h : SJ P R opl.toArray K (opl.take n) (opl.drop n) N l (Sat w0 M A es)) : CJ P R (.region id opl.toArray true) K N l (Sat w0 M A es) :=
  fun a _ hf hw => wpS_tail n hm hB (h a _ hf hw.drew)
theorem s_nil (h : LJ P R ops tl K N l H) : SJ P R ops K [] tl N l H := fun a w hf hw => h a w hf hw
theorem s_p (hd : Nat.blt d N.n = true) (hp : PureOp P N ⟨some d, op, ty, pos, af, none⟩ l H v) (h : SJ P R ops K rest tl N ((d, v) :: l) H) : SJ P R ops K (⟨some d, op, ty, pos, af, none⟩ :: rest) tl N l H := by
  intro a w hf hw
  refine wpStill_step fun K' hK => ?_
  rw [if_pos (by simp [Region.wanted])]
  unfold Oper.still
  rw [hp a w hf hw]
  exact ⟨rfl, hK _ (h _ w (hf.put hd v) hw)⟩
end
end Go.J
