/- J21: pointers against nil, against themselves, through unsafe.Pointer; a call that the model answers itself. No program in sight. -/
import Derived.Test.YtfgekmoffcobaaaGreatDoorJ20
import Derived.Lib.Builder
namespace Go.J
open Go Go.RowKit
section
variable {P : Program} {Rp : Post} {K : List Lay} {N : NN} {l : Fr} {ops : Array Oper} {rest : List Oper} {d : Nat} {dd : Option Nat} {ty : Nat} {pos : String} {af : Array Edge} {g : Option (Nat × Bool)} {x y : Operand} {T T' Te Tb : TypeId}
variable {w0 : World} {M : List Nat} {A : Nat → Prop} {es : List Ent} {H : World → Prop} {k b : Nat} {cs : List Value}
theorem p_eqpn {q : Option Addr} (hT : P.underlying T = some (.pointer Te)) (hx : ev l x = some (.pointer q)) (hy : ev l y = some (.pointer none)) : PureOp P N ⟨dd, .binOp .eql T x y T', ty, pos, af, g⟩ l H (.bool q.isNone) := p_bin hx hy fun w => by
  have hg : (eqGuard .eql T x y (.pointer q) (.pointer none)).run P w = .ok () w := by cases q <;> simp [eqGuard]
  have h : ∀ d, (Op.equalIn (d + 1) T (.pointer q) (.pointer none)).run P w = .ok q.isNone w := fun d => by
    cases q <;> simp [Op.equalIn, run_underlying hT]
  simp only [binOp]
  simp [hg, Op.equal, Op.maxDepth, h 9999]
theorem p_nepp {a : Addr} {j : TypeInfo} (hT : P.underlying T = some (.pointer Te)) (hj : P.info? Te = some j) (hx : ev l x = some (.pointer (some a))) (hy : ev l y = some (.pointer (some a))) : PureOp P N ⟨dd, .binOp .neq T x y T', ty, pos, af, g⟩ l H (.bool false) := p_bin hx hy fun w => by
  have hg : (eqGuard .neq T x y (.pointer (some a)) (.pointer (some a))).run P w = .ok () w := by simp [eqGuard]
  simp [hg, Lib.run_neq_ptr_same w a hT hj]
theorem Sat.shape {w : World} (hw : Sat w0 M A es w) (hk : nth es k = some (.box b Tb cs)) : w.shape? b = some (Tb, cs.length) := by
  have := hw.box hk
  simp [World.shape?, this]
theorem p_tousp {j : TypeInfo} {off : Nat} (hT : P.underlying T = some (.pointer Te)) (hT' : P.underlying T' = some .unsafePointer) (hj : P.info? Te = some j) (hj0 : j.size ≠ 0) (hk : nth es k = some (.box b Tb cs)) (ho : Nat.blt off cs.length = true) (hx : ev l x = some (.pointer (some ⟨b, off, none⟩))) :
    PureOp P N ⟨dd, .convert T T' x, ty, pos, af, g⟩ l (Sat w0 M A es) (.pointer (some ⟨b, off, none⟩)) := fun a w hf hw => by
  have h := Lib.run_to_unsafe (P := P) (w := w) ⟨b, off, none⟩ hT hT' hj hj0 (hw.shape hk) (by simpa [Nat.blt_eq] using ho)
  simp [execOp, hf.ev hx, h]
theorem p_frusp {j : TypeInfo} {off : Nat} (hT : P.underlying T = some .unsafePointer) (hT' : P.underlying T' = some (.pointer Te)) (hj : P.info? Te = some j) (hk : nth es k = some (.box b Tb cs)) (hl : liesAt P P.depth Tb (cs.length / P.cellsOf Tb) off Te 1 = true) (hx : ev l x = some (.pointer (some ⟨b, off, none⟩))) :
    PureOp P N ⟨dd, .convert T T' x, ty, pos, af, g⟩ l (Sat w0 M A es) (.pointer (some ⟨b, off, none⟩)) := fun a w hf hw => by
  have h := Lib.run_from_unsafe (P := P) (w := w) ⟨b, off, none⟩ hT hT' hj (hw.shape hk) hl
  simp [execOp, hf.ev hx, h]
theorem p_ext_call {f : FuncId} {c : Operand} {as : List Operand} {ats : Array TypeId} {avs : List Value} {v : Value} (hcf : ∀ w, (callFunc f avs.toArray).run P w = .ok (.value v) w) (hc : ev l c = some (.func (.func f) #[] #[])) (ha : evA l as = some avs) :
    PureOp P N ⟨dd, .call { callee := .value c, args := as.toArray, argTypes := ats }, ty, pos, af, g⟩ l H v := fun a w hf hw => by
  have h1 := hf.evA ha
  have h2 := hf.ev hc
  have h3 : as.toArray.map a.eval = avs.toArray := by rw [← h1]; simp
  simp [execOp, resolve, Deferred.ofValue, invoke, h2, h3, hcf]
end
end Go.J
