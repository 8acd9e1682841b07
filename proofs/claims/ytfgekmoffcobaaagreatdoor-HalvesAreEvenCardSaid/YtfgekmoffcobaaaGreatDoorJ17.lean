/- J17: conversions; an error held against nil. No program in sight. -/
import Derived.Test.YtfgekmoffcobaaaGreatDoorJ16
namespace Go.J
open Go Go.RowKit
section
variable {P : Program} {N : NN} {l : Fr} {H : World → Prop} {dd : Option Nat} {ty : Nat} {pos : String} {af : Array Edge} {g : Option (Nat × Bool)} {x : Operand} {T T' : TypeId} {m : Int} {k k' : IntKind} {dS : TypeDesc}
theorem p_cvi (hS : P.underlying T = some dS) (hT : P.underlying T' = some (.int k)) (hx : ev l x = some (.int k' m)) : PureOp P N ⟨dd, .convert T T' x, ty, pos, af, g⟩ l H (.int k (k.wrap m)) := fun a w hf _ => by
  simp [execOp, hf.ev hx, convert, run_underlying hS, run_underlying hT, Conv.intToInt]
theorem p_cvs (hS : P.underlying T = some dS) (hT : P.underlying T' = some .string) (hx : ev l x = some (.int k' m)) : PureOp P N ⟨dd, .convert T T' x, ty, pos, af, g⟩ l H (.string (Utf8.encode m)) := fun a w hf _ => by
  simp [execOp, hf.ev hx, convert, run_underlying hS, run_underlying hT, Conv.intToString]
theorem p_eqni {ms : Array (String × TypeId)} (hT : P.underlying T = some (.interface ms)) (hm : P.methodsAt T = ms) (hx : ev l x = some .nilIface) : PureOp P N ⟨dd, .binOp .eql T x (.const .nilIface) T', ty, pos, af, g⟩ l H (.bool true) := p_bin hx rfl fun w => by
  have h := run_eql_nil_nil (P := P) w T (by rw [hm]; exact hT)
  have e : (eqGuard .eql T x (.const .nilIface) .nilIface .nilIface).run P w = .ok () w := by simp [eqGuard]
  simp [Sem.run_bind, e, h]
theorem p_neni {ms : Array (String × TypeId)} (hT : P.underlying T = some (.interface ms)) (hm : P.methodsAt T = ms) (hx : ev l x = some .nilIface) : PureOp P N ⟨dd, .binOp .neq T x (.const .nilIface) T', ty, pos, af, g⟩ l H (.bool false) := p_bin hx rfl fun w => by
  have h := run_neq_nil_nil (P := P) w T (by rw [hm]; exact hT)
  have e : (eqGuard .neq T x (.const .nilIface) .nilIface .nilIface).run P w = .ok () w := by simp [eqGuard]
  simp [Sem.run_bind, e, h]
end
end Go.J
