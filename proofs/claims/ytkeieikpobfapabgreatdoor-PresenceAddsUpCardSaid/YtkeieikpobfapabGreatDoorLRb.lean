/- LRb: wishes: what is wrong with them, what is wished (a search by halves); windows and pieces to be planned. In plain Lean, no program in sight. -/
import Derived.Test.YtkeieikpobfapabGreatDoorLRa
namespace Go.G
open Go Go.J
set_option linter.unusedSimpArgs false
set_option linter.unusedVariables false
def wiF (w : List TWish) (i : Nat) (x : TWish) : Int :=
 bif !isKey x.Piece then 5 else bif !decide (1 ≤ x.Need ∧ x.Need ≤ 86400000) then 1 else bif (if i = 0 then false else match w[i - 1]? with | some p => !decide (bytesOf p.Piece < bytesOf x.Piece) | none => false) then 7 else 0
def WiOK (w : List TWish) : Prop := w.length ≤ 200 ∧ ∀ (i : Nat) x, w[i]? = some x → wiF w i x = 0
def wishOf (w : List TWish) (p : ByteArray) : Option Int := (w.find? fun x => decide (x.Piece = p)).map (·.Need)
def frF (free : List TWindow) (i : Nat) (x : TWindow) : Int := bif !isT x then 1 else bif (if i = 0 then false else match free[i - 1]? with | some p => decide (x.From < p.To) | none => false) then 7 else 0
structure FrOK (free : List TWindow) (pieces : List ByteArray) : Prop where
 len : free.length ≤ 6
 ok : ∀ (i : Nat) x, free[i]? = some x → frF free i x = 0
 ne : free.length = 0 ∨ pieces.length ≠ 0
 pl : pieces.length ≤ 6
 rise : m_gleeref2_Rising pieces = some 0
end Go.G
