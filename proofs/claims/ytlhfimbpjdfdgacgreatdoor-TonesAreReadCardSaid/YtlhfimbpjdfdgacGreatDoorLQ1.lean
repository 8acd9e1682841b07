/- Plain laws of the models; no condition beyond what each theorem says. -/
import Derived.Test.YtlhfimbpjdfdgacGreatDoorLQ0
namespace Go.G
open Go Go.J
structure ItemOK (x : TItem) : Prop where
 long1 : 1 ≤ x.Long
 long2 : x.Long ≤ 86400000
 parts : x.Parts.length ≤ 12
structure ProgOK (p : TProgram) : Prop where
 len : p.Items.length ≤ 60
 item : ∀ (i : Nat) x, p.Items[i]? = some x → ItemOK x
 ch1 : 0 ≤ p.Change
 ch2 : p.Change ≤ 86400000
 cl1 : 0 ≤ p.Clap
 cl2 : p.Clap ≤ 86400000
 br1 : 0 ≤ p.Break
 br2 : p.Break ≤ 86400000
 half1 : -1 ≤ p.Half
 half2 : p.Half = -1 ∨ p.Half + 2 ≤ p.Items.length
def gap (p : TProgram) (i : Nat) : Int :=
 if (i : Int) = p.Half then p.Break else
  match p.Items[i]?, p.Items[i + 1]? with
  | some x, some y => if x.Places = y.Places then p.Clap else p.Change
  | _, _ => 0
def longI (p : TProgram) (i : Nat) : Int := match p.Items[i]? with | some x => x.Long | none => 0
def bg (p : TProgram) : Nat → Int
 | 0 => 0
 | i + 1 => bg p i + longI p i + (if i + 1 < p.Items.length then gap p i else 0)
end Go.G
