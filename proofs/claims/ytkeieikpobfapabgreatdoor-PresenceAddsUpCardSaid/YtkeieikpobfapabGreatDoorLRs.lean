/- LRs: slots that are drawn right are right. In plain Lean, no program in sight. -/
import Derived.Test.YtkeieikpobfapabGreatDoorLRd
import Derived.Test.YtkeieikpobfapabGreatDoorLRk
import Derived.Test.YtkeieikpobfapabGreatDoorLS2
namespace Go.G
open Go Go.J
set_option linter.unusedSimpArgs false
set_option linter.unusedVariables false
def hallS : ByteArray := ByteArray.mk [104, 97, 108, 108].toArray
def cellS : ByteArray := ByteArray.mk [99, 101, 108, 108, 97, 114].toArray
def altS : ByteArray := ByteArray.mk [97, 108, 116, 111].toArray
def basS : ByteArray := ByteArray.mk [98, 97, 115, 115].toArray
def keyS : List ByteArray := [(ByteArray.mk [115, 98].toArray), (ByteArray.mk [115, 97].toArray), (ByteArray.mk [115, 99].toArray), (ByteArray.mk [115, 100].toArray), (ByteArray.mk [115, 101].toArray)]
structure GdSl (x : TSlot) : Prop where
 key : x.Key ∈ keyS
 room : x.Room = hallS ∨ x.Room = cellS
 piece : x.Piece = gloB ∨ x.Piece = kyrB
 parts : x.Parts = [] ∨ x.Parts = [altS] ∨ x.Parts = [basS] ∨ x.Parts = [altS, basS]
 time : 0 ≤ x.Time.From ∧ x.Time.From < x.Time.To ∧ x.Time.To ≤ 100000
structure SlJ (p0 : Int) (i : Nat) (s : Int × Int × (List (ByteArray × Int)) × (List TSlot)) : Prop where
 a : 0 ≤ s.1 ∧ s.1 ≤ 200 * (i : Int)
 p : OKp (p0 + 20 * i) s.2.1
 f : ∀ k, 0 ≤ (lkM s.2.2.1 k).getD 0 ∧ (lkM s.2.2.1 k).getD 0 ≤ 200 * (i : Int)
 l : s.2.2.2.length ≤ i
 g : ∀ x ∈ s.2.2.2, GdSl x
 k : (s.2.2.2.map (·.Key)).Sublist (keyS.take i)
 r : ∀ x ∈ s.2.2.2, x.Time.To ≤ (lkM s.2.2.1 x.Room).getD 0
 c : s.2.2.2.Pairwise fun a b => a.Room = b.Room → a.Time.To ≤ b.Time.From
def ltSl (a b : TSlot) : Bool := decide (a.Time.From < b.Time.From) || (decide (a.Time.From = b.Time.From) && decide (bytesOf a.Key < bytesOf b.Key))
structure SlOK (l : List TSlot) : Prop where
 len : l.length ≤ 300
 sf : ∀ (i : Nat) x, l[i]? = some x → sF l i x = 0
 cf : ∀ (i : Nat) x, l[i]? = some x → conf l i x = false
theorem SlOK.rise {l : List TSlot} (h : SlOK l) : SlR l := sl_rise h.len h.sf
end Go.G
