/- LH3: Of is ChordsOf. In plain Lean, no program in sight. -/
import Derived.Test.YthonhgainmokhacGreatDoorLH2
namespace Go.G
open Go Go.J
noncomputable def TT (r k : Nat) : List Int := (m_chord_tones ⟨r, k, 0⟩).getD []
noncomputable def IX (r k : Nat) (v : Int) : Int := (m_slices_Index_int_int (TT r k) v).getD 0
noncomputable def GP (a : List Int) (v : Int) (r k : Nat) : List TChord := if S (TT r k) = a then [⟨r, k, IX r k v⟩] else []
def AC (r k : Nat) : List TChord := (List.range (klen k)).map fun t : Nat => ⟨r, k, (t : Int)⟩
noncomputable def TO (c : TChord) : List Int := (m_gleeref2_TonesOf c).getD []
noncomputable def dC (a : List Int) (v : Int) (c : TChord) : Bool := !(decide (S (TO c) = a) && decide ((TO c)[0]? = some v))
end Go.G
