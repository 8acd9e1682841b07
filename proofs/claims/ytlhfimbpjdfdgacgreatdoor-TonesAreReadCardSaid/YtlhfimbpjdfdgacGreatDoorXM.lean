/- Contracts of library functions; no condition. -/
import Derived.Test.YtlhfimbpjdfdgacGreatDoorJB
import Derived.Lib.Bytealg
import Derived.Lib.SlTrimSet
import Derived.Lib.Strings
import Derived.Lib.ItoaNum
import Derived.Lib.Atoi
import Derived.Lib.ValidU
import Derived.Lib.Join
import Derived.Lib.CountLaws
import Derived.Lib.SplitLaws
namespace Go.G
open Go Go.J
def m_strings_IndexByte (s : ByteArray) (c : Int) : Option Int := some (Lib.indexByte s.data.toList c.toNat.toUInt8)
def m_strings_Trim (s c : ByteArray) : Option ByteArray :=
  if s.size ≤ 9223372036854775807 ∧ c.size < 4294967281 ∧ c.data.toList.all (fun b => decide (b.toNat < 128)) = true then some ⟨(Lib.trimS s.data.toList c.data.toList).toArray⟩ else none
def bytesOf (s : ByteArray) : List UInt8 := s.data.toList
def ofBytes (l : List UInt8) : ByteArray := ⟨l.toArray⟩
noncomputable def m_slices_Sort_string_string (xs : List ByteArray) : Option (List ByteArray) := if xs.length < 4611686018427387904 then some (((xs.map bytesOf).mergeSort fun x y => decide (x ≤ y)).map ofBytes) else none
theorem m_Sort_perm {a b : List ByteArray} (h : a.Perm b) : m_slices_Sort_string_string a = m_slices_Sort_string_string b := by
  unfold m_slices_Sort_string_string
  rw [h.length_eq, sortS_perm (h.map bytesOf)]
def m_strings_Compare (a b : ByteArray) : Option Int := some (Lib.compareBytes a.data.toList b.data.toList)
def m_strconv_Itoa (n : Int) : Option ByteArray := if -9223372036854775808 ≤ n ∧ n ≤ 9223372036854775807 then some ⟨(Lib.itoa n).toArray⟩ else none
def m_stringslite_IndexByte (s : ByteArray) (c : Int) : Option Int := some (Lib.indexByte s.data.toList c.toNat.toUInt8)
def m_strconv_Atoi (s : ByteArray) : Option (Int × Unit) := if s.size ≤ 18 then (Lib.atoi s.data.toList).map fun n => (n, ()) else none
noncomputable def m_utf8_ValidString (s : ByteArray) : Option Bool := if s.size ≤ 9223372036854775807 then some (Lib.validD s.data.toList) else none
def m_bWriteString (c t : ByteArray) : Option ByteArray := if c.size + t.size ≤ 140737488355328 then some (c ++ t) else none
def m_strings_Join (xs : List ByteArray) (sep : ByteArray) : Option ByteArray := if xs.length ≤ 140737488355328 ∧ (Lib.join (xs.map (·.data.toList)) sep.data.toList).length ≤ 140737488355328 then some ⟨(Lib.join (xs.map (·.data.toList)) sep.data.toList).toArray⟩ else none
def m_strings_Split (s sep : ByteArray) : Option (List ByteArray) := if s.size < 4294967281 ∧ 1 ≤ sep.size then some (Lib.splitB sep 0 (Lib.countB s sep) s) else none
end Go.G
