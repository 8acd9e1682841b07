/- XM: the models of the library's functions that are met by contract. No program in sight. -/
import Derived.Test.YtlkpfhdlfapfhacGreatDoorJB
import Derived.Lib.Bytealg
import Derived.Lib.SlTrimSet
import Derived.Lib.Strings
import Derived.Lib.BitFns
import Derived.Lib.ItoaNum
import Derived.Lib.SlicesCompact
namespace Go.G
open Go Go.J
def m_strings_IndexByte (s:ByteArray) (c:Int):Option Int:=some (Lib.indexByte s.data.toList c.toNat.toUInt8)
def m_strings_Trim (s c:ByteArray):Option ByteArray :=
  if s.size≤9223372036854775807∧c.size<4294967281∧c.data.toList.all (fun b=>decide (b.toNat<128))=true then some ⟨(Lib.trimS s.data.toList c.data.toList).toArray⟩ else none
def bytesOf (s:ByteArray):List UInt8:=s.data.toList
def ofBytes (l:List UInt8):ByteArray:=⟨l.toArray⟩
noncomputable def m_slices_Sort_string_string (xs:List ByteArray):Option (List ByteArray):=if xs.length<4611686018427387904 then some (((xs.map bytesOf).mergeSort fun x y=>decide (x≤y)).map ofBytes) else none
theorem m_Sort_perm {a b:List ByteArray} (h:a.Perm b):m_slices_Sort_string_string a=m_slices_Sort_string_string b:=by
  unfold m_slices_Sort_string_string
  rw [h.length_eq,sortS_perm (h.map bytesOf)]
def m_strings_Compare (a b:ByteArray):Option Int:=some (Lib.compareBytes a.data.toList b.data.toList)
def m_bits_Len64 (x:Int):Option Int:=if 0≤x∧x≤18446744073709551615 then some (Lib.bitLen x.toNat) else none
def m_strconv_Itoa (n:Int):Option ByteArray:=if -9223372036854775808≤n∧n≤9223372036854775807 then some ⟨(Lib.itoa n).toArray⟩ else none
noncomputable def m_slices_Sort_int_int (xs:List Int):Option (List Int):=if xs.length<4611686018427387904 then some (xs.mergeSort fun x y=>decide (x≤y)) else none
noncomputable def m_slices_Compact_int_int (xs:List Int):Option (List Int):=if xs.length≤9223372036854775807 then some (Lib.compact xs) else none
theorem compact_le (zs:List Int):(Lib.compact zs).length≤zs.length:=by
  unfold Lib.compact Lib.compactUpTo
  rw [List.length_map]
  exact Nat.le_trans (List.length_filter_le ..) (by simp)
end Go.G
