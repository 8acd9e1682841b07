/- XM: the models of the library's functions that are met by contract. No program in sight. -/
import Derived.Test.YtlkpfhdlfapfhadGreatDoorJB
import Derived.Lib.Bytealg
import Derived.Lib.SlTrimSet
import Derived.Lib.Strings
import Derived.Lib.BitFns
import Derived.Lib.ItoaNum
import Derived.Lib.Atoi
import Derived.Lib.Join
import Derived.Lib.CountLaws
import Derived.Lib.SplitLaws
namespace Go.G
open Go Go.J
def H1 (s:ByteArray) (c:Int):Option Int:=some (Lib.indexByte s.data.toList c.toNat.toUInt8)
def X6 (s c:ByteArray):Option ByteArray :=
  if s.size≤9223372036854775807∧c.size<4294967281∧c.data.toList.all (fun b=>decide (b.toNat<128))=true then some ⟨(Lib.trimS s.data.toList c.data.toList).toArray⟩ else none
def D6 (s:ByteArray):List UInt8:=s.data.toList
def ag7 (l:List UInt8):ByteArray:=⟨l.toArray⟩
noncomputable def o8 (xs:List ByteArray):Option (List ByteArray):=if xs.length<4611686018427387904 then some (((xs.map D6).mergeSort fun x y=>decide (x≤y)).map ag7) else none
theorem aT4 {a b:List ByteArray} (h:a.Perm b):o8 a=o8 b:=by
  unfold o8
  rw [h.length_eq,br6 (h.map D6)]
def D9 (a b:ByteArray):Option Int:=some (Lib.compareBytes a.data.toList b.data.toList)
def al6 (x:Int):Option Int:=if 0≤x∧x≤18446744073709551615 then some (Lib.bitLen x.toNat) else none
def l2 (n:Int):Option ByteArray:=if -9223372036854775808≤n∧n≤9223372036854775807 then some ⟨(Lib.itoa n).toArray⟩ else none
def ak4 (s:ByteArray) (c:Int):Option Int:=some (Lib.indexByte s.data.toList c.toNat.toUInt8)
def al5 (s:ByteArray):Option (Int × Unit):=if s.size≤18 then (Lib.atoi s.data.toList).map fun n=>(n,()) else none
def ah0 (x y:Int):Option (Int × Int):=if 0≤x∧x<18446744073709551616∧0≤y∧y<18446744073709551616 then some (((x.toNat*y.toNat / 18446744073709551616:Nat):Int),((x.toNat*y.toNat % 18446744073709551616:Nat):Int)) else none
def af9 (c t:ByteArray):Option ByteArray:=if c.size+t.size≤140737488355328 then some (c++t) else none
def af2 (xs:List ByteArray) (sep:ByteArray):Option ByteArray:=if xs.length≤140737488355328∧(Lib.join (xs.map (·.data.toList)) sep.data.toList).length≤140737488355328 then some ⟨(Lib.join (xs.map (·.data.toList)) sep.data.toList).toArray⟩ else none
def E6 (s sep:ByteArray):Option (List ByteArray):=if s.size<4294967281∧1≤sep.size then some (Lib.splitB sep 0 (Lib.countB s sep) s) else none
end Go.G
