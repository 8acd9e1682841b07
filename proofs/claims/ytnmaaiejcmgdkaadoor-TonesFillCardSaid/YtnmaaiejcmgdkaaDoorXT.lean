/- XT: the library's functions that are met by contract (for the tones' rows). -/
import Derived.Test.YtnmaaiejcmgdkaaDoorXMT
import Derived.Test.YtnmaaiejcmgdkaaDoorXC
import Derived.Test.YtnmaaiejcmgdkaaDoorD
import Derived.Test.YtnmaaiejcmgdkaaDoorShelf
namespace Go.Proofs.YtnmaaiejcmgdkaaDoor
open Go Go.J Go.G
def UtfT (w : World) : Prop := Lib.Utf8Tabs 0 1 w
theorem ok_utf8_ValidString (a0 : ByteArray) {r : Bool} (hm : m_utf8_ValidString a0 = some r) :
    Ctr Tryd.prog 99 [.string a0].toArray ([] : List Ent) [UtfT] (X := Unit) (fun _ => .bool r) (fun _ => []) := by
  unfold m_utf8_ValidString at hm
  split at hm
  · rename_i h
    obtain rfl := Option.some.inj hm
    exact Ctr.of_below fun w hF => Any.utf8_ValidString Tryd.lays196 a0 w h (hF _ (List.mem_cons_self ..))
  · cases hm
end Go.Proofs.YtnmaaiejcmgdkaaDoor
