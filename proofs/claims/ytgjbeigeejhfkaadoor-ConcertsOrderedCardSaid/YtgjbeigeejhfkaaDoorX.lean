/- X: the library's functions that are met by contract. -/
import Derived.Test.YtgjbeigeejhfkaaDoorXM
import Derived.Test.YtgjbeigeejhfkaaDoorXC
import Derived.Test.YtgjbeigeejhfkaaDoorD
import Derived.Test.YtgjbeigeejhfkaaDoorShelf
namespace Go.Proofs.YtgjbeigeejhfkaaDoor
open Go Go.J Go.G
theorem ok_strings_IndexByte (a0 : ByteArray) (a1 : Int) {r : Int} (hm : m_strings_IndexByte a0 a1 = some r) :
    Ctr Tryd.prog 76 [.string a0, .int .u8 a1].toArray ([] : List Ent) [] (X := Unit) (fun _ => .int .i64 r) (fun _ => []) := by
  obtain rfl := Option.some.inj hm
  exact Ctr.of_below fun w _ => (Any.strings_IndexByte Tryd.lays137 a0 a1 w).mono fun e w' ⟨he, hw⟩ => ⟨he, by subst hw; exact .refl _ _⟩
theorem ok_strings_Trim (a0 a1 : ByteArray) {r : ByteArray} (hm : m_strings_Trim a0 a1 = some r) :
    Ctr Tryd.prog 77 [.string a0, .string a1].toArray ([] : List Ent) [] (X := Unit) (fun _ => .string r) (fun _ => []) := by
  unfold m_strings_Trim at hm
  split at hm
  · rename_i h
    obtain rfl := Option.some.inj hm
    exact Ctr.of_below fun w _ => (Any.strings_Trim_laid Tryd.lays160 (by kernel_rfl) a0 a1 w h.1 h.2.1 (ascii_of_all h.2.2)).mono fun e w' ⟨he, hw⟩ => ⟨he, hw⟩
  · cases hm
end Go.Proofs.YtgjbeigeejhfkaaDoor
