/- XX: the library's functions that are met by contract. -/
import Derived.Test.YtmcooogdeocldaaDoorXM
import Derived.Test.YtmcooogdeocldaaDoorXC
import Derived.Test.YtmcooogdeocldaaDoorD
import Derived.Test.YtmcooogdeocldaaDoorShelf
namespace Go.Proofs.YtmcooogdeocldaaDoor
open Go Go.J Go.G Go.Sort
set_option maxRecDepth 100000
theorem ok_bits_Len64 (a0 : Int) {r : Int} (hm : m_bits_Len64 a0 = some r) :
    Ctr Tryd.prog 64 [.int .u64 a0].toArray ([] : List Ent) [] (X := Unit) (fun _ => .int .i64 r) (fun _ => []) := by
  unfold m_bits_Len64 at hm
  split at hm
  · rename_i h
    obtain rfl := Option.some.inj hm
    exact Ctr.of_below fun w _ => (Any.bits_Len64 Tryd.lays129 a0 w h.1 h.2).mono fun e w' ⟨he, hw⟩ => ⟨he, by subst hw; exact ⟨.refl _ _, Nat.le_refl _⟩⟩
  · cases hm
def PowT (w : World) : Prop := Lib.TabIs Tryd.prog w "internal/strconv.uint64pow10" .u64 Lib.pow10Tab
theorem ok_strconv_Itoa (a0 : Int) {r : ByteArray} (hm : m_strconv_Itoa a0 = some r) :
    Ctr Tryd.prog 54 [.int .i64 a0].toArray ([] : List Ent) [PowT] (X := Unit) (fun _ => .string r) (fun _ => []) := by
  unfold m_strconv_Itoa at hm
  split at hm
  · rename_i h
    obtain rfl := Option.some.inj hm
    refine Ctr.of_below fun w hF => (Any.strconv_Itoa Tryd.laysM171 a0 h.1 h.2 w (hF _ (List.mem_cons_self ..))).mono fun e w' ⟨he, k, os, hw⟩ => ⟨he, ?_⟩
    subst hw
    exact ⟨⟨rfl, rfl, rfl, by simp [Go.Sort.grow], fun j hj => by rw [Go.Sort.heap_grow_old _ _ (by simpa using hj)]; simp⟩, Nat.le_add_right _ _⟩
  · cases hm
end Go.Proofs.YtmcooogdeocldaaDoor
