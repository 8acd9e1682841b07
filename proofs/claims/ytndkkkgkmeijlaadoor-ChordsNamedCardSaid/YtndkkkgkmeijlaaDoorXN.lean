/- XN: the library's functions that are met by contract (for the chords' names). -/
import Derived.Test.YtndkkkgkmeijlaaDoorXMN
import Derived.Test.YtndkkkgkmeijlaaDoorXC
import Derived.Test.YtndkkkgkmeijlaaDoorD
import Derived.Test.YtndkkkgkmeijlaaDoorShelf
import Derived.Lib.SmallJoins
namespace Go.Proofs.YtndkkkgkmeijlaaDoor
open Go Go.J Go.G
def PowT (w : World) : Prop := Lib.TabIs Tryd.prog w "internal/strconv.uint64pow10" .u64 Lib.pow10Tab
theorem ok_stringslite_IndexByte (a0 : ByteArray) (a1 : Int) {r : Int} (hm : m_stringslite_IndexByte a0 a1 = some r) :
    Ctr Tryd.prog 195 [.string a0, .int .u8 a1].toArray ([] : List Ent) [] (X := Unit) (fun _ => .int .i64 r) (fun _ => []) := by
  obtain rfl := Option.some.inj hm
  exact Ctr.of_below fun w _ => (Any.stringslite_IndexByte Tryd.lays217 a0 a1 w).mono fun e w' ⟨he, hw⟩ => ⟨he, by subst hw; exact .refl _ _⟩
theorem ok_strings_Trim (a0 a1 : ByteArray) {r : ByteArray} (hm : m_strings_Trim a0 a1 = some r) :
    Ctr Tryd.prog 144 [.string a0, .string a1].toArray ([] : List Ent) [] (X := Unit) (fun _ => .string r) (fun _ => []) := by
  unfold m_strings_Trim at hm
  split at hm
  · rename_i h
    obtain rfl := Option.some.inj hm
    exact Ctr.of_below fun w _ => (Any.strings_Trim_laid Tryd.lays160 (by kernel_rfl) a0 a1 w h.1 h.2.1 (ascii_of_all h.2.2)).mono fun e w' ⟨he, hw⟩ => ⟨he, hw⟩
  · cases hm
theorem ok_strconv_Atoi (a0 : ByteArray) {r : Int × Unit} (hm : m_strconv_Atoi a0 = some r) :
    Ctr Tryd.prog 145 [.string a0].toArray ([] : List Ent) [] (X := Unit) (fun _ => .tuple [.int .i64 r.1, .nilIface].toArray) (fun _ => []) := by
  unfold m_strconv_Atoi at hm
  split at hm
  · rename_i h
    cases hn : Lib.atoi a0.data.toList with
    | none => rw [hn] at hm; cases hm
    | some n =>
      rw [hn] at hm
      obtain rfl := Option.some.inj hm
      exact Ctr.of_below fun w _ => (Any.strconv_Atoi Tryd.lays172 a0 n h hn w).mono fun e w' ⟨he, t, hw⟩ => ⟨he, by subst hw; exact Go.Joins.below_bytesWorld _ _ _ _ (Nat.le_refl _)⟩
  · cases hm
theorem ok_strconv_Itoa (a0 : Int) {r : ByteArray} (hm : m_strconv_Itoa a0 = some r) :
    Ctr Tryd.prog 112 [.int .i64 a0].toArray ([] : List Ent) [PowT] (X := Unit) (fun _ => .string r) (fun _ => []) := by
  unfold m_strconv_Itoa at hm
  split at hm
  · rename_i h
    obtain rfl := Option.some.inj hm
    refine Ctr.of_below fun w hF => (Any.strconv_Itoa Tryd.laysM171 a0 h.1 h.2 w (hF _ (List.mem_cons_self ..))).mono fun e w' ⟨he, k, os, hw⟩ => ⟨he, ?_⟩
    subst hw
    exact ⟨rfl, rfl, rfl, by simp [Go.Sort.grow], fun j hj => by rw [Go.Sort.heap_grow_old _ _ (by simpa using hj)]; simp⟩
  · cases hm
end Go.Proofs.YtndkkkgkmeijlaaDoor
