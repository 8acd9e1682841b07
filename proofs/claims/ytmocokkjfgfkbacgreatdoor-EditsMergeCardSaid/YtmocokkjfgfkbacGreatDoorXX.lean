/- XX: the library's functions that are met by contract. -/
import Derived.Test.YtmocokkjfgfkbacGreatDoorXM
import Derived.Test.YtmocokkjfgfkbacGreatDoorXC
import Derived.Test.YtmocokkjfgfkbacGreatDoorD
import Derived.Test.YtmocokkjfgfkbacGreatDoorShelf
namespace Go.Proofs.YtmocokkjfgfkbacGreatDoor
open Go Go.J Go.G Go.Sort
set_option maxRecDepth 100000
theorem ok_strings_IndexByte (a0 : ByteArray) (a1 : Int) {r : Int} (hm : m_strings_IndexByte a0 a1 = some r) :
    Ctr Tryz.prog 105 [.string a0, .int .u8 a1].toArray ([] : List Ent) [] (X := Unit) (fun _ => .int .i64 r) (fun _ => []) := by
  obtain rfl := Option.some.inj hm
  exact Ctr.of_below fun w _ => (Any.strings_IndexByte Tryz.lays137 a0 a1 w).mono fun e w' ⟨he, hw⟩ => ⟨he, by subst hw; exact ⟨.refl _ _, Nat.le_refl _⟩⟩
theorem ok_strings_Trim (a0 a1 : ByteArray) {r : ByteArray} (hm : m_strings_Trim a0 a1 = some r) :
    Ctr Tryz.prog 108 [.string a0, .string a1].toArray ([] : List Ent) [] (X := Unit) (fun _ => .string r) (fun _ => []) := by
  unfold m_strings_Trim at hm
  split at hm
  · rename_i h
    obtain rfl := Option.some.inj hm
    have h116 : (Tryz.prog.info? (Tryz.lays160_ren.t 116)).map (fun i => (i.zero, i.size)) = some (some (.agg (Array.replicate 256 (.bool false))), 256) := by kernel_rfl
    refine Ctr.of_below fun w _ => ?_
    by_cases hs0 : a0.size = 0
    · refine (Any.strings_Trim_empty Tryz.lays160 a0 a1 w (.inl hs0)).mono fun e w' ⟨h1, h2⟩ => ⟨?_, by subst h2; exact ⟨.refl _ _, Nat.le_refl _⟩⟩
      have hl : a0.data.toList = [] := List.eq_nil_of_length_eq_zero (by rw [← Lib.size_eq]; exact hs0)
      rw [h1, hl]
      congr 2
      rw [← Lib.mk_data a0, hl]
      rfl
    by_cases hc0 : a1.size = 0
    · refine (Any.strings_Trim_empty Tryz.lays160 a0 a1 w (.inr hc0)).mono fun e w' ⟨h1, h2⟩ => ⟨?_, by subst h2; exact ⟨.refl _ _, Nat.le_refl _⟩⟩
      have hl : a1.data.toList = [] := List.eq_nil_of_length_eq_zero (by rw [← Lib.size_eq]; exact hc0)
      rw [h1, hl, show Lib.trimS a0.data.toList [] = a0.data.toList from by unfold Lib.trimS; rw [Lib.trimRightS_none, Lib.trimLeftS_none], Lib.mk_data]
    by_cases hc1 : a1.size = 1
    · obtain ⟨c, hc⟩ : ∃ c, a1.data.toList = [c] := List.length_eq_one_iff.1 (by rw [← Lib.size_eq]; exact hc1)
      have hcut : a1 = ⟨#[c]⟩ := by rw [← Lib.mk_data a1, hc]
      have h128 : c.toNat < 128 := ascii_of_all h.2.2 0 c (by rw [hc]; rfl)
      rw [hc, Lib.trimS_one, hcut]
      exact (Any.strings_Trim_one Tryz.lays160 a0 c h128 w h.1).mono fun e w' ⟨h1, h2⟩ => ⟨h1, by
        rcases h2 with rfl | rfl
        · exact ⟨.refl _ _, Nat.le_refl _⟩
        · exact ⟨(Go.RowKit.Below.refl _ _).drew, Nat.le_succ _⟩⟩
    · refine (Any.strings_Trim_set Tryz.lays160 (zero_of_info h116).1 (zero_of_info h116).2 a0 a1 w (by omega) (by omega) h.1 h.2.1 (ascii_of_all h.2.2)).mono fun e w' ⟨h1, h2⟩ => ⟨h1, ?_⟩
      obtain ⟨q, rfl⟩ := h2
      exact ⟨(((Go.RowKit.Below.refl _ _).alloc (Nat.le_refl _) _).alloc (by simp) _).trans ⟨rfl, rfl, rfl, Nat.le_refl _, fun _ _ => rfl⟩, Nat.le_add_right _ _⟩
  · cases hm
theorem ok_strings_Compare (a0 a1 : ByteArray) {r : Int} (hm : m_strings_Compare a0 a1 = some r) :
    Ctr Tryz.prog 65 [.string a0, .string a1].toArray ([] : List Ent) [] (X := Unit) (fun _ => .int .i64 r) (fun _ => []) := by
  obtain rfl := Option.some.inj hm
  exact Ctr.of_below fun w _ => (Any.strings_Compare Tryz.lays106 a0 a1 w).mono fun e w' ⟨he, hw⟩ => ⟨he, by subst hw; exact ⟨.refl _ _, Nat.le_refl _⟩⟩
theorem ok_bits_Len64 (a0 : Int) {r : Int} (hm : m_bits_Len64 a0 = some r) :
    Ctr Tryz.prog 101 [.int .u64 a0].toArray ([] : List Ent) [] (X := Unit) (fun _ => .int .i64 r) (fun _ => []) := by
  unfold m_bits_Len64 at hm
  split at hm
  · rename_i h
    obtain rfl := Option.some.inj hm
    exact Ctr.of_below fun w _ => (Any.bits_Len64 Tryz.lays129 a0 w h.1 h.2).mono fun e w' ⟨he, hw⟩ => ⟨he, by subst hw; exact ⟨.refl _ _, Nat.le_refl _⟩⟩
  · cases hm
def UtfT (w : World) : Prop := Lib.Utf8Tabs 1 2 w
theorem ok_utf8_ValidString (a0 : ByteArray) {r : Bool} (hm : m_utf8_ValidString a0 = some r) :
    Ctr Tryz.prog 120 [.string a0].toArray ([] : List Ent) [UtfT] (X := Unit) (fun _ => .bool r) (fun _ => []) := by
  unfold m_utf8_ValidString at hm
  split at hm
  · rename_i h
    obtain rfl := Option.some.inj hm
    exact Ctr.of_below0 fun w hF => Any.utf8_ValidString Tryz.lays196 a0 w h (hF _ (List.mem_cons_self ..))
  · cases hm
end Go.Proofs.YtmocokkjfgfkbacGreatDoor
