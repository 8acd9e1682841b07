/- XX: the library's functions that are met by contract. -/
import Derived.Test.YthonhgainmokhabDoorXM
import Derived.Test.YthonhgainmokhabDoorXC
import Derived.Test.YthonhgainmokhabDoorD
import Derived.Test.YthonhgainmokhabDoorShelf
import Derived.Sort.OwnSortedInts
import Derived.Sort.OwnSorted
namespace Go.Proofs.YthonhgainmokhabDoor
open Go Go.J Go.G Go.Sort
set_option maxRecDepth 100000
def PowT (w : World) : Prop := Lib.TabIs Tryd.prog w "internal/strconv.uint64pow10" .u64 Lib.pow10Tab
theorem ok_strconv_Itoa (a0 : Int) {r : ByteArray} (hm : m_strconv_Itoa a0 = some r) :
    Ctr Tryd.prog 57 [.int .i64 a0].toArray ([] : List Ent) [PowT] (X := Unit) (fun _ => .string r) (fun _ => []) := by
  unfold m_strconv_Itoa at hm
  split at hm
  · rename_i h
    obtain rfl := Option.some.inj hm
    refine Ctr.of_below fun w hF => (Any.strconv_Itoa Tryd.laysM171 a0 h.1 h.2 w (hF _ (List.mem_cons_self ..))).mono fun e w' ⟨he, k, os, hw⟩ => ⟨he, ?_⟩
    subst hw
    exact ⟨⟨rfl, rfl, rfl, by simp [Go.Sort.grow], fun j hj => by rw [Go.Sort.heap_grow_old _ _ (by simpa using hj)]; simp⟩, Nat.le_add_right _ _⟩
  · cases hm
theorem ok_slices_Sort_int_int (s0_ : SV) (a0 : List Int) {r : List Int} (hm : m_slices_Sort_int_int a0 = some r) :
    Ctr Tryd.prog 68 [s0_.v].toArray [.row R3 (SV.v s0_) a0] [] (X := Unit) (fun _ => .tuple [].toArray) (fun _ => [.row R3 (SV.v s0_) r]) := by
  unfold m_slices_Sort_int_int at hm
  split at hm
  · rename_i hl
    obtain rfl := Option.some.inj hm
    intro w A hs
    have hcells : ∀ zs : List Int, R3.cells zs = zs.map (Value.int .i64) := fun zs => by
      show zs.flatMap (fun x => [Value.int .i64 x]) = _
      rw [List.map_eq_flatMap]
    have hrow : w.ownsRow 0 3 1 s0_.v a0.length (R3.cells a0) := hs.okx _ (List.mem_cons_self ..)
    have hs2 : Sat w (keys [Ent.row R3 (SV.v s0_) a0]) A [Ent.row R3 (SV.v s0_) a0] w := hs
    rcases hrow.2 with ⟨hn, h0⟩ | ⟨g, cap, cur, hv, hb0, hg, hle, hcap, hsz, ht⟩
    · have : a0 = [] := List.eq_nil_of_length_eq_zero h0
      subst this
      rw [hn]
      refine (Any.slices_Sort_int_none Tryd.lays189 none 0 w).mono ?_
      rintro e w' ⟨rfl, rfl⟩
      refine ⟨(), rfl, ?_⟩
      rw [hn] at hs2
      simpa using hs2
    · rw [hcells, Nat.mul_one] at ht
      have hlt : g < w.heap.size := (Array.getElem?_eq_some_iff.1 hg).1
      rw [hv]
      refine (Any.slices_Sort_int Tryd.lays189 g 0 cap a0 w (holds_of_blockI hg ht) hlt hl).mono ?_
      rintro e w' ⟨rfl, n, os, rfl⟩
      refine ⟨(), rfl, ?_⟩
      have hown := ownsRow_sortedI (w := w) (base := 0) (g := g) (cap := cap) (n := n) (e := 3) (os := os) (cur := cur) (ss := a0) (ts := a0.mergeSort fun x y => decide (x ≤ y)) (by simp) (Nat.zero_le _) hg hle hcap hsz
      obtain ⟨g1, g2, g3, g4, g5⟩ := grownBy_sortedI (w := w) (g := g) (n := n) (os := os) (a0.mergeSort fun x y => decide (x ≤ y)).toArray
      rw [hv] at hs2
      refine hs2.swap (k := 0) (e' := .row R3 (.slice (some ⟨g, 0, none⟩) a0.length cap) (a0.mergeSort fun x y => decide (x ≤ y))) rfl ⟨g1, g2, g3, g4, fun b hb hne => g5 b hb (fun e => hne (by cases e; exact List.mem_cons_self ..)), Nat.le_add_right _ _⟩ ?_ (fun b hb => ?_) (fun F hF => by cases hF)
      · show World.ownsRow _ 0 3 1 _ (a0.mergeSort fun x y => decide (x ≤ y)).length (R3.cells _)
        rw [hcells, List.length_mergeSort]
        exact hown
      · cases hb
        exact ⟨by simp; omega, .inr rfl⟩
  · cases hm
theorem ok_slices_Compact_int_int (s0_ : SV) (a0 : List Int) {r : List Int} (hm : m_slices_Compact_int_int a0 = some r) :
    Ctr Tryd.prog 69 [s0_.v].toArray [.row R3 (SV.v s0_) a0] [] (X := SV) (fun s => s.v) (fun s => [.row R3 (SV.v s) r]) := by
  unfold m_slices_Compact_int_int at hm
  split at hm
  · rename_i hl
    obtain rfl := Option.some.inj hm
    intro w A hs
    have hcells : ∀ zs : List Int, R3.cells zs = zs.map (Value.int .i64) := fun zs => by
      show zs.flatMap (fun x => [Value.int .i64 x]) = _
      rw [List.map_eq_flatMap]
    have hrow : w.ownsRow 0 3 1 s0_.v a0.length (R3.cells a0) := hs.okx _ (List.mem_cons_self ..)
    have hs2 : Sat w (keys [Ent.row R3 (SV.v s0_) a0]) A [Ent.row R3 (SV.v s0_) a0] w := hs
    rcases hrow.2 with ⟨hn, h0⟩ | ⟨g, cap, cur, hv, hb0, hg, hle, hcap, hsz, ht⟩
    · have : a0 = [] := List.eq_nil_of_length_eq_zero h0
      subst this
      rw [hn]
      refine (Any.slices_Compact_int_empty Tryd.lays2n20 none 0 w).mono ?_
      rintro e w' ⟨rfl, rfl⟩
      refine ⟨nilS, rfl, ?_⟩
      rw [hn] at hs2
      exact hs2
    · rw [hcells, Nat.mul_one] at ht
      have hlt : g < w.heap.size := (Array.getElem?_eq_some_iff.1 hg).1
      rw [hv]
      refine (Any.slices_Compact_int Tryd.lays2n20 g 0 cap a0 w (holds_of_blockI hg ht) hl hle).mono ?_
      rintro e w' ⟨rfl, n, rfl⟩
      refine ⟨⟨some ⟨g, 0, none⟩, (Lib.compact a0).length, cap⟩, rfl, ?_⟩
      have hcl : (Lib.compact a0).length ≤ a0.length := compact_le a0
      generalize htsd : Lib.compact a0 ++ List.replicate (a0.length - (Lib.compact a0).length) 0 = ts
      have htl : ts.length = a0.length := by subst htsd; simp; omega
      have hh := heap_sortedI (w := w) (g := g) (n := n) (os := #[]) ts.toArray hg
      obtain ⟨g1, g2, g3, g4, g5⟩ := grownBy_sortedI (w := w) (g := g) (n := n) (os := #[]) ts.toArray
      rw [grow_empty] at hh g1 g2 g3 g4 g5
      rw [hv] at hs2
      refine hs2.swap (k := 0) (e' := .row R3 (.slice (some ⟨g, 0, none⟩) (Lib.compact a0).length cap) (Lib.compact a0)) rfl ⟨g1, g2, g3, g4, fun b hb hne => g5 b hb (fun e => hne (by cases e; exact List.mem_cons_self ..)), Nat.le_add_right _ _⟩ ?_ (fun b hb => ?_) (fun F hF => by cases hF)
      · refine ⟨by rw [R3.cells_len], .inr ⟨g, cap, _, rfl, Nat.zero_le _, hh, by omega, hcap, by simp [putCells, hsz, show R3.sz = 1 from rfl], ?_⟩⟩
        have h1 := take_putCellsI cur ts (by rw [htl, hsz]; omega)
        rw [hcells]
        have h2 := congrArg (List.take (Lib.compact a0).length) h1
        rw [List.take_take, Nat.min_eq_left (by omega), ← List.map_take] at h2
        rw [show (Lib.compact a0).length * R3.sz = (Lib.compact a0).length from Nat.mul_one _, h2, ← htsd, List.take_left]
      · cases hb
        exact ⟨by simp; omega, .inr rfl⟩
  · cases hm
end Go.Proofs.YthonhgainmokhabDoor
