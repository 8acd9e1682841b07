/- LUn: UndoneIsNothing's law. In plain Lean, no program in sight. -/
import Derived.Test.YtgfbgcdnnkehbaaGreatDoorLYu
import Derived.Test.YtgfbgcdnnkehbaaGreatDoorLY6r
import Derived.Test.YtgfbgcdnnkehbaaGreatDoorLYp
import Derived.Test.YtgfbgcdnnkehbaaGreatDoorLAr
import Derived.Test.YtgfbgcdnnkehbaaGreatDoorLR1f
namespace Go.G
open Go Go.J
set_option linter.unusedSimpArgs false
theorem EqualS_refl (a : List ByteArray) : m_slices_Equal_string_string a a = some true := by
  unfold m_slices_Equal_string_string
  rw [show ((a.length : Int) != (a.length : Int)) = false by simp, ifB_false]
  obtain ⟨s, h1, -⟩ := rangeM_invx (m_slices_Equal_string_string_l1 a) a (fun _ _ => True) (by
    intro i x s hx _
    unfold m_slices_Equal_string_string_l1
    rw [getI_of rfl hx, Option.bind_some, show (!(x.toList == x.toList)) = false by simp, ifB_false]
    exact ⟨_, rfl, trivial⟩) () trivial
  rw [h1]; rfl
theorem CloneA (l : List TAct) (h : l.length ≤ 1000) : m_slices_Clone_api_Act_api_Act l = some l := by
  unfold m_slices_Clone_api_Act_api_Act
  rw [appM_of (by simp; omega) (by omega)]; rfl
theorem UndoneIsNothing_true (L : List Int) : m_gleekeep2_UndoneIsNothing L = some true := by
  unfold m_gleekeep2_UndoneIsNothing
  obtain ⟨n, h1, hn1, hn2⟩ := Range_spec L (p := 0) (a := 0) (b := 14) (by omega) (by omega) (by omega) (by omega) (by omega)
  rw [h1, Option.bind_some]
  obtain ⟨x, q, h2, hq1, hq2, hok, hlen, hx⟩ := RightActs_spec L (p := 0 + 1) (n := n) (by omega) (by omega) hn1 (by omega)
  simp only
  rw [h2, Option.bind_some]
  have hat : isAt 259200000000 = true := by kernel_rfl
  have hsite : ∀ y ∈ x, y.Site ≠ zzS := fun y hy => (hx y hy).2.1
  have hy : ActsOK (x ++ [payA 259200000000, undoA 259200000000]) := ok_two 259200000000 x hok (by omega) hat hsite fun y hy => by have := (hx y hy).1; omega
  have ax := askF_of hok hat
  have ay := askF_of hy hat
  rw [Refused_spec, if_pos ax, Option.bind_some]
  simp only
  rw [CloneA x (by omega), Option.bind_some, appM_of (by simp; omega) (by omega), Option.bind_some, Option.bind_some, fin_inl]
  rw [show x ++ [(TAct.mk (ByteArray.mk [122, 122].toArray) 1 259200000000 3 (ByteArray.mk [97, 110, 110].toArray) ByteArray.empty 5 false ByteArray.empty 0), (TAct.mk (ByteArray.mk [122, 122].toArray) 2 259200000000 7 ByteArray.empty ByteArray.empty 0 false (ByteArray.mk [122, 122].toArray) 1)] = x ++ [payA 259200000000, undoA 259200000000] from rfl]
  rw [Purse_spec, Purse_spec, Members_spec, Members_spec, Counting_spec, if_pos ax, if_pos ay, if_pos ax, if_pos ay, if_pos ax, books_two _ _ hsite]
  simp only [Option.bind_some]
  rw [show m_gleekeep2_errs [0, 0, 0, 0] = some 0 by kernel_rfl, Option.bind_some, EqualS_refl, show ((0 : Int) != 0) = false from rfl, ifB_false]
  rw [show ∀ z : Int, (z != z) = false from fun z => by simp, ifB_false, show ∀ z : Int, (z != z) = false from fun z => by simp, ifB_false, Option.bind_some, Option.bind_some, fin_inl, Bool.not_true, ifB_false]
  have hin := refused_in x (cntIx 259200000000 0 x) ⟨[], [], [], []⟩ (cntIx 259200000000 0 x) (fun z hz => hz) (fun z hz => by cases hz)
  obtain ⟨u, g1, -⟩ := rangeM_invx (m_gleekeep2_UndoneIsNothing_l1 (x, q) (cntIx 259200000000 0 x, 0)) (booksOf x 259200000000).rf (fun _ _ => True) (by
    intro i z s hz _
    obtain ⟨g2, g3⟩ := hin z (List.mem_of_getElem? hz)
    obtain ⟨j, rfl, hj⟩ := cntIx_mem _ x 0 z g2
    rw [Nat.zero_add] at g2 g3 ⊢
    have hxj : x[j]? = some (x[j]'hj) := List.getElem?_eq_getElem hj
    have hk := g3 _ (by rw [Int.toNat_natCast]; exact hxj)
    unfold m_gleekeep2_UndoneIsNothing_l1
    simp only
    rw [ContainsI_spec, show (cntIx 259200000000 0 x).any (fun y => (j : Int) == y) = true from List.any_eq_true.2 ⟨_, g2, by simp⟩, Option.bind_some, Bool.not_true, ifB_false]
    rw [w64_id (by omega), show max 0 (min (j : Int) ((x.length : Int) - 1)) = (j : Int) by omega, getI_of rfl hxj, Option.bind_some, Option.bind_some, fin_inl, show ((x[j]'hj).Kind == 7) = false by simpa using hk, ifB_false]
    exact ⟨_, rfl, trivial⟩) () trivial
  rw [g1, Option.bind_some, fin_brk, ready_true]; rfl
end Go.G
