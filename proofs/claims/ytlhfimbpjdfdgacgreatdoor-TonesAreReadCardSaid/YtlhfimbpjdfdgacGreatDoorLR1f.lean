/- Plain laws of the models; no condition beyond what each theorem says. -/
import Derived.Test.YtlhfimbpjdfdgacGreatDoorLY6
import Derived.Test.YtlhfimbpjdfdgacGreatDoorLQ1
import Derived.Lib.ItoaMem
namespace Go.G
open Go Go.J
theorem anyOrd_one {α β : Type} (a : α) (f : List α → Option β) : anyOrd [a] f = f [a] := by
 cases h : f [a] with
 | some r => exact anyOrd_of fun L' hL => by rw [List.perm_singleton.1 hL]; exact h
 | none =>
  cases h2 : anyOrd [a] f with
  | none => rfl
  | some r => have := anyOrd_spec h2 [a] (List.Perm.refl _); rw [h] at this; cases this
theorem ready_order : m_piece_Order [(TBar.mk 1 4 2 0 true)] = some ([0, 0], 0) := by
 have h3 : ∀ (c : Int) (u : List Int), loopM (m_piece_order_l3 [(TBar.mk 1 4 2 0 true)] 2000 ⟨0, 1, 2⟩ (c, u)) (0, []) = some (.brk (1, [0])) := fun c u => by
  rw [loopM_step (show m_piece_order_l3 [(TBar.mk 1 4 2 0 true)] 2000 ⟨0, 1, 2⟩ (c, u) (0, []) = some (.nxt (1, [0])) by kernel_rfl), run_nxt, loopM_step (show m_piece_order_l3 [(TBar.mk 1 4 2 0 true)] 2000 ⟨0, 1, 2⟩ (c, u) (1, [0]) = some (.brk (1, [0])) by kernel_rfl), run_brk]
 have h3b : ∀ (c : Int) (u : List Int), loopM (m_piece_order_l3 [(TBar.mk 1 4 2 0 true)] 2000 ⟨0, 1, 2⟩ (c, u)) (0, [0]) = some (.brk (1, [0, 0])) := fun c u => by
  rw [loopM_step (show m_piece_order_l3 [(TBar.mk 1 4 2 0 true)] 2000 ⟨0, 1, 2⟩ (c, u) (0, [0]) = some (.nxt (1, [0, 0])) by kernel_rfl), run_nxt, loopM_step (show m_piece_order_l3 [(TBar.mk 1 4 2 0 true)] 2000 ⟨0, 1, 2⟩ (c, u) (1, [0, 0]) = some (.brk (1, [0, 0])) by kernel_rfl), run_brk]
 have h2a : m_piece_order_l2 [(TBar.mk 1 4 2 0 true)] 2000 ⟨0, 1, 2⟩ (1, []) = some (.nxt (2, [0])) := by
  unfold m_piece_order_l2
  simp only
  rw [h3]; rfl
 have h2b : m_piece_order_l2 [(TBar.mk 1 4 2 0 true)] 2000 ⟨0, 1, 2⟩ (2, [0]) = some (.nxt (3, [0, 0])) := by
  unfold m_piece_order_l2
  simp only
  rw [h3b]; rfl
 have h2c : m_piece_order_l2 [(TBar.mk 1 4 2 0 true)] 2000 ⟨0, 1, 2⟩ (3, [0, 0]) = some (.brk (3, [0, 0])) := rfl
 have ho : m_piece_order [(TBar.mk 1 4 2 0 true)] [⟨0, 1, 2⟩] 2000 = some [0, 0] := by
  unfold m_piece_order
  rw [rangeM_cons]
  unfold m_piece_order_l1
  rw [loopM_step h2a, run_nxt, loopM_step h2b, run_nxt, loopM_step h2c, run_brk]; rfl
 have hr : m_piece_repeats [(TBar.mk 1 4 2 0 true)] = some ([⟨0, 1, 2⟩], true) := by kernel_rfl
 unfold m_piece_Order m_piece_CheckBars m_piece_played
 rw [hr, show m_piece_rulesFault [(TBar.mk 1 4 2 0 true)] = some 0 by kernel_rfl]
 simp only [Option.bind_some]
 rw [ho]
 rfl
theorem sort_one (a : ByteArray) : m_slices_Sort_string_string [a] = some [a] := by
 unfold m_slices_Sort_string_string
 rw [if_pos (by simp), List.map_cons, List.map_nil, List.mergeSort_singleton]
 rfl
def annB : ByteArray := ByteArray.mk [97, 110, 110].toArray
theorem ready_there : m_rehearse_There [(TCame.mk 5 annB false)] 6 = some ([annB], 0) := by
 have hp : m_rehearse_presences [(TCame.mk 5 annB false)] = some [(annB, [⟨5, 345686400000⟩])] := by
  unfold m_rehearse_presences
  rw [show rangeM m_rehearse_presences_l1 0 [(TCame.mk 5 annB false)] ([], []) = some (.brk ([(annB, 5)], [])) by kernel_rfl, Option.bind_some, fin_brk]
  simp only
  rw [anyOrd_one, show rangeM m_rehearse_presences_l2 0 [(annB, 5)] [] = some (.brk [(annB, [⟨5, 345686400000⟩])]) by kernel_rfl, Option.bind_some, fin_brk]
  simp only [List.map_cons, List.map_nil]
  rw [anyOrd_one, show rangeM m_rehearse_presences_l3 0 [annB] [(annB, [⟨5, 345686400000⟩])] = some (.brk [(annB, [⟨5, 345686400000⟩])]) by kernel_rfl, Option.bind_some, fin_brk]
 unfold m_rehearse_There
 rw [show m_rehearse_CheckCame [(TCame.mk 5 annB false)] = some 0 by kernel_rfl, Option.bind_some, show ((0 : Int) != 0) = false from rfl, ifB_false, show m_kit_IsMoment 6 = some true by kernel_rfl, Option.bind_some, Bool.not_true, ifB_false, hp, Option.bind_some]
 simp only [List.map_cons, List.map_nil]
 rw [anyOrd_one, show rangeM (m_rehearse_There_l1 6 [(annB, [⟨5, 345686400000⟩])]) 0 [annB] [] = some (.brk [(annB, true)]) by kernel_rfl, Option.bind_some, fin_brk]
 unfold m_slices_Sorted_string__maps_Keys_map_string_bool_string_bool_1
 rw [if_pos (by simp), List.map_cons, List.map_nil, sort_one]; rfl
theorem ready_name : m_chord_Name (TChord.mk 1 2 1) = some ((ByteArray.mk [99, 35, 32, 109, 105, 110, 47, 49].toArray), 0) := by
 have hI : m_strconv_Itoa 1 = some (ByteArray.mk [49].toArray) := by
  unfold m_strconv_Itoa
  rw [if_pos (by omega)]
  have : Lib.itoa 1 = [49] := by
   have := Lib.itoa_nonneg 1
   rw [Lib.decDigits_one (by omega)] at this
   exact this
  rw [this]
 unfold m_chord_Name
 rw [show m_chord_CheckChord (TChord.mk 1 2 1) = some 0 by kernel_rfl, Option.bind_some, show ((0 : Int) != 0) = false from rfl, ifB_false]
 simp only
 rw [hI]
 rfl
theorem ready_long : m_concert_Long (TProgram.mk [(TItem.mk (ByteArray.mk [97].toArray) (ByteArray.mk [112].toArray) 7 [(ByteArray.mk [97, 108, 116, 111].toArray)])] 0 0 0 (-1)) = some (7, 0) := by
 kernel_rfl
theorem ready_true : m_gleekeep2_ready = some true := by
 unfold m_gleekeep2_ready
 rw [ready_order, Option.bind_some, ready_name, Option.bind_some, show (TCame.mk 5 (ByteArray.mk [97, 110, 110].toArray) false) = TCame.mk 5 annB false from rfl, ready_there, Option.bind_some, ready_long, Option.bind_some,
  show m_club_Members [(TAct.mk (ByteArray.mk [97].toArray) 1 0 1 (ByteArray.mk [97, 110, 110].toArray) ByteArray.empty 0 false ByteArray.empty 0)] 0 = some ([annA], 0) from one_member, Option.bind_some]
 simp only
 rw [show m_gleekeep2_errs [0, 0, 0, 0, 0] = some 0 by kernel_rfl, Option.bind_some]
 rw [show ∀ z : ByteArray, (z.toList == z.toList) = true from fun z => by simp]
 rfl
end Go.G
