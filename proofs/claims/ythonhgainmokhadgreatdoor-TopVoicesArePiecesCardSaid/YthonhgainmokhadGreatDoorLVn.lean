/- LVn: TopVoicesArePieces. In plain Lean, no program in sight. -/
import Derived.Test.YthonhgainmokhadGreatDoorLVl
import Derived.Test.YthonhgainmokhadGreatDoorLRgu
namespace Go.G
open Go Go.J
set_option linter.unusedSimpArgs false
set_option linter.unusedVariables false
theorem h10facts_true : m_gleetop_h10facts = some true := by
 unfold m_gleetop_h10facts
 rw [ready_order, Option.bind_some, ready_name, Option.bind_some, show (TCame.mk 5 (ByteArray.mk [97, 110, 110].toArray) false) = TCame.mk 5 annB false from rfl, ready_there, Option.bind_some,
  show m_club_Members [(TAct.mk (ByteArray.mk [97].toArray) 1 0 1 (ByteArray.mk [97, 110, 110].toArray) ByteArray.empty 0 false ByteArray.empty 0)] 0 = some ([annA], 0) from one_member, Option.bind_some]
 simp only
 rw [show ∀ z : ByteArray, (z.toList == z.toList) = true from fun z => by simp]
 rfl
def bar4 : TBar := TBar.mk 4 4 0 0 false
def B4 (n : Nat) : List TBar := List.replicate n bar4
def reps (n : Nat) : List Tpiece_repeat := (List.range n).map fun i : Nat => ⟨(i : Int), (i : Int) + 1, 1⟩
def few (n : Nat) : Prop := n = 1 ∨ n = 2 ∨ n = 3
theorem long4 : m_piece_long bar4 = some 192 := by kernel_rfl
theorem B4_at {n i : Nat} (h : i < n) : (B4 n)[i]? = some bar4 := by
 unfold B4
 rw [List.getElem?_replicate, if_pos h]
theorem order_step {B : List TBar} {i : Nat} (hB : B[i]? = some bar4) (hi : i ≤ 1000) (out : List Int) (ho : out.length ≤ 1000) : m_piece_order_l1 B 2000 i ⟨(i : Int), (i : Int) + 1, 1⟩ out = some (.nxt (out ++ [(i : Int)])) := by
 have h3 : ∀ u, loopM (m_piece_order_l3 B 2000 ⟨(i : Int), (i : Int) + 1, 1⟩ u) ((i : Int), out) = some (.brk ((i : Int) + 1, out ++ [(i : Int)])) := fun u => by
  rw [loopM_step (g := .nxt ((i : Int) + 1, out ++ [(i : Int)])) (by
   unfold m_piece_order_l3
   simp only
   rw [decide_eq_true (by omega), ifB_true, decide_eq_true (by omega), Option.bind_some, fin_inl, ifB_true, getI_of (n := i) rfl hB, Option.bind_some, show (bar4.Ending == 0) = true from rfl, ifB_true, Option.bind_some, fin_inl, ifB_true, appM_of (by simp; omega) (by omega), Option.bind_some, w64_id (by omega)]), run_nxt,
   loopM_step (g := .brk ((i : Int) + 1, out ++ [(i : Int)])) (by
   unfold m_piece_order_l3
   simp only
   rw [decide_eq_false (by omega), ifB_false, Option.bind_some, fin_inl, ifB_false]), run_brk]
 unfold m_piece_order_l1
 rw [loopM_step (g := .nxt ((2 : Int), out ++ [(i : Int)])) (by
  unfold m_piece_order_l2
  simp only
  rw [decide_eq_true (by omega), ifB_true, h3, Option.bind_some, fin_brk, w64_id (by omega)]
  rfl), run_nxt, loopM_step (g := .brk ((2 : Int), out ++ [(i : Int)])) (by
  unfold m_piece_order_l2
  simp only
  rw [decide_eq_false (by omega), ifB_false]), run_brk]
 rfl
theorem reps_at {n i : Nat} {x : Tpiece_repeat} (h : (reps n)[i]? = some x) : i < n ∧ x = ⟨(i : Int), (i : Int) + 1, 1⟩ := by
 unfold reps at h
 have hi := (List.getElem?_eq_some_iff.1 h).1
 rw [List.length_map, List.length_range] at hi
 rw [List.getElem?_map, List.getElem?_range hi, Option.map_some] at h
 exact ⟨hi, (Option.some.inj h).symm⟩
theorem CheckBars4 {n : Nat} (hn : few n) : m_piece_CheckBars (B4 n) = some 0 := by
 have hr : m_piece_rulesFault (B4 n) = some 0 := by rcases hn with rfl | rfl | rfl <;> kernel_rfl
 have hp : m_piece_repeats (B4 n) = some (reps n, true) := by rcases hn with rfl | rfl | rfl <;> kernel_rfl
 have hn3 : 1 ≤ n ∧ n ≤ 3 := by unfold few at hn; omega
 obtain ⟨out, h1, h2⟩ := rangeM_invx (m_piece_order_l1 (B4 n) 2000) (reps n) (fun i s => s.length = i) (by
  intro i x s hx hs
  obtain ⟨hi, rfl⟩ := reps_at hx
  exact ⟨_, order_step (B4_at hi) (by omega) s (by omega), by rw [List.length_append, List.length_singleton, hs]⟩) [] rfl
 have hl : (B4 n).length = n := by unfold B4; rw [List.length_replicate]
 have hrl : (reps n).length = n := by unfold reps; rw [List.length_map, List.length_range]
 unfold m_piece_CheckBars
 rw [hl, show ((n : Int) == 0) = false by simp; omega, ifB_false, decide_eq_false (by omega), ifB_false, hr, Option.bind_some, show ((0 : Int) != 0) = false from rfl, ifB_false, hp, Option.bind_some, show (!true) = false from rfl, ifB_false]
 simp only
 unfold m_piece_order
 rw [h1, Option.bind_some, fin_brk, Option.bind_some, decide_eq_false (by omega), ifB_false]
theorem isLowest1 {i : Nat} (hi : i < 3) : m_piece_isLowest ⟨(i : Int), 1⟩ = some true := by
 have h : loopM m_piece_isLowest_l1 ((i : Int), 1) = some (.brk (1, 0)) := by
  have : i = 0 ∨ i = 1 ∨ i = 2 := by omega
  rcases this with rfl | rfl | rfl <;> exact loopM_of_runN (n := 5) (by kernel_rfl)
 unfold m_piece_isLowest
 simp only
 rw [h]; rfl
theorem fraction4 {i : Nat} (hi : i < 3) : m_piece_fraction (192 * (i : Int)) = some ⟨(i : Int), 1⟩ := by
 have h : loopM m_kit_Lowest_l1 (192 * (i : Int), 192) = some (.brk (192, 0)) := by
  have : i = 0 ∨ i = 1 ∨ i = 2 := by omega
  rcases this with rfl | rfl | rfl <;> exact loopM_of_runN (n := 5) (by kernel_rfl)
 unfold m_piece_fraction m_kit_Lowest
 rw [h, Option.bind_some, fin_brk]
 clear h
 have : i = 0 ∨ i = 1 ∨ i = 2 := by omega
 clear hi
 rcases this with rfl | rfl | rfl <;> first | kernel_rfl | rfl
def begs (n : Nat) : List TFraction := (List.range n).map fun i : Nat => ⟨(i : Int), 1⟩
theorem Begins4 {n : Nat} (hn : few n) : m_piece_Begins (B4 n) = some (begs n, 0) := by
 have hn3 : 1 ≤ n ∧ n ≤ 3 := by unfold few at hn; omega
 have hl : (B4 n).length = n := by unfold B4; rw [List.length_replicate]
 obtain ⟨s, h1, h2⟩ := rangeM_invx m_piece_Begins_l1 (B4 n) (fun i s => s = (192 * (i : Int), (List.range i).map fun i : Nat => (⟨(i : Int), 1⟩ : TFraction))) (by
  rintro i x s hx rfl
  have hi := (List.getElem?_eq_some_iff.1 hx).1
  rw [hl] at hi
  rw [B4_at hi] at hx
  cases hx
  refine ⟨_, ?_, rfl⟩
  unfold m_piece_Begins_l1
  simp only
  rw [fraction4 (by omega), Option.bind_some, appM_of (by simp; omega) (by omega), Option.bind_some, long4, Option.bind_some, w64_id (by omega), List.range_succ, List.map_append]
  congr 3) (0, []) rfl
 subst h2
 unfold m_piece_Begins
 rw [CheckBars4 hn, Option.bind_some, show ((0 : Int) != 0) = false from rfl, ifB_false, h1, Option.bind_some, fin_brk, hl]
 rfl
def tone1 (x : Int) : TTone := TTone.mk x (TFraction.mk 1 1) ByteArray.empty false
theorem units1 {i : Nat} (hi : i < 3) : m_piece_units ⟨(i : Int), 1⟩ = some (192 * (i : Int)) := by
 have : i = 0 ∨ i = 1 ∨ i = 2 := by omega
 clear hi
 rcases this with rfl | rfl | rfl <;> first | kernel_rfl | rfl
theorem units1' : m_piece_units ⟨1, 1⟩ = some 192 := by kernel_rfl
theorem isText_empty : m_piece_isText ByteArray.empty = some true := by
 have hv : m_utf8_ValidString ByteArray.empty = some true := by
  unfold m_utf8_ValidString
  rw [if_pos (by simp)]
  rfl
 unfold m_piece_isText
 rw [show (ByteArray.empty.size : Int) = 0 from rfl, decide_eq_false (by omega), ifB_false, hv, Option.bind_some, Option.bind_some, fin_inl, show (!true) = false from rfl, ifB_false, show rangeI 0 = some [] from rfl, Option.bind_some]
 rfl
theorem toneFault1 {x : Int} (hx : 0 ≤ x ∧ x ≤ 127) : m_piece_toneFault (tone1 x) = some 0 := by
 unfold m_piece_toneFault tone1
 simp only
 have h1 : (x != -1) = true := by simp; omega
 have h2 : (x == -1) = false := by simp; omega
 rw [h1, ifB_true, Outside_spec, Option.bind_some, decide_eq_true hx, Option.bind_some, fin_inl, show (!true) = false from rfl, ifB_false, decide_eq_false (show ¬ (1 : Int) < 1 by omega), ifB_false,
  show m_piece_isLowest ⟨1, 1⟩ = some true from isLowest1 (i := 1) (by omega), Option.bind_some, Option.bind_some, fin_inl, show (!true) = false from rfl, ifB_false,
  show remM 192 1 = some 0 by kernel_rfl, Option.bind_some, show ((0 : Int) != 0) = false from rfl, ifB_false, show decide ((1 : Int) > w64 (16 * 1)) = false by kernel_rfl, Option.bind_some, fin_inl, ifB_false, isText_empty, Option.bind_some, show (!true) = false from rfl, ifB_false, h2, ifB_false, Option.bind_some, fin_inl, ifB_false]
theorem checkTones1 {n : Nat} (hn : few n) {xs : List Int} (hl : xs.length = n) (hx : ∀ x ∈ xs, 0 ≤ x ∧ x ≤ 127) : m_piece_CheckTones (B4 n) (xs.map tone1) = some 0 := by
 have hn3 : 1 ≤ n ∧ n ≤ 3 := by unfold few at hn; omega
 have hbl : (B4 n).length = n := by unfold B4; rw [List.length_replicate]
 have hget : ∀ {i : Nat} {t : TTone}, (xs.map tone1)[i]? = some t → i < n ∧ ∃ x, t = tone1 x ∧ 0 ≤ x ∧ x ≤ 127 := fun {i t} h => by
  have hi := (List.getElem?_eq_some_iff.1 h).1
  rw [List.length_map] at hi
  rw [List.getElem?_map, List.getElem?_eq_getElem hi, Option.map_some] at h
  exact ⟨by omega, _, (Option.some.inj h).symm, hx _ (List.getElem_mem hi)⟩
 obtain ⟨s, h1, h2⟩ := rangeM_invx (m_piece_checkTones_l1 (B4 n)) (xs.map tone1) (fun i s => s = ((i : Int), 0)) (by
  rintro i t s ht rfl
  obtain ⟨hi, x, rfl, hx0⟩ := hget ht
  refine ⟨_, ?_, rfl⟩
  unfold m_piece_checkTones_l1
  simp only
  rw [toneFault1 hx0, Option.bind_some, show ((0 : Int) != 0) = false from rfl, ifB_false, show ((0 : Int) == 0) = true from rfl, ifB_true, show ((i : Int) == ((B4 n).length : Int)) = false by rw [hbl]; simp; omega, ifB_false, getI_of (n := i) rfl (B4_at hi), Option.bind_some, long4, Option.bind_some, Option.bind_some, fin_inl]
  simp only
  rw [show (tone1 x).Long = ⟨1, 1⟩ from rfl, units1', Option.bind_some, decide_eq_false (by omega), ifB_false, Option.bind_some, w64_id (by omega), w64_id (by omega)]
  rfl) (0, 0) rfl
 subst h2
 obtain ⟨z, g1, -⟩ := rangeM_invx (m_piece_checkTones_l2 (xs.map tone1) false) (xs.map tone1) (fun _ _ => True) (by
  rintro i t s ht -
  obtain ⟨hi, x, rfl, hx0⟩ := hget ht
  refine ⟨(), ?_, trivial⟩
  unfold m_piece_checkTones_l2
  rw [show (tone1 x).Tied = false from rfl, ifB_false]) () trivial
 unfold m_piece_CheckTones m_piece_checkTones
 rw [CheckBars4 hn, Option.bind_some, show ((0 : Int) != 0) = false from rfl, ifB_false, decide_eq_false (by rw [List.length_map]; omega), ifB_false, h1, Option.bind_some, fin_brk]
 simp only
 rw [decide_eq_false (by omega), ifB_false, decide_eq_false (by rw [hbl, List.length_map]; omega), Option.bind_some, fin_inl, ifB_false, g1]
 rfl
theorem Sounds_at {xs : List Int} (hl : xs.length ≤ 3) (hx : ∀ x ∈ xs, 0 ≤ x ∧ x ≤ 127) {i : Nat} (hi : i < xs.length) : ∀ (d j : Nat), j + d = i → rangeM (m_piece_Sounds_l2 ⟨(i : Int), 1⟩) j ((xs.map tone1).drop j) (192 * (j : Int)) = some (.ret (nt xs i, true, 0)) := by
 intro d
 induction d with
 | zero =>
  intro j hj
  have hj : j = i := by omega
  subst hj
  have hd : (xs.map tone1).drop j = tone1 (nt xs j) :: (xs.map tone1).drop (j + 1) := by
   rw [List.drop_eq_getElem_cons (by rw [List.length_map]; exact hi), List.getElem_map]
   congr 2
   have := nt_get hi
   rw [List.getElem?_eq_getElem hi] at this
   exact Option.some.inj this
  have hn := hx _ (List.mem_of_getElem? (nt_get hi))
  rw [hd, rangeM_cons]
  unfold m_piece_Sounds_l2
  rw [show (tone1 (nt xs j)).Long = ⟨1, 1⟩ from rfl, units1', Option.bind_some, units1 (by omega), Option.bind_some, w64_id (by omega), decide_eq_true (by omega), ifB_true, show (tone1 (nt xs j)).Note = nt xs j from rfl, show max (nt xs j) 0 = nt xs j by omega, show (nt xs j != -1) = true by simp; omega]
  rfl
 | succ d ih =>
  intro j hj
  have hjl : j < xs.length := by omega
  have hd : (xs.map tone1).drop j = tone1 (nt xs j) :: (xs.map tone1).drop (j + 1) := by
   rw [List.drop_eq_getElem_cons (by rw [List.length_map]; exact hjl), List.getElem_map]
   congr 2
   have := nt_get hjl
   rw [List.getElem?_eq_getElem hjl] at this
   exact Option.some.inj this
  have hstep : m_piece_Sounds_l2 ⟨(i : Int), 1⟩ j (tone1 (nt xs j)) (192 * (j : Int)) = some (.nxt (192 * ((j + 1 : Nat) : Int))) := by
   unfold m_piece_Sounds_l2
   rw [show (tone1 (nt xs j)).Long = ⟨1, 1⟩ from rfl, units1', Option.bind_some, units1 (by omega), Option.bind_some, w64_id (by omega), decide_eq_false (by omega), ifB_false]
   congr 2
  rw [hd, rangeM_cons, hstep, Option.bind_some, run_nxt]
  exact ih (j + 1) (by omega)
theorem Sounds1 {n : Nat} (hn : few n) {xs : List Int} (hl : xs.length = n) (hx : ∀ x ∈ xs, 0 ≤ x ∧ x ≤ 127) {i : Nat} (hi : i < n) : m_piece_Sounds (B4 n) (xs.map tone1) ⟨(i : Int), 1⟩ = some (nt xs i, true, 0) := by
 have hn3 : 1 ≤ n ∧ n ≤ 3 := by unfold few at hn; omega
 have hbl : (B4 n).length = n := by unfold B4; rw [List.length_replicate]
 obtain ⟨s, h1, h2⟩ := rangeM_invx m_piece_Sounds_l1 (B4 n) (fun i s => s = 192 * (i : Int)) (by
  rintro j b s hb rfl
  have hj := (List.getElem?_eq_some_iff.1 hb).1
  rw [hbl] at hj
  rw [B4_at hj] at hb
  cases hb
  refine ⟨_, ?_, rfl⟩
  unfold m_piece_Sounds_l1
  rw [long4, Option.bind_some, w64_id (by omega)]
  congr 2) 0 rfl
 subst h2
 have h3 := Sounds_at (by omega) hx (show i < xs.length by omega) i 0 (by omega)
 rw [List.drop_zero] at h3
 have h3' : rangeM (m_piece_Sounds_l2 ⟨(i : Int), 1⟩) 0 (xs.map tone1) 0 = some (.ret (nt xs i, true, 0)) := h3
 unfold m_piece_Sounds
 rw [checkTones1 hn hl hx, Option.bind_some, show ((0 : Int) != 0) = false from rfl, ifB_false, isLowest1 (by omega), Option.bind_some, show (!true) = false from rfl, ifB_false, h1, Option.bind_some, fin_brk]
 simp only
 rw [decide_eq_false (by omega), ifB_false, show remM 192 1 = some 0 by kernel_rfl, Option.bind_some, show ((0 : Int) != 0) = false from rfl, ifB_false, decide_eq_false (by rw [hbl]; omega), ifB_false, units1 (by omega), Option.bind_some, decide_eq_false (by rw [hbl]; omega), Option.bind_some, fin_inl, ifB_false, h3']
 rfl
theorem Of_P {n : List Int} (h0 : n ≠ []) (hl : n.length ≤ 5) (hx : ∀ x ∈ n, 0 ≤ x ∧ x ≤ 127) : ∃ v, m_chord_Of n = some ((List.range 12).flatMap fun r => (List.range 7).flatMap fun j => GP (S n) v r (1 + j), 0) := by
 have hl0 : n.length ≠ 0 := fun h => h0 (List.eq_nil_of_length_eq_zero h)
 obtain ⟨m, hm, -⟩ := Min_spec n h0 (by omega)
 refine ⟨m.tmod 12, ?_⟩
 unfold m_chord_Of
 rw [notesFault_E, Option.bind_some, if_neg hl0, if_neg (by omega), if_neg (by
  rw [List.any_eq_true]
  rintro ⟨x, hx1, h2⟩
  rw [decide_eq_true (hx x hx1)] at h2
  cases h2), show ((0 : Int) != 0) = false from rfl, ifB_false, set_spec n (by omega), Option.bind_some, hm, Option.bind_some, show rangeI 12 = some (List.range 12) from rfl, Option.bind_some, Of_loop, Option.bind_some, fin_brk]
theorem Of_has {c : TChord} (hc : ∃ r k t, Right c r k t) {row : List Int} (h : fitsB ((m_chord_tones c).getD []) row = true) (v : Int) : ∃ x ∈ (List.range 12).flatMap fun r => (List.range 7).flatMap fun j => GP (S row) v r (1 + j), x.Root = c.Root ∧ x.Kind = c.Kind := by
 have hct := CT_of hc
 obtain ⟨r, k, t, rfl, hr, hk, ht⟩ := hc
 obtain ⟨T, hT, hlen, hrng, hTO, -⟩ := chord_facts hr hk
 obtain ⟨T', h1, h2, -⟩ := hTO t ht
 have hTT : TT r k = T := by unfold TT; rw [hT]; rfl
 have hS : S T = S row := by
  unfold fitsB at h
  rw [Bool.and_eq_true, decide_eq_true_eq, decide_eq_true_eq] at h
  rw [h.2]
  have := hct.ref
  rw [h1] at this
  rw [← Option.some.inj this]
  exact (S_perm h2).symm
 refine ⟨⟨r, k, IX r k v⟩, List.mem_flatMap.2 ⟨r, List.mem_range.2 hr, List.mem_flatMap.2 ⟨k - 1, List.mem_range.2 (by omega), ?_⟩⟩, rfl, rfl⟩
 rw [show 1 + (k - 1) = k by omega]
 unfold GP
 rw [hTT, if_pos hS]
 exact List.mem_singleton.2 rfl
theorem named {l names : List TChord} {i : Nat} {c : TChord} (hi : l[i]? = some c) (h : ∃ x ∈ names, x.Root = c.Root ∧ x.Kind = c.Kind) : m_slices_ContainsFunc_api_Chord_api_Chord__gleetop_TopVoicesArePieces_1 names l (i : Int) = some true := by
 have h2 : m_slices_ContainsFunc_api_Chord_api_Chord__gleetop_TopVoicesArePieces_1 names l (i : Int) = some (names.any fun x => decide (x.Root = c.Root ∧ x.Kind = c.Kind)) := cfM_specV (fun x => m_gleetop_TopVoicesArePieces_1 x l (i : Int)) _ names (fun x _ => by
  unfold m_gleetop_TopVoicesArePieces_1
  rw [getI_of (n := i) rfl hi, Option.bind_some, Option.bind_some]
  by_cases h1 : x.Root = c.Root
  ·rw [show (x.Root == c.Root) = true by simpa using h1, ifB_true]
   by_cases h3 : x.Kind = c.Kind
   ·rw [show (x.Kind == c.Kind) = true by simpa using h3, decide_eq_true ⟨h1, h3⟩]
   ·rw [show (x.Kind == c.Kind) = false by simpa using h3, decide_eq_false (fun h => h3 h.2)]
  ·rw [show (x.Root == c.Root) = false by simpa using h1, ifB_false, decide_eq_false (fun h => h1 h.1)])
 rw [h2]
 congr 1
 obtain ⟨x, hx, h3⟩ := h
 exact List.any_eq_true.2 ⟨x, hx, decide_eq_true h3⟩
theorem tones_l4 {v : List (List Int)} {k : Nat} (hv : ∀ w ∈ v, k < w.length) (hl : v.length ≤ 1000) : rangeM (m_gleetop_TopVoicesArePieces_l4 k) 0 v [] = some (.brk ((v.map fun w => nt w k).map tone1)) := by
 have h := rangeM_appX (m_gleetop_TopVoicesArePieces_l4 k) (fun w => [tone1 (nt w k)]) 2000 1 v 0 [] (fun _ _ => by simp) (fun i w s hw hs => by
  unfold m_gleetop_TopVoicesArePieces_l4
  rw [getI_of (n := k) rfl (nt_get (hv w hw)), Option.bind_some, appM_of (by simp; omega) (by omega), Option.bind_some]
  rfl) (by simp; omega)
 rw [h, List.nil_append, List.map_map, List.map_eq_flatMap]
 rfl
theorem nt_map {v : List (List Int)} {k i : Nat} {w : List Int} (hi : v[i]? = some w) : nt (v.map fun w => nt w k) i = nt w k := by
 unfold nt
 rw [List.getD_eq_getElem?_getD, List.getElem?_map, hi]; rfl
theorem voices_l3 {n : Nat} (hn : few n) {v : List (List Int)} (hvl : v.length = n) {rs : List TRange} (hv : ∀ w ∈ v, RowOK rs.length w) (hrs : rs.length ≤ 5) {i : Nat} {w : List Int} (hi : v[i]? = some w) (y : Int × Bool × Int) (z : Int) :
  rangeM (m_gleetop_TopVoicesArePieces_l3 (v, y) (B4 n) (begs n, z) i) 0 rs [] = some (.brk w) := by
 have hn3 : 1 ≤ n ∧ n ≤ 3 := by unfold few at hn; omega
 have hwo := hv w (List.mem_of_getElem? hi)
 have hwl := hwo.len
 have hin : i < n := by have := (List.getElem?_eq_some_iff.1 hi).1; omega
 have hbg : (begs n)[i]? = some ⟨(i : Int), 1⟩ := by
  unfold begs
  rw [List.getElem?_map, List.getElem?_range hin]; rfl
 obtain ⟨s, h1, h2⟩ := rangeM_invx (m_gleetop_TopVoicesArePieces_l3 (v, y) (B4 n) (begs n, z) i) rs (fun k s => s = w.take k) (by
  rintro k r s hr rfl
  have hk := (List.getElem?_eq_some_iff.1 hr).1
  refine ⟨_, ?_, rfl⟩
  have hS := Sounds1 hn (xs := v.map fun w => nt w k) (by rw [List.length_map]; exact hvl) (fun x hx => by
   obtain ⟨u, hu, rfl⟩ := List.mem_map.1 hx
   have hul := (hv u hu).len
   exact (hv u hu).notes _ (List.mem_of_getElem? (nt_get (by omega)))) hin
  rw [nt_map hi] at hS
  unfold m_gleetop_TopVoicesArePieces_l3
  simp only
  rw [tones_l4 (fun u hu => by rw [(hv u hu).len]; exact hk) (by omega), Option.bind_some, fin_brk, getI_of (n := i) rfl hbg, Option.bind_some, hS, Option.bind_some]
  simp only
  rw [show ((0 : Int) != 0) = false from rfl, ifB_false, show (!true) = false from rfl, ifB_false, getI_of (n := i) rfl hi, Option.bind_some, getI_of (n := k) rfl (nt_get (by omega)), Option.bind_some, show (nt w k != nt w k) = false by simp, Option.bind_some, fin_inl, ifB_false, appM_of (by simp; omega) (by omega), Option.bind_some]
  congr 2
  have := nt_get (is := w) (k := k) (by omega)
  rw [List.take_add_one, this]; rfl) [] rfl
 rw [h1, h2, ← hwl, List.take_length]
theorem TopVoicesArePieces_true (L : List Int) : m_gleetop_TopVoicesArePieces L = some true := by
 unfold m_gleetop_TopVoicesArePieces
 obtain ⟨many, h1, h2, h3⟩ := Range_spec L (p := 0) (a := 1) (b := 3) (by omega) (by omega) (by omega) (by omega) (by omega)
 rw [h1, Option.bind_some]
 simp only
 obtain ⟨l, q1, h4, h5, h6, hlm⟩ := Chords_len L (q := 0 + 1) (many := many) (by omega) (by omega) (by omega) (by omega)
 rw [h4, Option.bind_some]
 simp only
 obtain ⟨rs, q2, h7, h8, h9⟩ := Ranges_spec L (p := q1) (by omega) (by omega)
 rw [h7, Option.bind_some]
 simp only
 obtain ⟨leap, h10, h11, h13⟩ := Range_spec L (p := q2) (a := 4) (b := 12) (by omega) (by omega) (by omega) (by omega) (by omega)
 rw [h10, Option.bind_some]
 simp only
 obtain ⟨cf, hcf, hcr⟩ := ChordsFault_total l 12
 have hl0 : ¬ l.length = 0 := by omega
 have hf : few l.length := by unfold few; omega
 have hbf := bestFault_E hcf rs leap
 by_cases hc0 : cf = 0
 ·subst hc0
  by_cases hr0 : rangesF rs = 0
  ·have hr := rangesF_zero hr0
   have hc := hcr rfl
   have hfb : m_chord_bestFault l rs leap = some 0 := by
    rw [hbf]
    unfold faultB leapF
    rw [if_neg hl0, if_pos rfl, if_pos hr0, if_pos (by omega)]
   rcases Best_P (by omega) (by omega) hc hr (leap := leap) (by omega) hfb with ⟨-, b1⟩ | ⟨-, ⟨-, b1⟩ | ⟨v, hv, b1, -⟩⟩
   ·rw [b1, Option.bind_some]
    simp only
    rw [show ((12 : Int) != 0) = true from rfl, ifB_true, Option.bind_some, fin_inl, ifB_true, hcf, Option.bind_some, show ((0 : Int) != 0) = false from rfl, ifB_false, RangesFault_E, hr0, Option.bind_some, show ((0 : Int) != 0) = false from rfl, ifB_false, show (true == ((12 : Int) == 12)) = true from rfl, ifB_true, h10facts_true]
    rfl
   ·rw [b1, Option.bind_some]
    simp only
    rw [show ((0 : Int) != 0) = false from rfl, ifB_false, Option.bind_some, fin_inl, show (!false) = true from rfl, ifB_true, hcf, Option.bind_some, show ((0 : Int) != 0) = false from rfl, ifB_false, RangesFault_E, hr0, Option.bind_some, show ((0 : Int) != 0) = false from rfl, ifB_false, show (false == ((0 : Int) == 12)) = true from rfl, ifB_true, h10facts_true]
    rfl
   ·have hlv := inRs_len _ _ hv.1
    rw [List.length_map] at hlv
    have hrl := hr.len
    rw [b1, Option.bind_some]
    simp only
    have hm : makeM 40 (TBar.mk 0 0 0 0 false) (l.length : Int) = some (List.replicate l.length (TBar.mk 0 0 0 0 false)) := by
     unfold makeM
     rw [if_pos (by unfold maxLen; omega)]
     simp
    obtain ⟨s, g1, g2⟩ := rangeM_invx m_gleetop_TopVoicesArePieces_l1 (List.replicate l.length (TBar.mk 0 0 0 0 false)) (fun i s => s = List.replicate i bar4 ++ List.replicate (l.length - i) (TBar.mk 0 0 0 0 false)) (by
     rintro i x s hx rfl
     have hi := (List.getElem?_eq_some_iff.1 hx).1
     rw [List.length_replicate] at hi
     refine ⟨_, ?_, rfl⟩
     have e : l.length - i = (l.length - (i + 1)) + 1 := by omega
     unfold m_gleetop_TopVoicesArePieces_l1
     rw [e, List.replicate_succ, get_at (by simp), Option.bind_some, show ((i : Int)).toNat = i by omega, set_at (by simp), List.replicate_succ' (n := i), List.append_assoc]
     rfl) (List.replicate l.length (TBar.mk 0 0 0 0 false)) (by rw [Nat.sub_zero]; rfl)
    rw [List.length_replicate, Nat.sub_self, List.replicate_zero, List.append_nil] at g2
    have g2 : s = B4 l.length := g2
    subst g2
    have hbl : (begs l.length).length = l.length := by unfold begs; rw [List.length_map, List.length_range]
    obtain ⟨z, k1, -⟩ := rangeM_invx (m_gleetop_TopVoicesArePieces_l2 (l, q1) (rs, q2) (v, mvT v, true, 0) (B4 l.length) (begs l.length, 0)) l (fun _ _ => True) (by
     rintro i c s hi -
     have hil := (List.getElem?_eq_some_iff.1 hi).1
     refine ⟨(), ?_, trivial⟩
     have hiv : v[i]? = some (v[i]'(by omega)) := List.getElem?_eq_getElem _
     generalize v[i]'(by omega) = w at hiv
     obtain ⟨c', hc', hwc⟩ := ways_row hv hiv
     rw [hi] at hc'
     cases hc'
     obtain ⟨w1, -, w3, -⟩ := RW_ok hr hwc
     have hwl := w1.len
     obtain ⟨m, hOf⟩ := Of_P (n := w) (fun e => by rw [e] at hwl; simp at hwl; omega) (by omega) w1.notes
     unfold m_gleetop_TopVoicesArePieces_l2
     simp only
     rw [voices_l3 hf hlv (fun u hu => (ways_mem hv hr hu).1) hrl.2 hiv, Option.bind_some, fin_brk, hOf, Option.bind_some]
     simp only
     rw [show ((0 : Int) != 0) = false from rfl, ifB_false, named hi (Of_has (hc c (List.mem_of_getElem? hi)) w3 m), Option.bind_some, show (!true) = false from rfl, Option.bind_some, fin_inl, ifB_false]) () trivial
    rw [show ((0 : Int) != 0) = false from rfl, ifB_false, Option.bind_some, fin_inl, show (!true) = false from rfl, ifB_false, hm, Option.bind_some, g1, Option.bind_some, fin_brk, Begins4 hf, Option.bind_some]
    simp only
    rw [show ((0 : Int) != 0) = false from rfl, ifB_false, show (((begs l.length).length : Int) != (l.length : Int)) = false by rw [hbl]; simp, ifB_false, show ((v.length : Int) != (l.length : Int)) = false by rw [hlv]; simp, Option.bind_some, fin_inl, ifB_false, k1, Option.bind_some, fin_brk, h10facts_true]
    rfl
  ·have hfb : m_chord_bestFault l rs leap = some (rangesF rs) := by
    rw [hbf]
    unfold faultB
    rw [if_neg hl0, if_pos rfl, if_neg hr0]
   have hB : m_chord_Best l rs leap = some ([], 0, false, rangesF rs) := by
    unfold m_chord_Best
    rw [hfb, Option.bind_some, show (rangesF rs != 0) = true by simpa using hr0, ifB_true]
   rw [hB, Option.bind_some]
   simp only
   rw [show (rangesF rs != 0) = true by simpa using hr0, ifB_true, Option.bind_some, fin_inl, ifB_true, hcf, Option.bind_some, show ((0 : Int) != 0) = false from rfl, ifB_false, RangesFault_E, Option.bind_some, show (rangesF rs != 0) = true by simpa using hr0, ifB_true, show (true == true) = true from rfl, ifB_true, h10facts_true]
   rfl
 ·have hfb : m_chord_bestFault l rs leap = some cf := by
   rw [hbf]
   unfold faultB
   rw [if_neg hl0, if_neg hc0]
  have hB : m_chord_Best l rs leap = some ([], 0, false, cf) := by
   unfold m_chord_Best
   rw [hfb, Option.bind_some, show (cf != 0) = true by simpa using hc0, ifB_true]
  rw [hB, Option.bind_some]
  simp only
  rw [show (cf != 0) = true by simpa using hc0, ifB_true, Option.bind_some, fin_inl, ifB_true, hcf, Option.bind_some, show (cf != 0) = true by simpa using hc0, ifB_true, show (true == true) = true from rfl, ifB_true, h10facts_true]
  rfl
end Go.G
