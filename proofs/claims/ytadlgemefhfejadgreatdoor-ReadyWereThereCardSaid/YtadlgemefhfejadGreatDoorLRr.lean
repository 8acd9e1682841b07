/- LRr: ReadyWereThere. In plain Lean, no program in sight. -/
import Derived.Test.YtadlgemefhfejadGreatDoorLRy
import Derived.Test.YtadlgemefhfejadGreatDoorLRs
import Derived.Test.YtadlgemefhfejadGreatDoorLCp
import Derived.Test.YtadlgemefhfejadGreatDoorLR1g
namespace Go.G
open Go Go.J
set_option linter.unusedSimpArgs false
set_option linter.unusedVariables false
theorem sing_uniq {g : List TSings} (h : SgOK g) {x y : TSings} (hx : x ∈ g) (hy : y ∈ g) (h1 : x.Singer = y.Singer) (h2 : x.Piece = y.Piece) : x = y := by
 obtain ⟨i, hi, rfl⟩ := List.getElem_of_mem hx
 obtain ⟨j, hj, rfl⟩ := List.getElem_of_mem hy
 have hpw := List.pairwise_iff_getElem.1 h.pw
 have no : ∀ a b : TSings, a.Singer = b.Singer → a.Piece = b.Piece → ¬ ltS a b := fun a b e1 e2 hlt => by
  rcases hlt with g | ⟨_, g⟩
  ·rw [e1] at g; exact bs_irr _ g
  ·rw [e2] at g; exact bs_irr _ g
 rcases Nat.lt_trichotomy i j with k | k | k
 ·exact absurd (hpw i j hi hj k) (no _ _ h1 h2)
 ·subst k; rfl
 ·exact absurd (hpw j i hj hi k) (no _ _ h1.symm h2.symm)
theorem Rehearsed_spec {l : List TSlot} {g : List TSings} {c : List TCame} {a : Int} (h1 : m_rehearse_CheckSlots l = some 0) (hs : SlR l) (hg : SgOK g) (hgl : g.length ≤ 1000) (hc : CmOK c) (ha : isMo a = true) {y : TSings} (hy : y ∈ g) :
  m_rehearse_Rehearsed l g c y.Singer y.Piece a = some (rehN l c y a, 0) := by
 obtain ⟨P, h3, h4⟩ := keeper_ok (g := g) h1 (Sings_ok hg hgl) hc
 have hyk := hg.ok y hy
 have hp : isKey y.Piece = true := by
  rcases hyk.2.1 with e | e <;> rw [e]
  ·exact gk_key.1
  ·exact gk_key.2.1
 unfold m_rehearse_Rehearsed
 rw [h3, Option.bind_some]
 simp only
 rw [optB_some']
 refine anyOrd_of fun q hq => ?_
 rw [show ((0 : Int) != 0) = false from rfl, ifB_false, isKey_prog, sgr4_key _ hyk.1, Option.bind_some, Bool.not_true, ifB_false, isKey_prog, hp, Option.bind_some, Bool.not_true, Option.bind_some, fin_inl, ifB_false, isMo_prog, ha, Option.bind_some, Bool.not_true, ifB_false]
 have hix : m_slices_IndexFunc_api_Sings_api_Sings__rehearse_Rehearsed_1 g y.Singer y.Piece = ixM (fun x => m_rehearse_Rehearsed_1 x y.Singer y.Piece) g := rfl
 obtain ⟨n, k1, k2⟩ := ixM_spec (fun x => m_rehearse_Rehearsed_1 x y.Singer y.Piece) (fun x => sameB x.Singer y.Singer && sameB x.Piece y.Piece) g (fun x _ => by
  unfold m_rehearse_Rehearsed_1
  show ifB (sameB x.Singer y.Singer) (some (sameB x.Piece y.Piece)) _ = _
  cases sameB x.Singer y.Singer <;> rfl)
 rw [hix, k1, Option.bind_some]
 rcases k2 with ⟨rfl, k3⟩ | ⟨k, rfl, hk, -, x, hx, hd⟩
 ·have := k3 y hy
  rw [sameB_iff.2 rfl, sameB_iff.2 rfl] at this
  cases this
 ·rw [Bool.and_eq_true, sameB_iff, sameB_iff] at hd
  have e := sing_uniq hg (List.mem_of_getElem? hx) hy hd.1 hd.2
  subst e
  rw [decide_eq_false (by omega), ifB_false, getI_of rfl hx, Option.bind_some, rehearsed_spec hs (h4.perm hq)]; rfl
def wish1 (n : Int) : List TWish := [⟨gloB, n⟩]
theorem wish1_ok {n : Int} (h : 1 ≤ n ∧ n ≤ 50) : WiOK (wish1 n) := by
 refine ⟨by simp [wish1], fun i x hx => ?_⟩
 cases i with
 | zero =>
  cases hx
  unfold wiF
  rw [gk_key.1, decide_eq_true (by simp only; omega)]; rfl
 | succ i => simp [wish1] at hx
theorem wish1_of (n : Int) (p : ByteArray) : wishOf (wish1 n) p = if p = gloB then some n else none := by
 unfold wishOf wish1
 by_cases e : p = gloB
 ·subst e; simp
 ·rw [if_neg e, List.find?_cons, show decide ((⟨gloB, n⟩ : TWish).Piece = p) = false from decide_eq_false fun g => e g.symm]; rfl
def notR (l : List TSlot) (c : List TCame) (a n : Int) (x : TSings) : Bool := sameB x.Piece gloB && decide (rehN l c x a < n)
theorem lkOrd_tot (a b : Trehearse_lacking) : ∃ c, m_rehearse_Lacking_1 a b = some c := by
 unfold m_rehearse_Lacking_1
 rw [cI_s, Option.bind_some, show m_strings_Compare a.piece b.piece = some (Lib.compareBytes (bytesOf a.piece) (bytesOf b.piece)) from rfl, Option.bind_some, Or_two]
 exact ⟨_, rfl⟩
theorem sortLk (u : List Trehearse_lacking) (h : u.length ≤ 12) : ∃ m, m_slices_SortFunc_rehearse_lacking_rehearse_lacking__rehearse_Lacking_1 u = some m ∧ m.Perm u := by
 obtain ⟨m, h1, h2⟩ := isM_total m_rehearse_Lacking_1 u (by omega) fun x _ y _ => lkOrd_tot x y
 refine ⟨m, ?_, h2⟩
 have e0 : ∀ (v : List Trehearse_lacking) a b, m_slices_insertionSortCmpFunc_rehearse_lacking__rehearse_Lacking_1 v a b = isM m_rehearse_Lacking_1 v a b := fun _ _ _ => rfl
 unfold m_slices_SortFunc_rehearse_lacking_rehearse_lacking__rehearse_Lacking_1 m_bits_Len m_bits_Len64
 rw [show IntKind.wrap .u64 (u.length : Int) = u.length by rw [IntKind.wrap_u64]; omega, if_pos (by omega)]
 simp only [Option.bind_some]
 unfold m_slices_pdqsortCmpFunc_rehearse_lacking__rehearse_Lacking_1
 have h3 : ∀ k, m_slices_pdqsortCmpFunc_rehearse_lacking__rehearse_Lacking_1_l1 u 0 (u.length : Int) k () = some (.ret m) := fun k => by
  unfold m_slices_pdqsortCmpFunc_rehearse_lacking__rehearse_Lacking_1_l1
  rw [w64_id (by omega), decide_eq_true (by omega), ifB_true, e0, h1]; rfl
 rw [loopM_step (h3 _)]; rfl
theorem sort_none : m_slices_SortFunc_rehearse_lacking_rehearse_lacking__rehearse_Lacking_1 [] = some [] := by
 obtain ⟨m, h1, h2⟩ := sortLk [] (by simp)
 rw [h1, List.perm_nil.1 h2]
theorem Lacking_one {l : List TSlot} {g : List TSings} {c : List TCame} {a n : Int} (h1 : m_rehearse_CheckSlots l = some 0) (hs : SlR l) (hg : SgOK g) (hgl : g.length ≤ 100) (hc : CmOK c) (hn : 1 ≤ n ∧ n ≤ 50) (ha : isMo a = true) :
  m_rehearse_Lacking l g c (wish1 n) a = some (if (g.filter fun x => sameB x.Piece gloB) = [] then [] else [⟨gloB, (m_strconv_Itoa ((g.countP (notR l c a n) : Nat) : Int)).getD ByteArray.empty⟩], 0) := by
 obtain ⟨P, h3, h4⟩ := keeper_ok (g := g) h1 (Sings_ok hg (by omega)) hc
 unfold m_rehearse_Lacking
 rw [h3, Option.bind_some]
 simp only
 rw [optB_some']
 refine anyOrd_of fun q hq => ?_
 rw [show ((0 : Int) != 0) = false from rfl, ifB_false, Wishes_ok (wish1_ok hn), Option.bind_some, show ((0 : Int) != 0) = false from rfl, ifB_false, isMo_prog, ha, Option.bind_some, Bool.not_true, ifB_false]
 have key : ∀ (t done : List TSings) (i : Nat), done ++ t = g → rangeM (m_rehearse_Lacking_l4 l g (wish1 n) a q) i t (if (done.filter fun x => sameB x.Piece gloB) = [] then [] else [(gloB, ((done.countP (notR l c a n) : Nat) : Int))]) = some (.brk (if (g.filter fun x => sameB x.Piece gloB) = [] then [] else [(gloB, ((g.countP (notR l c a n) : Nat) : Int))])) := by
  intro t
  induction t with
  | nil => intro done i hd; rw [List.append_nil] at hd; rw [hd]; rfl
  | cons x t ih =>
   intro done i hd
   have hlen : done.length + 1 ≤ 100 := by
    have := congrArg List.length hd
    rw [List.length_append, List.length_cons] at this
    omega
   have hcl := List.countP_le_length (p := notR l c a n) (l := done)
   have hst : m_rehearse_Lacking_l4 l g (wish1 n) a q i x (if (done.filter fun x => sameB x.Piece gloB) = [] then [] else [(gloB, ((done.countP (notR l c a n) : Nat) : Int))]) = some (.nxt (if ((done ++ [x]).filter fun x => sameB x.Piece gloB) = [] then [] else [(gloB, (((done ++ [x]).countP (notR l c a n) : Nat) : Int))])) := by
    unfold m_rehearse_Lacking_l4
    rw [needOf_spec _ _ (wish1_ok hn), wish1_of, Option.bind_some, List.filter_append, List.countP_append]
    by_cases e : x.Piece = gloB
    ·have hsx : sameB x.Piece gloB = true := sameB_iff.2 e
     rw [if_pos e]
     simp only [ifB_true]
     rw [rehearsed_spec hs (h4.perm hq), Option.bind_some, flag_s, Option.bind_some]
     have hne : ¬ (done.filter (fun x => sameB x.Piece gloB) ++ [x].filter (fun x => sameB x.Piece gloB)) = [] := by
      rw [List.filter_cons, if_pos hsx]; simp
     rw [if_neg hne, e]
     have hcnt : (([x].countP (notR l c a n) : Nat) : Int) = flagI (decide (rehN l c x a < n)) := by
      rw [List.countP_cons]
      unfold notR
      rw [hsx]
      cases decide (rehN l c x a < n) <;> rfl
     have hget : (lkM (if (done.filter fun x => sameB x.Piece gloB) = [] then [] else [(gloB, ((done.countP (notR l c a n) : Nat) : Int))]) gloB).getD 0 = ((done.countP (notR l c a n) : Nat) : Int) := by
      by_cases hd0 : (done.filter fun x => sameB x.Piece gloB) = []
      ·rw [if_pos hd0]
       have : done.countP (notR l c a n) = 0 := List.countP_eq_zero.2 fun z hz => by
        unfold notR
        have hzf : sameB z.Piece gloB = false := Bool.eq_false_iff.2 fun g => by
         have : z ∈ done.filter fun x => sameB x.Piece gloB := List.mem_filter.2 ⟨hz, g⟩
         rw [hd0] at this; cases this
        rw [hzf]; simp
       rw [this]; rfl
      ·rw [if_neg hd0, lkM_cons, if_pos rfl]; rfl
     rw [hget, w64_id (by rw [← hcnt]; have := List.countP_le_length (p := notR l c a n) (l := [x]); rw [List.length_singleton] at this; omega)]
     congr 2
     rw [Int.natCast_add, hcnt]
     by_cases hd0 : (done.filter fun x => sameB x.Piece gloB) = []
     ·rw [if_pos hd0]; rfl
     ·rw [if_neg hd0]
      unfold putM hasM
      simp
    ·have hsx : sameB x.Piece gloB = false := Bool.eq_false_iff.2 fun g => e (sameB_iff.1 g)
     rw [if_neg e]
     simp only [ifB_false]
     have h0 : ([x].filter fun x => sameB x.Piece gloB) = [] := by rw [List.filter_cons, if_neg (by rw [hsx]; simp)]; rfl
     have h5 : [x].countP (notR l c a n) = 0 := List.countP_eq_zero.2 fun z hz => by
      rw [List.mem_singleton.1 hz]
      unfold notR
      rw [hsx]; simp
     rw [h0, List.append_nil, h5, Nat.add_zero]
   rw [rangeM_cons, hst, Option.bind_some, run_nxt]
   exact ih (done ++ [x]) (i + 1) (by rw [List.append_assoc]; exact hd)
 have h0 := key g [] 0 rfl
 rw [List.filter_nil, if_pos rfl] at h0
 rw [h0, Option.bind_some, fin_brk]
 have hcl := List.countP_le_length (p := notR l c a n) (l := g)
 by_cases hg0 : (g.filter fun x => sameB x.Piece gloB) = []
 ·rw [if_pos hg0, if_pos hg0, anyOrd_nil, rangeM_nil, Option.bind_some, fin_brk, sort_none, Option.bind_some, rangeM_nil]; rfl
 ·rw [if_neg hg0, if_neg hg0, anyOrd_one]
  have e1 : ∀ m : Int, rangeM m_rehearse_Lacking_l5 0 [(gloB, m)] [] = some (.brk [⟨gloB, m⟩]) := fun m => by
   rw [rangeM_cons]
   unfold m_rehearse_Lacking_l5
   rw [appM_of (by simp) (by omega)]; rfl
  have e2 : ∀ m : Trehearse_lacking, m_slices_SortFunc_rehearse_lacking_rehearse_lacking__rehearse_Lacking_1 [m] = some [m] := fun m => by
   obtain ⟨m', h1, h2⟩ := sortLk [m] (by simp)
   rw [h1, List.perm_singleton.1 h2]
  rw [e1, Option.bind_some, fin_brk, e2, Option.bind_some, rangeM_cons]
  unfold m_rehearse_Lacking_l6
  obtain ⟨z, hz⟩ : ∃ z, m_strconv_Itoa ((g.countP (notR l c a n) : Nat) : Int) = some z := by
   unfold m_strconv_Itoa
   rw [if_pos (by omega)]
   exact ⟨_, rfl⟩
  simp only
  rw [hz, Option.bind_some, appM_of (by simp) (by omega)]; rfl
theorem nums_0 : m_gleeref2_Numbers [((0 : Nat) : Int)] = m_strconv_Itoa ((0 : Nat) : Int) := by kernel_rfl
theorem nums_1 : m_gleeref2_Numbers [((1 : Nat) : Int)] = m_strconv_Itoa ((1 : Nat) : Int) := by kernel_rfl
theorem nums_2 : m_gleeref2_Numbers [((2 : Nat) : Int)] = m_strconv_Itoa ((2 : Nat) : Int) := by kernel_rfl
theorem nums_3 : m_gleeref2_Numbers [((3 : Nat) : Int)] = m_strconv_Itoa ((3 : Nat) : Int) := by kernel_rfl
theorem nums_4 : m_gleeref2_Numbers [((4 : Nat) : Int)] = m_strconv_Itoa ((4 : Nat) : Int) := by kernel_rfl
theorem nums_5 : m_gleeref2_Numbers [((5 : Nat) : Int)] = m_strconv_Itoa ((5 : Nat) : Int) := by kernel_rfl
theorem nums_6 : m_gleeref2_Numbers [((6 : Nat) : Int)] = m_strconv_Itoa ((6 : Nat) : Int) := by kernel_rfl
theorem nums_7 : m_gleeref2_Numbers [((7 : Nat) : Int)] = m_strconv_Itoa ((7 : Nat) : Int) := by kernel_rfl
theorem nums_8 : m_gleeref2_Numbers [((8 : Nat) : Int)] = m_strconv_Itoa ((8 : Nat) : Int) := by kernel_rfl
theorem numbers_small (n : Nat) (h : n ≤ 8) : m_gleeref2_Numbers [(n : Int)] = m_strconv_Itoa (n : Int) := by
 have : n = 0 ∨ n = 1 ∨ n = 2 ∨ n = 3 ∨ n = 4 ∨ n = 5 ∨ n = 6 ∨ n = 7 ∨ n = 8 := by omega
 rcases this with rfl | rfl | rfl | rfl | rfl | rfl | rfl | rfl | rfl
 ·exact nums_0
 ·exact nums_1
 ·exact nums_2
 ·exact nums_3
 ·exact nums_4
 ·exact nums_5
 ·exact nums_6
 ·exact nums_7
 ·exact nums_8
theorem errs_three : m_gleekeep2_errs [0, 0, 0] = some 0 := by kernel_rfl
theorem ReadyWereThere_true (L : List Int) : m_gleekeep2_ReadyWereThere L = some true := by
 unfold m_gleekeep2_ReadyWereThere
 obtain ⟨l, p1, e1, a1, b1, c1, -⟩ := RightSlots_right L (p := 0) 4 (by omega) (by omega) (by omega)
 obtain ⟨g, p2, e2, a2, b2, c2, d2⟩ := RightSings_spec L (p := p1) a1 (by omega)
 obtain ⟨n, e3, n1, n2⟩ := Range_spec L (p := p2) (a := 0) (b := 12) a2 (by omega) (by omega) (by omega) (by omega)
 obtain ⟨m, rfl⟩ : ∃ m : Nat, n = m := ⟨n.toNat, by omega⟩
 obtain ⟨c, p4, e4, a4, b4, -, d4, -⟩ := RightCames_spec L (p := p2 + 1) m (by omega) (by omega) (by omega)
 obtain ⟨a, e5, x1, x2⟩ := Range_spec L (p := p4) (a := 0) (b := 200) a4 (by omega) (by omega) (by omega) (by omega)
 obtain ⟨need, e6, y1, y2⟩ := Range_spec L (p := p4 + 1) (a := 1) (b := 50) (by omega) (by omega) (by omega) (by omega) (by omega)
 obtain ⟨dl, e7, z1, z2⟩ := Range_spec L (p := p4 + 1 + 1) (a := 0) (b := 50) (by omega) (by omega) (by omega) (by omega) (by omega)
 have e1' : m_gleemake_Stream_RightSlots L 0 4 = some (l, p1) := e1
 rw [e1', Option.bind_some]
 simp only
 rw [e2, Option.bind_some]
 simp only
 rw [e3, Option.bind_some]
 simp only
 rw [e4, Option.bind_some]
 simp only
 rw [e5, Option.bind_some]
 simp only
 rw [e6, Option.bind_some]
 simp only
 have hS := c1.chk
 have hR := c1.rise
 have hG := Sings_ok d2 (by omega)
 have hma : isMo a = true := decide_eq_true (by omega)
 have hmb : isMo (a + dl) = true := decide_eq_true (by omega)
 have hW := wish1_ok (n := need) ⟨y1, y2⟩
 have hrdy : ∀ t, isMo t = true → m_rehearse_Ready l g c (wish1 need) gloB t = some ((g.filter fun x => sameB x.Piece gloB && decide (rehN l c x t ≥ need)).map (·.Singer), 0) := fun t ht => by
  rw [Ready_spec hS hR hG (by omega) d4 hW gk_key.1 ht, wish1_of, if_pos rfl, Option.getD_some]
 change ((m_rehearse_Ready l g c (wish1 need) gloB a).bind fun y13 => (m_gleemake_Stream_Range L (p4 + 1 + 1) 0 50).bind fun y15 => (m_rehearse_Ready l g c (wish1 need) gloB (w64 (a + y15.1))).bind fun y16 => (m_rehearse_Lacking l g c (wish1 need) a).bind _) = _
 rw [hrdy a hma, Option.bind_some, e7, Option.bind_some]
 simp only
 rw [w64_id (by omega), hrdy _ hmb, Option.bind_some, Lacking_one hS hR d2 (by omega) d4 ⟨y1, y2⟩ hma, Option.bind_some]
 simp only
 rw [errs_three, Option.bind_some, show ((0 : Int) != 0) = false from rfl, ifB_false]
 have hcontains : ∀ (t : Int) (y : TSings), y ∈ g → y.Piece = gloB → sameP ((g.filter fun x => sameB x.Piece gloB && decide (rehN l c x t ≥ need)).map (·.Singer)) y.Singer = decide (rehN l c y t ≥ need) := by
  intro t y hy hyp
  unfold sameP
  rw [Bool.eq_iff_iff, List.any_eq_true, decide_eq_true_eq]
  constructor
  ·rintro ⟨k, hk, hks⟩
   obtain ⟨x, hx, rfl⟩ := List.mem_map.1 hk
   obtain ⟨hxg, hxp⟩ := List.mem_filter.1 hx
   rw [Bool.and_eq_true, sameB_iff, decide_eq_true_eq] at hxp
   have := sing_uniq d2 hxg hy (sameB_iff.1 hks).symm (hxp.1.trans hyp.symm)
   rw [← this]; exact hxp.2
  ·intro h
   exact ⟨y.Singer, List.mem_map.2 ⟨y, List.mem_filter.2 ⟨hy, by rw [Bool.and_eq_true, sameB_iff, decide_eq_true_eq]; exact ⟨hyp, h⟩⟩, rfl⟩, sameB_iff.2 rfl⟩
 have hloop : ∀ (t done : List TSings) (i : Nat), done ++ t = g → rangeM (m_gleekeep2_ReadyWereThere_l1 (l, p1) (g, p2) (c, p4) (a, p4 + 1) (need, p4 + 1 + 1) ((g.filter fun x => sameB x.Piece gloB && decide (rehN l c x a ≥ need)).map (·.Singer), 0) ((g.filter fun x => sameB x.Piece gloB && decide (rehN l c x (a + dl) ≥ need)).map (·.Singer), 0)) i t (((done.filter fun x => sameB x.Piece gloB).length : Nat) : Int) = some (.brk (((g.filter fun x => sameB x.Piece gloB).length : Nat) : Int)) := by
  intro t
  induction t with
  | nil => intro done i hd; rw [List.append_nil] at hd; rw [hd]; rfl
  | cons x t ih =>
   intro done i hd
   have hx : x ∈ g := by rw [← hd]; simp
   have hlen : done.length ≤ 8 := by
    have := congrArg List.length hd
    rw [List.length_append, List.length_cons] at this
    omega
   have hfl := List.length_filter_le (fun x : TSings => sameB x.Piece gloB) done
   have hst : m_gleekeep2_ReadyWereThere_l1 (l, p1) (g, p2) (c, p4) (a, p4 + 1) (need, p4 + 1 + 1) ((g.filter fun x => sameB x.Piece gloB && decide (rehN l c x a ≥ need)).map (·.Singer), 0) ((g.filter fun x => sameB x.Piece gloB && decide (rehN l c x (a + dl) ≥ need)).map (·.Singer), 0) i x (((done.filter fun x => sameB x.Piece gloB).length : Nat) : Int) = some (.nxt ((((done ++ [x]).filter fun x => sameB x.Piece gloB).length : Nat) : Int)) := by
    unfold m_gleekeep2_ReadyWereThere_l1
    rw [List.filter_append, List.length_append]
    simp only
    change ifB (!(sameB x.Piece gloB)) _ _ = _
    cases hsx : sameB x.Piece gloB with
    | false =>
     have h0 : ([x].filter fun x => sameB x.Piece gloB) = [] := by rw [List.filter_cons, if_neg (by rw [hsx]; simp)]; rfl
     rw [h0]; rfl
    | true =>
     have hxp := sameB_iff.1 hsx
     have h0 : ([x].filter fun x => sameB x.Piece gloB) = [x] := by rw [List.filter_cons, if_pos hsx]; rfl
     rw [Bool.not_true, ifB_false]
     change ((m_rehearse_Rehearsed l g c x.Singer gloB a).bind _) = _
     have hreh := Rehearsed_spec hS hR d2 (by omega) d4 hma hx
     rw [hxp] at hreh
     rw [hreh, Option.bind_some]
     simp only
     rw [show ((0 : Int) != 0) = false from rfl, ifB_false, Contains_s, Option.bind_some, hcontains a x hx hxp, Contains_s, hcontains (a + dl) x hx hxp]
     have hmono := rehN_mono l c x (a := a) (b := a + dl) (by omega)
     rw [show (decide (rehN l c x a ≥ need) == decide (rehN l c x a ≥ need)) = true from beq_self_eq_true _, Bool.not_true, ifB_false]
     simp only [Option.bind_some]
     have hw : w64 ((((done.filter fun x => sameB x.Piece gloB).length : Nat) : Int) + 1) = (((done.filter fun x => sameB x.Piece gloB).length + ([x].filter fun x => sameB x.Piece gloB).length : Nat) : Int) := by
      rw [w64_id (by omega), h0, List.length_singleton]; omega
     by_cases hr : rehN l c x a ≥ need
     ·rw [decide_eq_true hr, ifB_true, decide_eq_true (show rehN l c x (a + dl) ≥ need by omega)]
      simp only [Option.bind_some, Bool.not_true, fin_inl, ifB_false]
      rw [hw]
     ·rw [decide_eq_false hr, ifB_false]
      simp only [Option.bind_some, fin_inl, ifB_false]
      rw [hw]
   rw [rangeM_cons, hst, Option.bind_some, run_nxt]
   exact ih (done ++ [x]) (i + 1) (by rw [List.append_assoc]; exact hd)
 have hl0 := hloop g [] 0 rfl
 rw [List.filter_nil] at hl0
 have hl0' : rangeM (m_gleekeep2_ReadyWereThere_l1 (l, p1) (g, p2) (c, p4) (a, p4 + 1) (need, p4 + 1 + 1) ((g.filter fun x => sameB x.Piece gloB && decide (rehN l c x a ≥ need)).map (·.Singer), 0) ((g.filter fun x => sameB x.Piece gloB && decide (rehN l c x (a + dl) ≥ need)).map (·.Singer), 0)) 0 g 0 = some (.brk (((g.filter fun x => sameB x.Piece gloB).length : Nat) : Int)) := hl0
 rw [hl0', Option.bind_some, fin_brk]
 by_cases hg0 : (g.filter fun x => sameB x.Piece gloB) = []
 ·rw [if_pos hg0, hg0]
  simp only [List.length_nil]
  rw [show (((0 : Nat) : Int) == 0) = true from rfl, ifB_true, ifB_true, ready_true]; rfl
 ·have hpos : (g.filter fun x => sameB x.Piece gloB).length ≠ 0 := fun e => hg0 (List.eq_nil_of_length_eq_zero e)
  rw [if_neg hg0, show ((((g.filter fun x => sameB x.Piece gloB).length : Nat) : Int) == 0) = false by rw [beq_eq_false_iff_ne]; omega, ifB_false]
  simp only [List.length_singleton]
  rw [show (((1 : Nat) : Int) == 1) = true from rfl, ifB_true, getI_of (i := 0) (n := 0) (x := ⟨gloB, (m_strconv_Itoa ((g.countP (notR l c a need) : Nat) : Int)).getD ByteArray.empty⟩) rfl rfl, Option.bind_some]
  have hcnt : g.countP (notR l c a need) + (g.filter fun x => sameB x.Piece gloB && decide (rehN l c x a ≥ need)).length = (g.filter fun x => sameB x.Piece gloB).length := by
   rw [List.countP_eq_length_filter]
   clear hl0 hl0' hloop hcontains hg0 hpos hG d2 c2 e2 hrdy
   induction g with
   | nil => rfl
   | cons x g ih =>
    rw [List.filter_cons, List.filter_cons, List.filter_cons]
    unfold notR at ih ⊢
    cases hsx : sameB x.Piece gloB with
    | false => simpa using ih
    | true =>
     by_cases hr : rehN l c x a ≥ need
     ·simp only [Bool.true_and, decide_eq_true hr, decide_eq_false (show ¬ rehN l c x a < need by omega), if_true, List.length_cons]
      simp only [Bool.false_eq_true, if_false]
      omega
     ·simp only [Bool.true_and, decide_eq_false hr, decide_eq_true (show rehN l c x a < need by omega), if_true, List.length_cons]
      simp only [Bool.false_eq_true, if_false]
      omega
  have hfl := List.length_filter_le (fun x : TSings => sameB x.Piece gloB) g
  rw [List.length_map]
  have hw : w64 ((((g.filter fun x => sameB x.Piece gloB).length : Nat) : Int) - (((g.filter fun x => sameB x.Piece gloB && decide (rehN l c x a ≥ need)).length : Nat) : Int)) = ((g.countP (notR l c a need) : Nat) : Int) := by
   rw [w64_id (by omega)]; omega
  rw [hw, numbers_small _ (by omega)]
  obtain ⟨z, hz⟩ : ∃ z, m_strconv_Itoa ((g.countP (notR l c a need) : Nat) : Int) = some z := by
   unfold m_strconv_Itoa
   rw [if_pos (by omega)]
   exact ⟨_, rfl⟩
  rw [hz, Option.bind_some, Option.getD_some, show (z.toList == z.toList) = true from beq_self_eq_true _, ifB_true, ready_true]; rfl
end Go.G
