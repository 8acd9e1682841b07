/- LB9: the law of what sounds where bars begin, and of lyrics. In plain Lean, no program in sight. -/
import Derived.Test.YtdeoejkgmeemaagGreatDoorLB8
import Derived.Test.YtdeoejkgmeemaagGreatDoorLR1
namespace Go.G
open Go Go.J
set_option linter.unusedSimpArgs false
theorem low_facts2 (k : Nat) : ∃ a b : Nat, lowF k 192 = ⟨(a : Int), (b : Int)⟩ ∧ 1 ≤ b ∧ b ≤ 192 ∧ Nat.gcd a b = 1 ∧ (192 : Int).tmod (b : Int) = 0 ∧ a ≤ k := by
  obtain ⟨a, ha⟩ := Nat.gcd_dvd_left k 192
  obtain ⟨b, hb⟩ := Nat.gcd_dvd_right k 192
  have hg0 : 0 < Nat.gcd k 192 := Nat.gcd_pos_of_pos_right _ (by omega)
  have hgg : Nat.gcd k 192 = Nat.gcd k 192 * Nat.gcd a b := by
    have h := Nat.gcd_mul_left (Nat.gcd k 192) a b
    rw [← ha, ← hb] at h
    exact h
  have f1 : k / Nat.gcd k 192 = a := by conv => lhs; arg 1; rw [ha]
                                        exact Nat.mul_div_cancel_left a hg0
  have f2 : 192 / Nat.gcd k 192 = b := by conv => lhs; arg 1; rw [hb]
                                          exact Nat.mul_div_cancel_left b hg0
  have e1 : (lowF k 192) = ⟨(a : Int), (b : Int)⟩ := by
    unfold lowF
    congr 1
    · rw [← f1]; rfl
    · rw [← f2]; rfl
  have hak : a ≤ k := by rw [← f1]; exact Nat.div_le_self _ _
  generalize Nat.gcd k 192 = g at *
  have hb0 : 0 < b := Nat.pos_of_ne_zero fun h => by rw [h] at hb; simp at hb
  have hb192 : b ≤ 192 := Nat.le_of_dvd (by omega) ⟨g, by rw [Nat.mul_comm]; exact hb⟩
  have hm : (192 : Int).tmod (b : Int) = 0 := by
    have : 192 % b = 0 := Nat.mod_eq_zero_of_dvd ⟨g, by rw [Nat.mul_comm]; exact hb⟩
    show ((192 % b : Nat) : Int) = 0
    rw [this]; rfl
  exact ⟨a, b, e1, hb0, hb192, Nat.eq_of_mul_eq_mul_left hg0 (by rw [Nat.mul_one]; exact hgg.symm), hm, hak⟩
theorem isLowest_any (k : Nat) : m_piece_isLowest (lowF k 192) = some true := by
  obtain ⟨a, b, e, hb, -, hg, -⟩ := low_facts2 k
  rw [e]
  unfold m_piece_isLowest
  simp only
  rw [lowLoop, Option.bind_some, fin_brk, hg, decide_eq_true (show (b : Int) > 0 by omega), ifB_true]
  rfl
def pre (bs : List TBar) (i : Nat) : Int := ((bs.take i).map lB).sum
theorem sum_lB {bs : List TBar} (hb : ∀ x ∈ bs, bad x = false) : 0 ≤ (bs.map lB).sum ∧ (bs.map lB).sum ≤ 3072 * bs.length := by
  induction bs with
  | nil => simp
  | cons x t ih =>
    have h1 := ih fun y hy => hb y (List.mem_cons_of_mem _ hy)
    have h2 := long_spec (hb x (List.mem_cons_self ..))
    simp only [List.map_cons, List.sum_cons, List.length_cons]
    omega
theorem pre_rng {bs : List TBar} (hb : ∀ x ∈ bs, bad x = false) (i : Nat) : 0 ≤ pre bs i ∧ pre bs i ≤ 3072 * bs.length := by
  have h := sum_lB (bs := bs.take i) fun x hx => hb x (List.mem_of_mem_take hx)
  have h2 : (bs.take i).length ≤ bs.length := by simp; omega
  unfold pre
  omega
theorem pre_succ {bs : List TBar} {i : Nat} {x : TBar} (hx : bs[i]? = some x) : pre bs (i + 1) = pre bs i + lB x := by
  unfold pre
  rw [List.take_add_one, hx, List.map_append, List.sum_append]
  simp
theorem pre_lt {bs : List TBar} (hb : ∀ x ∈ bs, bad x = false) {i : Nat} (hi : i < bs.length) : pre bs i < (bs.map lB).sum := by
  have e : (bs.map lB).sum = pre bs i + ((bs.drop i).map lB).sum := by
    unfold pre
    conv => lhs; rw [← List.take_append_drop i bs]
    rw [List.map_append, List.sum_append]
  have h1 := sum_lB (bs := bs.drop (i + 1)) fun x hx => hb x (List.mem_of_mem_drop hx)
  have h2 := long_spec (hb _ (List.getElem_mem hi))
  rw [List.drop_eq_getElem_cons hi, List.map_cons, List.sum_cons] at e
  omega
theorem Begins_good {bs : List TBar} (hc : cB bs = 0) : m_piece_Begins bs = some ((List.range bs.length).map fun i => lowF (pre bs i).toNat 192, 0) := by
  obtain ⟨hl, r, hg, -⟩ := cB_zero hc
  have hb := goB_all bs _ r hg
  unfold m_piece_Begins
  rw [CheckBars_spec bs (by omega), hc, Option.bind_some, bne_self_eq_false, ifB_false]
  obtain ⟨s, h1, h2⟩ := rangeM_invx m_piece_Begins_l1 bs (fun i s => s = (pre bs i, (List.range i).map fun i => lowF (pre bs i).toNat 192)) (by
    rintro i x s hx rfl
    have hi := (List.getElem?_eq_some_iff.1 hx).1
    have hp := pre_rng hb i
    have hlow := low_spec (n := pre bs i) hp.1 (by omega)
    obtain ⟨l1, l2, l3, -⟩ := long_spec (hb x (List.mem_of_getElem? hx))
    unfold m_piece_Begins_l1
    simp only
    rw [hlow.1, Option.bind_some, appM_of (by simp; omega) (by omega), Option.bind_some, l1, Option.bind_some, w64_id (by omega), range_map_succ (fun i => lowF (pre bs i).toNat 192), ← pre_succ hx]
    exact ⟨_, rfl, rfl⟩) (0, []) rfl
  rw [h1, h2]; rfl
theorem sounds_sum : ∀ (l : List TBar) (i : Nat) (s : Int), (∀ x ∈ l, bad x = false) → 0 ≤ s → s + 3072 * l.length ≤ 1000000000 → rangeM m_piece_Sounds_l1 i l s = some (.brk (s + (l.map lB).sum)) := by
  intro l
  induction l with
  | nil => intro i s _ _ _; simp
  | cons x l ih =>
    intro i s hb h0 h1
    obtain ⟨h2, h4, h5, -⟩ := long_spec (hb x (List.mem_cons_self ..))
    simp only [List.length_cons] at h1
    have e1 : m_piece_Sounds_l1 i x s = some (.nxt (s + lB x)) := by unfold m_piece_Sounds_l1; rw [h2, Option.bind_some, w64_id (by omega)]
    rw [rangeM_cons, e1, Option.bind_some, run_nxt, ih (i + 1) (s + lB x) (fun y hy => hb y (List.mem_cons_of_mem _ hy)) (by omega) (by omega), List.map_cons, List.sum_cons, Int.add_assoc]
theorem sounds_hit (f : TFraction) (u : Int) (hf : m_piece_units f = some u) (hu : u ≤ 10000000) (y : TTone) (B : List TTone) (hy : TGood y) : ∀ (A : List TTone) (i : Nat) (s : Int), (∀ x ∈ A, TGood x) → 0 ≤ s → u = s + sumU A →
    rangeM (m_piece_Sounds_l2 f) i (A ++ y :: B) s = some (.ret (max y.Note 0, y.Note != (-1), 0))
  | [], i, s, _, h0, hs => by
    have e : u = s := by rw [hs]; exact Int.add_zero s
    obtain ⟨h2, h3, h4⟩ := units_spec hy
    have e1 : m_piece_Sounds_l2 f i y s = some (.ret (max y.Note 0, y.Note != (-1), 0)) := by
      unfold m_piece_Sounds_l2
      simp only [h2, hf, Option.bind_some]
      rw [w64_id (n := s + uT y) (by omega), decide_eq_true (by omega), ifB_true]
    rw [List.nil_append, rangeM_cons, e1]; rfl
  | x :: A, i, s, hg, h0, hs => by
    obtain ⟨h2, h3, h4⟩ := units_spec (hg x (List.mem_cons_self ..))
    have hn := sumG_nonneg (fun z hz => hg z (List.mem_cons_of_mem _ hz) : ∀ z ∈ A, TGood z)
    have hsx : sumU (x :: A) = uT x + sumU A := rfl
    have e1 : m_piece_Sounds_l2 f i x s = some (.nxt (s + uT x)) := by
      unfold m_piece_Sounds_l2
      simp only [h2, hf, Option.bind_some]
      rw [w64_id (n := s + uT x) (by omega), decide_eq_false (by omega), ifB_false]
    rw [List.cons_append, rangeM_cons, e1, Option.bind_some, run_nxt]
    exact sounds_hit f u hf hu y B hy A (i + 1) (s + uT x) (fun z hz => hg z (List.mem_cons_of_mem _ hz)) (by omega) (by omega)
theorem Sounds_at {bs : List TBar} {t A B : List TTone} {y : TTone} {i : Nat} (hc : cB bs = 0) (hf : FillsR bs t) (hi : i < bs.length) (ht : t = A ++ y :: B) (hs : sumU A = pre bs i) :
    m_piece_Sounds bs t (lowF (pre bs i).toNat 192) = some (max y.Note 0, y.Note != (-1), 0) := by
  obtain ⟨hl, r, hg, -⟩ := cB_zero hc
  have hb := goB_all bs _ r hg
  have hp := pre_rng hb i
  have hlt := pre_lt hb hi
  have hS := sum_lB hb
  obtain ⟨-, v1, v2⟩ := low_spec (n := pre bs i) hp.1 (by omega)
  have vp := v2.p
  rw [v1] at vp
  obtain ⟨a, b, e, b1, b2, b3, b4, b5⟩ := low_facts2 (pre bs i).toNat
  have hnum : (lowF (pre bs i).toNat 192).Num = a := by rw [e]
  have hden : (lowF (pre bs i).toNat 192).Den = b := by rw [e]
  have hgood := hf.goods
  unfold m_piece_Sounds
  rw [CheckTones_zero hc hf, Option.bind_some, bne_self_eq_false, ifB_false, isLowest_any, Option.bind_some, Bool.not_true, ifB_false, sounds_sum bs 0 0 hb (Int.le_refl _) (by omega), Option.bind_some, fin_brk, Int.zero_add, hnum, hden,
    decide_eq_false (show ¬ (a : Int) < 0 by omega), ifB_false, remM_of (by omega), b4, Option.bind_some, bne_self_eq_false, ifB_false, decide_eq_false (show ¬ (a : Int) > (bs.map lB).sum by omega), ifB_false, vp, Option.bind_some, decide_eq_false (show ¬ pre bs i ≥ (bs.map lB).sum by omega), Option.bind_some, fin_inl, ifB_false]
  rw [ht] at hgood ⊢
  rw [sounds_hit _ _ vp (by omega) y B (hgood y (by simp)) A 0 0 (fun x hx => hgood x (List.mem_append_left _ hx)) (Int.le_refl _) (by rw [hs, Int.zero_add])]
  rfl
theorem sumU_app (a b : List TTone) : sumU (a ++ b) = sumU a + sumU b := by unfold sumU; rw [List.map_append, List.sum_append]
theorem sumU_flat : ∀ gs : List (List TTone), sumU (List.flatten gs) = (gs.map sumU).sum
  | [] => rfl
  | g :: gs => by rw [List.flatten_cons, sumU_app, sumU_flat gs, List.map_cons, List.sum_cons]
/-- where a bar's first tone stands -/
theorem first_tone {bs : List TBar} {t : List TTone} {gs : List (List TTone)} (hb : ∀ x ∈ bs, bad x = false) (g3 : t = List.flatten gs) (g4 : gs.map sumU = bs.map lB) {i : Nat} (hi : i < bs.length) :
    ∃ y r A B, gs[i]? = some (y :: r) ∧ t = A ++ y :: B ∧ sumU A = pre bs i := by
  have hgl : gs.length = bs.length := by have := congrArg List.length g4; simpa using this
  have hig : i < gs.length := by omega
  have h1 : sumU gs[i] = lB bs[i] := by
    have : (gs.map sumU)[i]? = (bs.map lB)[i]? := by rw [g4]
    rw [List.getElem?_map, List.getElem?_map, List.getElem?_eq_getElem hi, List.getElem?_eq_getElem hig] at this
    exact Option.some.inj this
  have h2 := (long_spec (hb _ (List.getElem_mem hi))).2.1
  have h3 : t = List.flatten (gs.take i) ++ (gs[i] ++ List.flatten (gs.drop (i + 1))) := by
    rw [g3, ← List.flatten_cons, ← List.drop_eq_getElem_cons hig, ← List.flatten_append, List.take_append_drop]
  have h4 : sumU (List.flatten (gs.take i)) = pre bs i := by
    rw [sumU_flat, List.map_take, g4]
    unfold pre
    rw [List.map_take]
  cases hgi : gs[i] with
  | nil =>
    rw [hgi] at h1
    have : sumU [] = 0 := rfl
    omega
  | cons y r =>
    rw [hgi] at h3
    exact ⟨y, r, _, _, by rw [List.getElem?_eq_getElem hig, hgi], h3, h4⟩
theorem Sm_lB {x : TBar} (hs : Sm x) (h : bad x = false) : lB x ≤ 384 := by
  obtain ⟨h1, h2, h3, -⟩ := notbad x h
  obtain ⟨s1, s2⟩ := hs
  unfold lB
  rcases h3 with h3 | h3 | h3 | h3 | h3
  · omega
  · rw [h3, show (192 : Int).tdiv 2 = 96 from rfl]; omega
  · rw [h3, show (192 : Int).tdiv 4 = 48 from rfl]; omega
  · rw [h3, show (192 : Int).tdiv 8 = 24 from rfl]; omega
  · rw [h3, show (192 : Int).tdiv 16 = 12 from rfl]; omega
theorem len_sumU {g : List TTone} (h : ∀ x ∈ g, TGood x) : (g.length : Int) ≤ sumU g := by
  induction g with
  | nil => exact Int.le_refl _
  | cons x g ih =>
    have h1 := (units_spec (h x (List.mem_cons_self ..))).2.1
    have h2 := ih fun y hy => h y (List.mem_cons_of_mem _ hy)
    have : sumU (x :: g) = uT x + sumU g := rfl
    rw [this, List.length_cons]
    omega
theorem inOrd_len {gs : List (List TTone)} {m : Nat} (h : ∀ g ∈ gs, g.length ≤ m) : ∀ ord : List Int, (inOrd gs ord).length ≤ m * ord.length
  | [] => by simp [inOrd]
  | k :: ord => by
    have ih := inOrd_len h ord
    have e : inOrd gs (k :: ord) = gs.getD k.toNat [] ++ inOrd gs ord := rfl
    have h1 : (gs.getD k.toNat []).length ≤ m := by
      rw [List.getD_eq_getElem?_getD]
      cases hk : gs[k.toNat]? with
      | none => simp
      | some g => exact h g (List.mem_of_getElem? hk)
    rw [e, List.length_append, List.length_cons, Nat.mul_succ]
    omega
/-- THE LAW: at every seed the answer is true. -/
theorem SoundsAreTones_true (L : List Int) : m_gleekeep2_SoundsAreTones L = some true := by
  unfold m_gleekeep2_SoundsAreTones
  obtain ⟨bs, q, b1, b2, b3, b4, b5, hc, hsm⟩ := RightBars_short L
  obtain ⟨t, q2, t1, t2, t3, t4, hf, hm⟩ := TonesFor_right L (bs := bs) (p := q) b3 hc b4 (by omega)
  obtain ⟨hl, r, hg, -, -, ho⟩ := cB_zero hc
  have hb := goB_all bs _ r hg
  have hlt := hf.len
  obtain ⟨gs, g1, g3, g4⟩ := inBars_good hb (by omega) hf
  have hgl : gs.length = bs.length := by have := congrArg List.length g4; simpa using this
  obtain ⟨p, p1, p2, p3, p4, p5⟩ := playedTones_good hc hf g1 g3 g4
  have hI : m_piece_InBars bs t = some (gs, 0) := by
    unfold m_piece_InBars
    rw [CheckTones_zero hc hf, Option.bind_some, bne_self_eq_false, ifB_false, g1]; rfl
  have hP : m_piece_Played bs t = some (p, 0) := by
    unfold m_piece_Played
    rw [CheckTones_zero hc hf, Option.bind_some, bne_self_eq_false, ifB_false, p1]; rfl
  have hgmem : ∀ g ∈ gs, ∀ x ∈ g, x ∈ t := fun g hgs x hx => by rw [g3]; exact List.mem_flatten.2 ⟨g, hgs, hx⟩
  have hg384 : ∀ g ∈ gs, g.length ≤ 384 := fun g hgs => by
    obtain ⟨i, hi, rfl⟩ := List.getElem_of_mem hgs
    have hib : i < bs.length := by omega
    have h1 : sumU gs[i] = lB bs[i] := by
      have : (gs.map sumU)[i]? = (bs.map lB)[i]? := by rw [g4]
      rw [List.getElem?_map, List.getElem?_map, List.getElem?_eq_getElem hib, List.getElem?_eq_getElem hi] at this
      exact Option.some.inj this
    have h2 := len_sumU (g := gs[i]) fun x hx => hf.goods x (hgmem _ (List.getElem_mem hi) x hx)
    have h3 := Sm_lB (hsm _ (List.getElem_mem hib)) (hb _ (List.getElem_mem hib))
    omega
  have hord : (expand bs (gsB none 0 bs)).length ≤ 108 := by
    have h1 := expand_size bs (gsB none 0 bs) fun g hgm => (grp_ok bs r hg g hgm).2.2.2
    have h2 := gsB_size bs 0 none (fun s h => by cases h)
    simp only at h2
    omega
  have hpl : p.length ≤ 41472 := by
    have h1 := inOrd_len hg384 (expand bs (gsB none 0 bs))
    have h2 : 384 * (expand bs (gsB none 0 bs)).length ≤ 384 * 108 := Nat.mul_le_mul_left _ hord
    omega
  have hpt : ∀ x ∈ p, x.Text ∈ txs := fun x hx => by
    have h1 : x.Text ∈ (inOrd gs (expand bs (gsB none 0 bs))).map (·.Text) := by rw [← p5]; exact List.mem_map_of_mem (f := (·.Text)) hx
    obtain ⟨y, hy, e⟩ := List.mem_map.1 h1
    rw [← e]
    unfold inOrd at hy
    obtain ⟨k, hk, hyk⟩ := List.mem_flatMap.1 hy
    rw [List.getD_eq_getElem?_getD] at hyk
    cases hgk : gs[k.toNat]? with
    | none => rw [hgk] at hyk; cases hyk
    | some g =>
      rw [hgk] at hyk
      exact (hf.rt y (hgmem g (List.mem_of_getElem? hgk) y hyk)).txt
  obtain ⟨sep, w, w1, w2, w3⟩ := lyr_loop p 0 0 ByteArray.empty ByteArray.empty 0 hpt (by decide) (by decide) (by decide) (by
    have : (ByteArray.empty).size = 0 := rfl
    omega)
  have hw0 : (ByteArray.empty).size = 0 := rfl
  have hL : m_piece_Lyrics bs t = some (w, 0) := by
    unfold m_piece_Lyrics
    rw [CheckTones_zero hc hf, Option.bind_some, bne_self_eq_false, ifB_false, p1, Option.bind_some, w1, Option.bind_some, fin_brk]
    simp only
    rw [decide_eq_false (by omega), ifB_false]
  obtain ⟨rr, r1, r2⟩ := ReplaceAll_nb w (by omega)
  rw [b1, Option.bind_some]
  simp only
  rw [t1, Option.bind_some]
  simp only
  rw [Begins_good hc, Option.bind_some, hI, Option.bind_some, hL, Option.bind_some, hP, Option.bind_some]
  simp only
  rw [w2, Option.bind_some, fin_brk, show m_gleekeep2_errs [0, 0, 0, 0] = some 0 by kernel_rfl, Option.bind_some, show ((0 : Int) != 0) = false from rfl, ifB_false,
    show ((((List.range bs.length).map fun i => lowF (pre bs i).toNat 192).length : Int) != (bs.length : Int)) = false by simp, ifB_false, hgl, show ((bs.length : Int) != (bs.length : Int)) = false by simp, ifB_false, r1, Option.bind_some, r2,
    show (((nb w : Nat) : Int) != ((nb w : Nat) : Int)) = false by simp, Option.bind_some, fin_inl, ifB_false]
  obtain ⟨u, k1, -⟩ := rangeM_invx (m_gleekeep2_SoundsAreTones_l2 (bs, q) (t, q2) (gs, 0)) ((List.range bs.length).map fun i => lowF (pre bs i).toNat 192) (fun _ _ => True) (by
    rintro i x u hx -
    have hi : i < bs.length := by have := (List.getElem?_eq_some_iff.1 hx).1; simpa using this
    have hxe : x = lowF (pre bs i).toNat 192 := by simp [hi] at hx; exact hx.symm
    subst hxe
    obtain ⟨y, rst, A, B, y1, y2, y3⟩ := first_tone hb g3 g4 hi
    have hyn : y.Note = -1 ∨ (0 ≤ y.Note ∧ y.Note ≤ 127) := (hf.rt y (by rw [y2]; simp)).note
    have hg0 : getI (y :: rst) 0 = some y := getI_of (n := 0) rfl rfl
    unfold m_gleekeep2_SoundsAreTones_l2
    simp only
    rw [Sounds_at hc hf hi y2 y3, Option.bind_some]
    simp only [getI_of (n := i) rfl y1, Option.bind_some, hg0]
    rw [show ((0 : Int) != 0) = false from rfl, ifB_false, show (((y :: rst).length : Int) == 0) = false from beq_eq_false_iff_ne.2 (by rw [List.length_cons]; omega), ifB_false, show (!((y.Note != (-1)) == (y.Note != (-1)))) = false by simp, ifB_false]
    rcases hyn with h | h
    · rw [h]
      exact ⟨(), rfl, trivial⟩
    · rw [show (y.Note != (-1)) = true from bne_iff_ne.2 (by omega), ifB_true, show max y.Note 0 = y.Note by omega, show (y.Note != y.Note) = false by simp]
      exact ⟨(), rfl, trivial⟩) () trivial
  rw [k1, Option.bind_some, fin_brk, ready_true]
  rfl
end Go.G
