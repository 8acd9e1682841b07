/- LB6: tones in bars, as they are played, joined; how long they are. In plain Lean, no program in sight. -/
import Derived.Test.YtdeoejkgmeemaagGreatDoorLBk
import Derived.Test.YtdeoejkgmeemaagGreatDoorLB3
namespace Go.G
open Go Go.J
set_option linter.unusedSimpArgs false
theorem sumG_nonneg {t : List TTone} (h : ∀ x ∈ t, TGood x) : 0 ≤ sumU t := by
  induction t with
  | nil => simp [sumU]
  | cons x t ih =>
    have h1 := (units_spec (h x (List.mem_cons_self ..))).2.1
    have h2 := ih fun y hy => h y (List.mem_cons_of_mem _ hy)
    show 0 ≤ uT x + sumU t
    omega
theorem inBars_inner (T : List TTone) (out : List (List TTone)) (rest : List TTone) (hT : T.length ≤ 2000) : ∀ (suf pre : List TTone), T = pre ++ suf ++ rest → (∀ x ∈ suf, TGood x) → sumU suf ≤ 4000 → loopM (m_piece_inBars_l2 (T, out)) ((pre.length : Int), sumU suf) = some (.brk (((pre.length + suf.length : Nat) : Int), 0))
  | [], pre, h, _, _ => by
    have e : m_piece_inBars_l2 (T, out) ((pre.length : Int), sumU []) = some (.brk ((pre.length : Int), 0)) := rfl
    rw [loopM_step e]; rfl
  | x :: suf, pre, h, hg, hs => by
    obtain ⟨u1, u3, u4⟩ := units_spec (hg x (List.mem_cons_self ..))
    have hnn := sumG_nonneg (fun y hy => hg y (List.mem_cons_of_mem _ hy) : ∀ y ∈ suf, TGood y)
    have hx : T[pre.length]? = some x := by rw [h]; simp
    have hlt : pre.length < T.length := (List.getElem?_eq_some_iff.1 hx).1
    have hsum : sumU (x :: suf) = uT x + sumU suf := rfl
    have e : m_piece_inBars_l2 (T, out) ((pre.length : Int), sumU (x :: suf)) = some (.nxt (((pre ++ [x]).length : Int), sumU suf)) := by
      unfold m_piece_inBars_l2
      rw [hsum, decide_eq_true (by omega), ifB_true]
      simp only [getI_of (n := pre.length) rfl hx, Option.bind_some, u1]
      rw [w64_id (by omega), w64_id (by omega)]
      have e1 : (pre.length : Int) + 1 = ((pre ++ [x]).length : Int) := by simp
      have e2 : uT x + sumU suf - uT x = sumU suf := by omega
      rw [e1, e2]
    have ih := inBars_inner T out rest hT suf (pre ++ [x]) (by rw [h]; simp) (fun y hy => hg y (List.mem_cons_of_mem _ hy)) (by omega)
    rw [loopM_step e, run_nxt, ih]
    congr 3
    simp; omega
theorem inBars_spec : ∀ (bs : List TBar) (gs out : List (List TTone)) (i : Nat), (∀ x ∈ bs, bad x = false) → gs.map sumU = bs.map lB → (∀ x ∈ List.flatten gs, TGood x) → (List.flatten gs).length ≤ 2000 → out.length + bs.length ≤ 1000 →
    rangeM m_piece_inBars_l1 i bs (List.flatten gs, out) = some (.brk ([], out ++ gs))
  | [], gs, out, i, _, h, _, _, _ => by
    obtain rfl : gs = [] := by simpa using h
    simp
  | b :: bs, gs, out, i, hb, h, hg, hl, ho => by
    obtain ⟨l1, l3, l4, -⟩ := long_spec (hb b (List.mem_cons_self ..))
    cases gs with
    | nil => cases h
    | cons g gs =>
      simp only [List.map_cons, List.cons.injEq] at h
      obtain ⟨h1, h2⟩ := h
      rw [List.flatten_cons] at hg hl ⊢
      simp only [List.length_append] at hl
      simp only [List.length_cons] at ho
      have hin := inBars_inner (g ++ List.flatten gs) out (List.flatten gs) (by rw [List.length_append]; omega) g [] (by simp) (fun x hx => hg x (List.mem_append_left _ hx)) (by omega)
      rw [h1] at hin
      simp only [List.length_nil, Nat.zero_add] at hin
      have e : m_piece_inBars_l1 i b (g ++ List.flatten gs, out) = some (.nxt (List.flatten gs, out ++ [g])) := by
        unfold m_piece_inBars_l1 m_slices_Clone_api_Tone_api_Tone
        simp only [l1, Option.bind_some]
        rw [show ((0 : Int), lB b) = (((0 : Nat) : Int), lB b) from rfl, hin]
        simp only [Option.bind_some, fin_brk]
        rw [sliceI_of (lo := 0) (hi := (g.length : Int)) (a := 0) (b := g.length) rfl rfl (Nat.zero_le _) (by simp), Option.bind_some]
        have e1 : ((g ++ List.flatten gs).drop 0).take (g.length - 0) = g := by simp
        rw [e1, appM_of (by simp; omega) (by omega)]
        simp only [Option.bind_some, List.nil_append]
        rw [appM_of (by simp; omega) (by omega), Option.bind_some, sliceI_of (a := g.length) (b := (g ++ List.flatten gs).length) rfl rfl (by simp) (Nat.le_refl _), Option.bind_some]
        have e2 : ((g ++ List.flatten gs).drop g.length).take ((g ++ List.flatten gs).length - g.length) = List.flatten gs := by rw [List.drop_left, List.length_append, Nat.add_sub_cancel_left, List.take_length]
        rw [e2]
      rw [rangeM_cons, e, Option.bind_some, run_nxt, inBars_spec bs gs (out ++ [g]) (i + 1) (fun x hx => hb x (List.mem_cons_of_mem _ hx)) h2 (fun x hx => hg x (List.mem_append_right _ hx)) (by omega) (by simp; omega)]
      simp
theorem FillsR.goods {bs : List TBar} {t : List TTone} (h : FillsR bs t) : ∀ x ∈ t, TGood x := fun x hx => (h.rt x hx).good
theorem inBars_good {bs : List TBar} {t : List TTone} (hb : ∀ x ∈ bs, bad x = false) (hl : bs.length ≤ 600) (h : FillsR bs t) :
    ∃ gs, m_piece_inBars bs t = some gs ∧ t = List.flatten gs ∧ gs.map sumU = bs.map lB := by
  obtain ⟨gs, h1, h2⟩ := h.seg
  refine ⟨gs, ?_, h1, h2⟩
  unfold m_piece_inBars
  have h3 := h.goods
  have h4 := h.len
  rw [h1] at h3 h4 ⊢
  rw [inBars_spec bs gs [] 0 hb h2 h3 h4 (by simp; omega)]; simp
/-! ### as they are played -/
theorem set_longs {s : List TTone} {i : Nat} (hi : i < s.length) {y : TTone} (hy : y.Long = s[i].Long) : (s.set i y).map (·.Long) = s.map (·.Long) := by
  rw [List.map_set, hy]
  have : s[i].Long = (s.map (·.Long))[i]'(by simpa using hi) := by simp
  rw [this, List.set_getElem_self]
theorem set_texts {s : List TTone} {i : Nat} (hi : i < s.length) {y : TTone} (hy : y.Text = s[i].Text) : (s.set i y).map (·.Text) = s.map (·.Text) := by
  rw [List.map_set, hy]
  have : s[i].Text = (s.map (·.Text))[i]'(by simpa using hi) := by simp
  rw [this, List.set_getElem_self]
theorem loosened_good (t : List TTone) (hl : t.length ≤ 100000000) : ∃ u, m_piece_loosened t = some (u, u) ∧ u.length = t.length ∧ u.map (·.Long) = t.map (·.Long) ∧ u.map (·.Text) = t.map (·.Text) := by
  obtain ⟨u, h1, h2⟩ := rangeM_invx m_piece_loosened_l1 t (fun _ s => s.length = t.length ∧ s.map (·.Long) = t.map (·.Long) ∧ s.map (·.Text) = t.map (·.Text)) (by
    rintro i x s hx ⟨hs, hm, hm2⟩
    have hi : i < s.length := by rw [hs]; exact (List.getElem?_eq_some_iff.1 hx).1
    have hg : getI s (i : Int) = some s[i] := getI_of (n := i) rfl (List.getElem?_eq_getElem hi)
    unfold m_piece_loosened_l1
    rw [w64_id (n := (s.length : Int) - 1) (by omega), w64_id (n := (i : Int) + 1) (by omega)]
    by_cases he : i + 1 = s.length
    · have e1 : ((i : Int) == (s.length : Int) - 1) = true := by simp; omega
      simp only [e1, ifB_true, hg, Option.bind_some]
      exact ⟨_, rfl, by simp [hs], (set_longs (i := i) hi (y := ⟨s[i].Note, s[i].Long, s[i].Text, false⟩) rfl).trans hm, (set_texts (i := i) hi (y := ⟨s[i].Note, s[i].Long, s[i].Text, false⟩) rfl).trans hm2⟩
    · have e1 : ((i : Int) == (s.length : Int) - 1) = false := by simp; omega
      have hg2 : getI s ((i : Int) + 1) = some s[i + 1] := getI_of (n := i + 1) (by omega) (List.getElem?_eq_getElem (by omega))
      simp only [e1, ifB_false, hg, hg2, Option.bind_some, carries_spec]
      cases carryB s[i] s[i + 1]
      · exact ⟨_, rfl, by simp [hs], (set_longs (i := i) hi (y := ⟨s[i].Note, s[i].Long, s[i].Text, false⟩) rfl).trans hm, (set_texts (i := i) hi (y := ⟨s[i].Note, s[i].Long, s[i].Text, false⟩) rfl).trans hm2⟩
      · exact ⟨_, rfl, hs, hm, hm2⟩) t ⟨rfl, rfl, rfl⟩
  refine ⟨u, ?_, h2⟩
  unfold m_piece_loosened
  rw [h1]; rfl
/-- the tones of the bars in an order -/
def inOrd (gs : List (List TTone)) (ord : List Int) : List TTone := ord.flatMap fun k => gs.getD k.toNat []
theorem flat_len {gs : List (List TTone)} {n : Nat} (h : (List.flatten gs).length ≤ n) : ∀ g ∈ gs, g.length ≤ n := fun g hg => by
  have h2 := List.length_flatten (L := gs)
  have h3 : g.length ≤ (gs.map List.length).sum := by
    clear h h2
    induction gs with
    | nil => cases hg
    | cons a l ih =>
      rcases List.mem_cons.1 hg with rfl | h4
      · simp
      · have := ih h4; simp; omega
  omega
theorem playedTones_good {bs : List TBar} {t : List TTone} {gs : List (List TTone)} (hc : cB bs = 0) (h : FillsR bs t) (g1 : m_piece_inBars bs t = some gs) (g3 : t = List.flatten gs) (g4 : gs.map sumU = bs.map lB) :
    ∃ p, m_piece_playedTones bs t = some p ∧ p.length = (inOrd gs (expand bs (gsB none 0 bs))).length ∧ p.map (·.Long) = (inOrd gs (expand bs (gsB none 0 bs))).map (·.Long) ∧ p.length ≤ 4000000 ∧ p.map (·.Text) = (inOrd gs (expand bs (gsB none 0 bs))).map (·.Text) := by
  obtain ⟨hl, r, hg, -, -, ho⟩ := cB_zero hc
  have hgl : gs.length = bs.length := by have := congrArg List.length g4; simpa using this
  have hmem := expand_mem bs (gsB none 0 bs)
  have hgm := flat_len (gs := gs) (n := 2000) (by rw [← g3]; exact h.len)
  have key : ∀ (ord : List Int) (i : Nat) (acc : List TTone), (∀ k ∈ ord, ∃ j : Nat, k = j ∧ ∃ x, bs[j]? = some x) → acc.length + 2000 * ord.length ≤ 4000000 →
      rangeM (m_piece_playedTones_l1 gs) i ord acc = some (.brk (acc ++ inOrd gs ord)) ∧ (acc ++ inOrd gs ord).length ≤ 4000000 := by
    intro ord
    induction ord with
    | nil => intro i acc _ ha; simp only [inOrd, List.flatMap_nil, List.append_nil]; exact ⟨rfl, by simpa using ha⟩
    | cons k ord ih =>
      intro i acc hm ha
      obtain ⟨j, rfl, x, hx⟩ := hm k (List.mem_cons_self ..)
      have hj : j < gs.length := by rw [hgl]; exact (List.getElem?_eq_some_iff.1 hx).1
      have hget : getI gs (j : Int) = some gs[j] := getI_of (n := j) rfl (List.getElem?_eq_getElem hj)
      have hlen := hgm gs[j] (List.getElem_mem hj)
      simp only [List.length_cons] at ha
      have e1 : m_piece_playedTones_l1 gs i (j : Int) acc = some (.nxt (acc ++ gs[j])) := by
        unfold m_piece_playedTones_l1
        rw [hget, Option.bind_some, appM_of (by omega) (by omega)]; rfl
      have e2 : inOrd gs ((j : Int) :: ord) = gs[j] ++ inOrd gs ord := by
        unfold inOrd
        rw [List.flatMap_cons, Int.toNat_natCast, List.getD_eq_getElem?_getD, List.getElem?_eq_getElem hj]; rfl
      obtain ⟨p1, p2⟩ := ih (i + 1) (acc ++ gs[j]) (fun q hq => hm q (List.mem_cons_of_mem _ hq)) (by simp; omega)
      rw [rangeM_cons, e1, Option.bind_some, run_nxt, p1, e2, List.append_assoc]
      rw [List.append_assoc] at p2
      exact ⟨rfl, p2⟩
  obtain ⟨p1, p2⟩ := key (expand bs (gsB none 0 bs)) 0 [] hmem (by simp; omega)
  rw [List.nil_append] at p1 p2
  obtain ⟨u, u1, u3, u4, u5⟩ := loosened_good (inOrd gs (expand bs (gsB none 0 bs))) (by omega)
  refine ⟨u, ?_, u3, u4, by omega, u5⟩
  unfold m_piece_playedTones
  rw [g1, Option.bind_some, played_spec hc, Option.bind_some, p1, Option.bind_some, fin_brk, u1]; rfl
/-! ### joined -/
def uF (f : TFraction) : Int := f.Num * (192 : Int).tdiv f.Den
/-- a length that is reckoned with -/
structure UOk (f : TFraction) (m : Int) : Prop where
  p : m_piece_units f = some (uF f)
  pos : 0 ≤ uF f
  le : uF f ≤ m
  d1 : 1 ≤ f.Den
  d2 : f.Den ≤ 192
  dv : (192 : Int).tmod f.Den = 0
theorem TGood.den2 {x : TTone} (h : TGood x) : x.Long.Den ≤ 192 := by
  have h0 := h.den; have hz := h.div
  have h5 : (192 : Int) = x.Long.Den * (192 : Int).tdiv x.Long.Den := by have := Int.mul_tdiv_add_tmod 192 x.Long.Den; omega
  have h6 : 0 ≤ (192 : Int).tdiv x.Long.Den := Int.tdiv_nonneg (by omega) (by omega)
  have h7 : (192 : Int).tdiv x.Long.Den ≠ 0 := fun h => by rw [h] at h5; omega
  have h8 : x.Long.Den * 1 ≤ x.Long.Den * (192 : Int).tdiv x.Long.Den := Int.mul_le_mul_of_nonneg_left (by omega) (by omega)
  omega
theorem UOk.of_good {x : TTone} (h : TGood x) : UOk x.Long 3072 := ⟨(units_spec h).1, by have := (units_spec h).2.1; show 0 ≤ uT x; omega, (units_spec h).2.2, h.den, h.den2, h.div⟩
theorem low_spec {n : Int} (h1 : 0 ≤ n) (h2 : n ≤ 1000000000) : m_piece_fraction n = some (lowF n.toNat 192) ∧ uF (lowF n.toNat 192) = n ∧ UOk (lowF n.toNat 192) n := by
  obtain ⟨k, rfl⟩ := Int.eq_ofNat_of_zero_le h1
  simp only [Int.toNat_natCast]
  have hg1 : Nat.gcd k 192 ∣ k := Nat.gcd_dvd_left ..
  have hg2 : Nat.gcd k 192 ∣ 192 := Nat.gcd_dvd_right ..
  have hg0 : 0 < Nat.gcd k 192 := Nat.gcd_pos_of_pos_right _ (by omega)
  obtain ⟨a, ha⟩ := hg1
  obtain ⟨b, hb⟩ := hg2
  have hb0 : 0 < b := Nat.pos_of_ne_zero fun h => by rw [h] at hb; simp at hb
  have hb192 : b ≤ 192 := Nat.le_of_dvd (by omega) ⟨Nat.gcd k 192, by rw [Nat.mul_comm]; exact hb⟩
  have e1 : (lowF k 192) = ⟨(a : Int), (b : Int)⟩ := by
    unfold lowF
    have f1 : k / Nat.gcd k 192 = a := by conv => lhs; arg 1; rw [ha]
                                          exact Nat.mul_div_cancel_left a hg0
    have f2 : 192 / Nat.gcd k 192 = b := by conv => lhs; arg 1; rw [hb]
                                            exact Nat.mul_div_cancel_left b hg0
    congr 1
    · rw [← f1]; rfl
    · rw [← f2]; rfl
  have hu : (192 : Int).tdiv (b : Int) = (Nat.gcd k 192 : Int) := by
    have : 192 / b = Nat.gcd k 192 := Nat.div_eq_of_eq_mul_left hb0 hb
    rw [← this]; rfl
  have hk : (a : Int) * (Nat.gcd k 192 : Int) = k := by
    have := congrArg (fun n : Nat => (n : Int)) ha
    simp only [Int.natCast_mul] at this
    rw [Int.mul_comm]; exact this.symm
  have e2 : uF (lowF k 192) = k := by
    rw [e1]
    show (a : Int) * (192 : Int).tdiv (b : Int) = k
    rw [hu, hk]
  have hgl : Nat.gcd k 192 ≤ 192 := Nat.le_of_dvd (by omega) (Nat.gcd_dvd_right ..)
  have e3 : ∀ {r : Option Int}, r = ((quoM 192 (lowF k 192).Den).bind fun z2 => some (w64 ((lowF k 192).Num * z2))) → r = some (uF (lowF k 192)) := by
    intro r hr
    rw [hr, e1]
    show (quoM 192 (b : Int)).bind _ = _
    rw [quoM_of (by omega), Option.bind_some, hu, w64_id (n := (Nat.gcd k 192 : Int)) (by omega)]
    show some (w64 ((a : Int) * (Nat.gcd k 192 : Int))) = _
    rw [hk, w64_id (by omega)]
    show _ = some ((a : Int) * (192 : Int).tdiv (b : Int))
    rw [hu, hk]
  have hm : (192 : Int).tmod (b : Int) = 0 := by
    have : 192 % b = 0 := Nat.mod_eq_zero_of_dvd ⟨Nat.gcd k 192, by rw [Nat.mul_comm]; exact hb⟩
    show ((192 % b : Nat) : Int) = 0
    rw [this]; rfl
  refine ⟨?_, e2, ⟨e3 rfl, by omega, by omega, by rw [e1]; show (1 : Int) ≤ (b : Int); omega, by rw [e1]; show (b : Int) ≤ 192; omega, by rw [e1]; exact hm⟩⟩
  unfold m_piece_fraction
  rw [show ((192 : Int)) = ((192 : Nat) : Int) from rfl, kitLowest_spec k 192 (by omega) (by omega) (by omega)]; rfl
end Go.G
