/- LU4: tones that are tied together made one, forth and back; their range. No program in sight. -/
import Derived.Test.YtnmaaiejcmgdkaaDoorLU3
namespace Go.G
open Go Go.J
set_option linter.unusedSimpArgs false
def uF (f : TFraction) : Int := f.Num * (192 : Int).tdiv f.Den
/-- a length that is reckoned with -/
structure UOk (f : TFraction) (m : Int) : Prop where
  p : m_piece_units f = some (uF f)
  q : m_gleeref2_units f = some (uF f)
  pos : 1 ≤ uF f
  le : uF f ≤ m
theorem UOk.of_good {x : TTone} (h : TGood x) : UOk x.Long 3072 := ⟨(units_spec h).1, (units_spec h).2.1, (units_spec h).2.2.1, (units_spec h).2.2.2⟩
theorem low_spec {n : Int} (h1 : 1 ≤ n) (h2 : n ≤ 1000000000) : m_piece_fraction n = some (lowF n.toNat 192) ∧ m_gleeref2_Lowest n 192 = some (lowF n.toNat 192) ∧ uF (lowF n.toNat 192) = n ∧ UOk (lowF n.toNat 192) n := by
  obtain ⟨k, rfl⟩ := Int.eq_ofNat_of_zero_le (by omega : 0 ≤ n)
  simp only [Int.toNat_natCast]
  have hg1 : Nat.gcd k 192 ∣ k := Nat.gcd_dvd_left ..
  have hg2 : Nat.gcd k 192 ∣ 192 := Nat.gcd_dvd_right ..
  have hg0 : 0 < Nat.gcd k 192 := Nat.gcd_pos_of_pos_right _ (by omega)
  obtain ⟨a, ha⟩ := hg1
  obtain ⟨b, hb⟩ := hg2
  have hb0 : 0 < b := Nat.pos_of_ne_zero fun h => by rw [h] at hb; simp at hb
  have hb192 : b ≤ 192 := Nat.le_of_dvd (by omega) ⟨Nat.gcd k 192, by rw [Nat.mul_comm]; exact hb⟩
  have e1 : (lowF k 192) = ⟨(a : Int), (b : Int)⟩ := by
    unfold lowF
    have f1 : k / Nat.gcd k 192 = a := by conv => lhs; arg 1; rw [ha]
                                          exact Nat.mul_div_cancel_left a hg0
    have f2 : 192 / Nat.gcd k 192 = b := by conv => lhs; arg 1; rw [hb]
                                            exact Nat.mul_div_cancel_left b hg0
    congr 1
    · rw [← f1]; rfl
    · rw [← f2]; rfl
  have hu : (192 : Int).tdiv (b : Int) = (Nat.gcd k 192 : Int) := by
    have : 192 / b = Nat.gcd k 192 := Nat.div_eq_of_eq_mul_left hb0 hb
    rw [← this]; rfl
  have hk : (a : Int) * (Nat.gcd k 192 : Int) = k := by
    have := congrArg (fun n : Nat => (n : Int)) ha
    simp only [Int.natCast_mul] at this
    rw [Int.mul_comm]; exact this.symm
  have e2 : uF (lowF k 192) = k := by
    rw [e1]
    show (a : Int) * (192 : Int).tdiv (b : Int) = k
    rw [hu, hk]
  have hgl : Nat.gcd k 192 ≤ 192 := Nat.le_of_dvd (by omega) (Nat.gcd_dvd_right ..)
  have e3 : ∀ {r : Option Int}, r = ((quoM 192 (lowF k 192).Den).bind fun z2 => some (w64 ((lowF k 192).Num * z2))) → r = some (uF (lowF k 192)) := by
    intro r hr
    rw [hr, e1]
    show (quoM 192 (b : Int)).bind _ = _
    rw [quoM_of (by omega), Option.bind_some, hu, w64_id (n := (Nat.gcd k 192 : Int)) (by omega)]
    show some (w64 ((a : Int) * (Nat.gcd k 192 : Int))) = _
    rw [hk, w64_id (by omega)]
    show _ = some ((a : Int) * (192 : Int).tdiv (b : Int))
    rw [hu, hk]
  refine ⟨?_, refLowest_spec k 192 (by omega) (by omega) (by omega), e2, ⟨e3 rfl, e3 rfl, by omega, by omega⟩⟩
  unfold m_piece_fraction
  rw [show ((192 : Int)) = ((192 : Nat) : Int) from rfl, kitLowest_spec k 192 (by omega) (by omega) (by omega)]; rfl
/-- loosed -/
def un (x : TTone) : TTone := ⟨x.Note, x.Long, x.Text, false⟩
/-- y goes on in z -/
def glue (y : TTone) : List TTone → List TTone
  | [] => [y]
  | z :: r => ⟨y.Note, lowF (uF y.Long + uF z.Long).toNat 192, y.Text, y.Tied⟩ :: r
def Jn : List TTone → List TTone
  | [] => []
  | x :: t => bif x.Tied then glue (un x) (Jn t) else un x :: Jn t
/-- whoever is tied has one behind -/
def Ch (t : List TTone) : Prop := ∀ pre x suf, t = pre ++ x :: suf → x.Tied = true → suf ≠ []
theorem Ch.tail {x : TTone} {t : List TTone} (h : Ch (x :: t)) : Ch t := fun pre y suf e => h (x :: pre) y suf (by rw [e]; rfl)
theorem Jn_ne {t : List TTone} (h : t ≠ []) : Jn t ≠ [] := by
  cases t with
  | nil => exact (h rfl).elim
  | cons x t =>
    unfold Jn
    cases x.Tied
    · simp
    · cases Jn t <;> simp [glue]
theorem Jn_len (t : List TTone) : (Jn t).length ≤ t.length := by
  induction t with
  | nil => simp [Jn]
  | cons x t ih =>
    unfold Jn
    cases x.Tied
    · simpa using ih
    · cases h : Jn t with
      | nil => simp [glue]
      | cons z r => rw [h] at ih; simp [glue] at ih ⊢; omega
theorem Jn_ok {t : List TTone} (h : ∀ x ∈ t, TGood x) (hl : t.length ≤ 2000) : ∀ y ∈ Jn t, UOk y.Long (3072 * t.length) := by
  induction t with
  | nil => simp [Jn]
  | cons x t ih =>
    have ih := ih (fun y hy => h y (List.mem_cons_of_mem _ hy)) (by simp at hl; omega)
    have hx := UOk.of_good (h x (List.mem_cons_self ..))
    simp only [List.length_cons] at hl
    have up : ∀ {f : TFraction} {m m' : Int}, UOk f m → m ≤ m' → UOk f m' := fun h hm => ⟨h.p, h.q, h.pos, Int.le_trans h.le hm⟩
    have e : 3072 * ((x :: t).length : Int) = 3072 * (t.length : Int) + 3072 := by simp; omega
    rw [e]
    intro y hy
    unfold Jn at hy
    cases hT : x.Tied with
    | false =>
      rw [hT] at hy
      rcases List.mem_cons.1 hy with rfl | hy
      · exact up hx (by omega)
      · exact up (ih y hy) (by omega)
    | true =>
      rw [hT] at hy
      cases hj : Jn t with
      | nil =>
        rw [hj] at hy
        rcases List.mem_cons.1 hy with rfl | hy
        · exact up hx (by omega)
        · cases hy
      | cons z r =>
        rw [hj] at hy ih
        have hz := ih z (List.mem_cons_self ..)
        rcases List.mem_cons.1 hy with rfl | hy
        · have := low_spec (n := uF (un x).Long + uF z.Long) (by have := hx.pos; have := hz.pos; show 1 ≤ uF x.Long + uF z.Long; omega) (by have := hx.le; have := hz.le; show uF x.Long + uF z.Long ≤ _; omega)
          exact up this.2.2.2 (by have := hx.le; have := hz.le; show uF x.Long + uF z.Long ≤ _; omega)
        · exact up (ih y (List.mem_cons_of_mem _ hy)) (by omega)
/-! ### back -/
theorem back_loop : ∀ (l suf : List TTone) (j n : Nat), (∀ x ∈ l, TGood x) → (∀ x ∈ suf, TGood x) → l.length + suf.length ≤ 2000 → Ch (l.reverse ++ suf) →
    rangeM (fun j x s => m_gleeref2_JoinedOf_l1 (n - 1 - j) x s) j l (Jn suf).reverse = some (.brk (Jn (l.reverse ++ suf)).reverse)
  | [], suf, j, n, _, _, _, _ => by simp
  | x :: l, suf, j, n, h1, h2, h3, h4 => by
    simp only [List.length_cons] at h3
    have hx := UOk.of_good (h1 x (List.mem_cons_self ..))
    have hjl := Jn_len suf
    have e : m_gleeref2_JoinedOf_l1 (n - 1 - j) x (Jn suf).reverse = some (.nxt (Jn (x :: suf)).reverse) := by
      unfold m_gleeref2_JoinedOf_l1
      rw [Jn]
      cases hT : x.Tied with
      | false =>
        simp only [ifB_false, Option.bind_some, fin_inl, cond_false, List.reverse_cons]
        rw [appM_of (by simp; omega) (by omega)]; rfl
      | true =>
        have hne : suf ≠ [] := h4 l.reverse x suf (by simp) hT
        cases hj : Jn suf with
        | nil => exact (Jn_ne hne hj).elim
        | cons z r =>
          have hz := Jn_ok h2 (by omega) z (by rw [hj]; exact List.mem_cons_self ..)
          have hlow := low_spec (n := uF x.Long + uF z.Long) (by have := hx.pos; have := hz.pos; omega) (by have := hx.le; have := hz.le; omega)
          rw [hj] at hjl
          simp only [List.length_cons] at hjl
          have hlen : ((z :: r).reverse.length : Int) = (r.length : Int) + 1 := by simp
          have hget : getI (z :: r).reverse (r.length : Int) = some z := getI_of (n := r.length) rfl (by simp)
          have hsl : sliceI (z :: r).reverse 0 (r.length : Int) = some r.reverse := by
            rw [sliceI_of (lo := 0) (hi := (r.length : Int)) (a := 0) (b := r.length) rfl rfl (Nat.zero_le _) (by simp)]
            simp
          simp only [ifB_true, Option.bind_some, hx.q, hlen]
          rw [w64_id (n := (r.length : Int) + 1 - 1) (by omega), show (r.length : Int) + 1 - 1 = (r.length : Int) by omega, hget]
          simp only [Option.bind_some, hz.q]
          rw [w64_id (n := uF x.Long + uF z.Long) (by have := hx.pos; have := hz.pos; have := hx.le; have := hz.le; omega), hlow.2.1]
          simp only [Option.bind_some, hsl, fin_inl, cond_true, glue, un]
          rw [appM_of (by simp; omega) (by omega), List.reverse_cons]; rfl
    rw [rangeM_cons]
    show (m_gleeref2_JoinedOf_l1 (n - 1 - j) x (Jn suf).reverse).bind _ = _
    rw [e, Option.bind_some, run_nxt, back_loop l (x :: suf) (j + 1) n (fun y hy => h1 y (List.mem_cons_of_mem _ hy)) (fun y hy => by
      rcases List.mem_cons.1 hy with rfl | hy
      · exact h1 y (List.mem_cons_self ..)
      · exact h2 y hy) (by simp; omega) (by simpa using h4)]
    simp
theorem Reverse_spec (xs : List TTone) (hl : xs.length ≤ 1000000) : m_slices_Reverse_api_Tone_api_Tone xs = some xs.reverse := by
  unfold m_slices_Reverse_api_Tone_api_Tone
  rw [w64_id (by omega)]
  obtain ⟨f, h1, h2⟩ := loopM_post m_slices_Reverse_api_Tone_api_Tone_l1
    (fun s => ∃ i : Nat, s.1 = i ∧ s.2.1 = (xs.length : Int) - 1 - i ∧ i ≤ xs.length ∧ s.2.2.length = xs.length ∧ ∀ k, k < xs.length → s.2.2[k]? = if k < i ∨ xs.length < k + i + 1 then xs[xs.length - 1 - k]? else xs[k]?)
    (fun s => xs.length - s.1.toNat) (fun f => ∃ a b, f = .brk (a, b, xs.reverse)) (by
      rintro ⟨i', j', ys⟩ ⟨i, rfl, rfl, hi, hys, hk⟩
      simp only at hys hk
      unfold m_slices_Reverse_api_Tone_api_Tone_l1
      by_cases hlt : (i : Int) < (xs.length : Int) - 1 - i
      · left
        have hjn : (xs.length : Int) - 1 - i = ((xs.length - 1 - i : Nat) : Int) := by omega
        have g1 : getI ys (i : Int) = some (ys[i]'(by omega)) := getI_of (n := i) rfl (List.getElem?_eq_getElem (by omega))
        have g2 : getI ys ((xs.length - 1 - i : Nat) : Int) = some (ys[xs.length - 1 - i]'(by omega)) := getI_of rfl (List.getElem?_eq_getElem (by omega))
        have g3 : ∃ z, getI (ys.set i (ys[xs.length - 1 - i]'(by omega))) ((xs.length - 1 - i : Nat) : Int) = some z := ⟨_, getI_of rfl (List.getElem?_eq_getElem (by simp; omega))⟩
        obtain ⟨z, g3⟩ := g3
        have hlt' : (i : Int) < ((xs.length - 1 - i : Nat) : Int) := by omega
        simp only [hjn, decide_eq_true hlt', ifB_true, g1, g2, Option.bind_some, Int.toNat_natCast, g3]
        refine ⟨_, rfl, ⟨i + 1, by rw [w64_id (by omega)]; rfl, by simp only; rw [w64_id (by omega)]; omega, by omega, by simp [hys], ?_⟩, by simp only; rw [w64_id (by omega)]; omega⟩
        intro k hkl
        have a1 := hk i (by omega)
        have a2 := hk (xs.length - 1 - i) (by omega)
        rw [if_neg (by omega)] at a1 a2
        have b1 : ys[i]'(by omega) = xs[i]'(by omega) := by
          rw [List.getElem?_eq_getElem (by omega), List.getElem?_eq_getElem (by omega)] at a1
          exact Option.some.inj a1
        have b2 : ys[xs.length - 1 - i]'(by omega) = xs[xs.length - 1 - i]'(by omega) := by
          rw [List.getElem?_eq_getElem (by omega), List.getElem?_eq_getElem (by omega)] at a2
          exact Option.some.inj a2
        simp only [List.getElem?_set]
        by_cases c1 : xs.length - 1 - i = k
        · subst c1
          rw [if_pos rfl, if_pos (by simp; omega), if_pos (by omega), b1]
          have : xs.length - 1 - (xs.length - 1 - i) = i := by omega
          rw [this, List.getElem?_eq_getElem (by omega)]
        · rw [if_neg c1]
          by_cases c2 : i = k
          · subst c2
            rw [if_pos rfl, if_pos (by omega), if_pos (by omega), b2, List.getElem?_eq_getElem (by omega)]
          · rw [if_neg c2, hk k hkl]
            by_cases c3 : k < i ∨ xs.length < k + i + 1
            · rw [if_pos c3, if_pos (by omega)]
            · rw [if_neg c3, if_neg (by omega)]
      · right; left
        simp only [decide_eq_false hlt, ifB_false]
        refine ⟨_, rfl, _, _, congrArg Flow.brk (Prod.ext rfl (Prod.ext rfl ?_))⟩
        apply List.ext_getElem?
        intro k
        by_cases hkl : k < xs.length
        · rw [hk k hkl, List.getElem?_reverse hkl]
          split
          · rfl
          · have : xs.length - 1 - k = k := by omega
            rw [this]
        · rw [List.getElem?_eq_none (by simp only; omega), List.getElem?_eq_none (by simp; omega)]) (0, (xs.length : Int) - 1, xs) ⟨0, rfl, by simp, Nat.zero_le _, rfl, fun k hk => by rw [if_neg (by omega)]⟩
  obtain ⟨a, b, rfl⟩ := h2
  rw [h1]; rfl
theorem JoinedOf_spec {t : List TTone} (h : ∀ x ∈ t, TGood x) (hl : t.length ≤ 2000) (hc : Ch t) : m_gleeref2_JoinedOf t = some (Jn t) := by
  unfold m_gleeref2_JoinedOf rangeB
  have := back_loop t.reverse [] 0 t.length (fun x hx => h x (by simpa using hx)) (by simp) (by simp; omega) (by simpa using hc)
  rw [show (Jn ([] : List TTone)).reverse = [] from rfl] at this
  rw [this, Option.bind_some, fin_brk]
  simp only [List.append_nil, List.reverse_reverse]
  rw [Reverse_spec _ (by have := Jn_len t; simp; omega)]; simp
/-! ### forth -/
theorem forth_loop : ∀ (t : List TTone), (∀ x ∈ t, TGood x) → Ch t → (∀ (i : Nat) (out : List TTone), out.length + t.length ≤ 2000 → rangeM m_piece_Joined_l1 i t (false, out) = some (.brk (false, out ++ Jn t))) ∧
    (t ≠ [] → ∀ (i : Nat) (out : List TTone) (y : TTone), out.length + 1 + t.length ≤ 2000 → UOk y.Long (3072 * (2001 - t.length)) → rangeM m_piece_Joined_l1 i t (true, out ++ [y]) = some (.brk (false, out ++ glue y (Jn t))))
  | [], _, _ => ⟨fun i out _ => by simp [Jn], fun h => (h rfl).elim⟩
  | x :: t, h, hc => by
    have hx := UOk.of_good (h x (List.mem_cons_self ..))
    have h' : ∀ y ∈ t, TGood y := fun y hy => h y (List.mem_cons_of_mem _ hy)
    obtain ⟨i1, i2⟩ := forth_loop t h' hc.tail
    have hne : x.Tied = true → t ≠ [] := fun hT => hc [] x t rfl hT
    constructor
    · intro i out hl
      simp only [List.length_cons] at hl
      have e : m_piece_Joined_l1 i x (false, out) = some (.nxt (x.Tied, out ++ [un x])) := by
        unfold m_piece_Joined_l1
        simp only [ifB_false]
        rw [appM_of (by simp; omega) (by omega)]; rfl
      rw [rangeM_cons, e, Option.bind_some, run_nxt, Jn]
      cases hT : x.Tied with
      | false =>
        rw [i1 (i + 1) (out ++ [un x]) (by simp; omega)]
        simp
      | true => rw [i2 (hne hT) (i + 1) out (un x) (by omega) ⟨hx.p, hx.q, hx.pos, by have := hx.le; show uF x.Long ≤ _; omega⟩]; rfl
    · intro _ i out y hl hy
      simp only [List.length_cons] at hl
      have ey : 3072 * (2001 - ((x :: t).length : Int)) = 3072 * (2001 - (t.length : Int)) - 3072 := by rw [List.length_cons]; omega
      rw [ey] at hy
      have hyl := hy.le; have hyp := hy.pos; have hxl := hx.le; have hxp := hx.pos
      have hlow := low_spec (n := uF y.Long + uF x.Long) (by omega) (by omega)
      have e : m_piece_Joined_l1 i x (true, out ++ [y]) = some (.nxt (x.Tied, out ++ [⟨y.Note, lowF (uF y.Long + uF x.Long).toNat 192, y.Text, y.Tied⟩])) := by
        unfold m_piece_Joined_l1
        have hlen : (((out ++ [y]).length : Nat) : Int) = (out.length : Int) + 1 := by simp
        have hget : getI (out ++ [y]) (out.length : Int) = some y := getI_of (n := out.length) rfl (by simp)
        simp only [ifB_true, hlen]
        rw [w64_id (n := (out.length : Int) + 1 - 1) (by omega), show (out.length : Int) + 1 - 1 = (out.length : Int) by omega, hget]
        simp only [Option.bind_some, hy.p, hx.p]
        rw [w64_id (n := uF y.Long + uF x.Long) (by omega), hlow.1]
        have hset : ∀ z, (out ++ [y]).set out.length z = out ++ [z] := fun z => by simp
        simp only [Option.bind_some, Int.toNat_natCast, hset]
      rw [rangeM_cons, e, Option.bind_some, run_nxt, Jn]
      cases hT : x.Tied with
      | false =>
        rw [i1 (i + 1) _ (by simp; omega)]
        simp [glue, un]
      | true =>
        have hj := Jn_ne (hne hT)
        rw [i2 (hne hT) (i + 1) out _ (by omega) ⟨hlow.2.2.2.p, hlow.2.2.2.q, hlow.2.2.2.pos, by have := hlow.2.2.1; show uF (lowF _ _) ≤ _; omega⟩]
        cases hjj : Jn t with
        | nil => exact (hj hjj).elim
        | cons z r =>
          have hz := Jn_ok h' (by omega) z (by rw [hjj]; exact List.mem_cons_self ..)
          have hzl := hz.le; have hzp := hz.pos
          have hlow2 := low_spec (n := uF x.Long + uF z.Long) (by omega) (by omega)
          simp only [cond_true, glue, un, hlow.2.2.1, hlow2.2.2.1, Int.add_assoc]
theorem Joined_spec {t : List TTone} (h : ∀ x ∈ t, TGood x) (hl : t.length ≤ 2000) (hc : Ch t) : rangeM m_piece_Joined_l1 0 t (false, []) = some (.brk (false, Jn t)) := by
  have := (forth_loop t h hc).1 0 [] (by simpa using hl)
  simpa using this
theorem Fills.ch {bs : List TBar} {t : List TTone} (h : Fills bs t false) : Ch t := by
  intro pre x suf e hT hs
  subst hs
  have h1 := h.tie pre.length x (by rw [e]; simp)
  unfold badT at h1
  have h2 : t[pre.length + 1]? = none := List.getElem?_eq_none (by rw [e]; simp)
  rw [hT, h2] at h1
  cases h1
/-! ### the range -/
theorem Min_spec (ns : List Int) (hl : ns.length ≤ 1000000) (hne : ns ≠ []) (hr : ∀ n ∈ ns, 0 ≤ n ∧ n ≤ 127) : m_slices_Min_int_int ns = some (ns.foldl min 127) ∧ m_slices_Max_int_int ns = some (ns.foldl max 0) := by
  cases ns with
  | nil => exact (hne rfl).elim
  | cons a ns =>
    have ha := hr a (List.mem_cons_self ..)
    have hd : decide (((a :: ns).length : Int) < 1) = false := decide_eq_false (by simp; omega)
    have hg : getI (a :: ns) 0 = some a := getI_of (n := 0) rfl rfl
    have k1 : ∀ (suf pre : List Int) (m : Int), a :: ns = pre ++ suf → loopM (m_slices_Min_int_int_l1 (a :: ns)) (m, (pre.length : Int)) = some (.brk (suf.foldl min m, ((a :: ns).length : Int))) := by
      intro suf
      induction suf with
      | nil =>
        intro pre m e
        have hp : (pre.length : Int) = ((a :: ns).length : Int) := by rw [e]; simp
        have e1 : m_slices_Min_int_int_l1 (a :: ns) (m, (pre.length : Int)) = some (.brk (m, ((a :: ns).length : Int))) := by
          unfold m_slices_Min_int_int_l1
          simp [hp]
        rw [loopM_step e1]; rfl
      | cons x suf ih =>
        intro pre m e
        have hlt : pre.length < (a :: ns).length := by rw [e]; simp
        have hx : getI (a :: ns) (pre.length : Int) = some x := getI_of (n := pre.length) rfl (by rw [e]; simp)
        have e1 : m_slices_Min_int_int_l1 (a :: ns) (m, (pre.length : Int)) = some (.nxt (min m x, ((pre ++ [x]).length : Int))) := by
          unfold m_slices_Min_int_int_l1
          simp only [decide_eq_true (show (pre.length : Int) < ((a :: ns).length : Int) by omega), ifB_true, hx, Option.bind_some]
          rw [w64_id (by omega)]
          simp
        rw [loopM_step e1, run_nxt, ih (pre ++ [x]) (min m x) (by rw [e]; simp)]; rfl
    have k2 : ∀ (suf pre : List Int) (m : Int), a :: ns = pre ++ suf → loopM (m_slices_Max_int_int_l1 (a :: ns)) (m, (pre.length : Int)) = some (.brk (suf.foldl max m, ((a :: ns).length : Int))) := by
      intro suf
      induction suf with
      | nil =>
        intro pre m e
        have hp : (pre.length : Int) = ((a :: ns).length : Int) := by rw [e]; simp
        have e1 : m_slices_Max_int_int_l1 (a :: ns) (m, (pre.length : Int)) = some (.brk (m, ((a :: ns).length : Int))) := by
          unfold m_slices_Max_int_int_l1
          simp [hp]
        rw [loopM_step e1]; rfl
      | cons x suf ih =>
        intro pre m e
        have hlt : pre.length < (a :: ns).length := by rw [e]; simp
        have hx : getI (a :: ns) (pre.length : Int) = some x := getI_of (n := pre.length) rfl (by rw [e]; simp)
        have e1 : m_slices_Max_int_int_l1 (a :: ns) (m, (pre.length : Int)) = some (.nxt (max m x, ((pre ++ [x]).length : Int))) := by
          unfold m_slices_Max_int_int_l1
          simp only [decide_eq_true (show (pre.length : Int) < ((a :: ns).length : Int) by omega), ifB_true, hx, Option.bind_some]
          rw [w64_id (by omega)]
          simp
        rw [loopM_step e1, run_nxt, ih (pre ++ [x]) (max m x) (by rw [e]; simp)]; rfl
    constructor
    · unfold m_slices_Min_int_int
      rw [hd, ifB_false, hg, Option.bind_some, show ((a, (1 : Int)) : Int × Int) = (a, (([a] : List Int).length : Int)) from rfl, k1 ns [a] a rfl]
      simp only [Option.bind_some, fin_brk, List.foldl_cons]
      rw [show min 127 a = a by omega]
    · unfold m_slices_Max_int_int
      rw [hd, ifB_false, hg, Option.bind_some, show ((a, (1 : Int)) : Int × Int) = (a, (([a] : List Int).length : Int)) from rfl, k2 ns [a] a rfl]
      simp only [Option.bind_some, fin_brk, List.foldl_cons]
      rw [show max 0 a = a by omega]
theorem range_spec {t : List TTone} (h : ∀ x ∈ t, TGood x) (hl : t.length ≤ 2000) : ∃ s r, rangeM m_piece_RangeOf_l1 0 t (false, 127, 0) = some (.brk s) ∧ m_gleeref2_RangeFor t = some r ∧
    ifB (!s.1) (TRange.mk 0 0, false, (0 : Int)) (TRange.mk s.2.1 s.2.2, true, 0) = (r.1, r.2, 0) := by
  obtain ⟨s, ns, h1, h2, h3, h4, h5, h6, h7⟩ := rangeM_rel2 m_piece_RangeOf_l1 m_gleeref2_RangeFor_l1 t (fun i s ns => s.1 = !ns.isEmpty ∧ s.2.1 = ns.foldl min 127 ∧ s.2.2 = ns.foldl max 0 ∧ (∀ n ∈ ns, 0 ≤ n ∧ n ≤ 127) ∧ ns.length ≤ i) (by
    rintro i x ⟨b, lo, hi⟩ ns hx ⟨r1, r2, r3, r4, r5⟩
    have hi' : i < t.length := (List.getElem?_eq_some_iff.1 hx).1
    simp only at r1 r2 r3
    have hg := h x (List.mem_of_getElem? hx)
    unfold m_piece_RangeOf_l1 m_gleeref2_RangeFor_l1
    by_cases hn : x.Note = -1
    · have : (x.Note != -1) = false := by simp [hn]
      simp only [this, ifB_false]
      exact ⟨_, _, rfl, rfl, r1, r2, r3, r4, by omega⟩
    · have : (x.Note != -1) = true := by simpa using hn
      simp only [this, ifB_true]
      rw [appM_of (by simp; omega) (by omega)]
      refine ⟨_, _, rfl, rfl, by simp, by simp [r2], by simp [r3], fun n hn' => ?_, by simp; omega⟩
      rcases List.mem_append.1 hn' with h1 | h1
      · exact r4 n h1
      · simp at h1
        subst h1
        have := hg.note
        omega) (false, 127, 0) [] ⟨rfl, rfl, rfl, by simp, by simp⟩
  refine ⟨s, ?_⟩
  obtain ⟨b, lo, hi⟩ := s
  simp only at h3 h4 h5 ⊢
  subst h3 h4 h5
  cases ns with
  | nil =>
    refine ⟨_, h1, by unfold m_gleeref2_RangeFor; rw [h2]; rfl, rfl⟩
  | cons a ns =>
    obtain ⟨m1, m2⟩ := Min_spec (a :: ns) (by omega) (by simp) h6
    refine ⟨(TRange.mk ((a :: ns).foldl min 127) ((a :: ns).foldl max 0), true), h1, ?_, rfl⟩
    unfold m_gleeref2_RangeFor
    rw [h2, Option.bind_some, fin_brk]
    have : (((a :: ns).length : Int) == 0) = false := by simp; omega
    rw [this, ifB_false, m1, m2]; rfl
end Go.G
