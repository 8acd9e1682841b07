/- Plain laws of the models; no condition beyond what each theorem says. -/
import Derived.Test.YtlhfimbpjdfdgacGreatDoorLU5
import Derived.Test.YtlhfimbpjdfdgacGreatDoorLC1
namespace Go.G
open Go Go.J
set_option linter.unusedSimpArgs false
set_option linter.unusedVariables false
theorem long_specR {x : TBar} (h : bad x = false) : m_piece_long x = some (lB x) ∧ 1 ≤ lB x ∧ lB x ≤ 3072 ∧ (x.Beats * 192).tdiv x.Unit = lB x := by
 obtain ⟨h1, h2, h3, -⟩ := notbad x h
 unfold m_piece_long lB
 have key : ∀ u v : Int, x.Unit = u → (192 : Int) = u * v → 0 < u → 12 ≤ v → v ≤ 192 → (quoM 192 x.Unit).bind (fun z2 => some (w64 (x.Beats * z2))) = some (x.Beats * (192 : Int).tdiv x.Unit) ∧
   1 ≤ x.Beats * (192 : Int).tdiv x.Unit ∧ x.Beats * (192 : Int).tdiv x.Unit ≤ 3072 ∧ (x.Beats * 192).tdiv x.Unit = x.Beats * (192 : Int).tdiv x.Unit := by
  intro u v hu huv hu0 hv hv2
  subst hu
  have e1 : (192 : Int).tdiv x.Unit = v := by rw [huv]; exact Int.mul_tdiv_cancel_left _ (by omega)
  have e2 : (x.Beats * 192).tdiv x.Unit = x.Beats * v := by rw [huv, ← Int.mul_assoc, Int.mul_comm x.Beats, Int.mul_assoc]; exact Int.mul_tdiv_cancel_left _ (by omega)
  have b1 : 1 * v ≤ x.Beats * v := Int.mul_le_mul_of_nonneg_right h1 (by omega)
  have b2 : x.Beats * v ≤ 16 * v := Int.mul_le_mul_of_nonneg_right h2 (by omega)
  rw [quoM_of (by omega), e1, e2, Option.bind_some, w64_id (n := v) (by omega), w64_id (by omega)]
  exact ⟨rfl, by omega, by omega, rfl⟩
 rcases h3 with h3 | h3 | h3 | h3 | h3
 ·exact key 1 192 h3 rfl (by omega) (by omega) (by omega)
 ·exact key 2 96 h3 rfl (by omega) (by omega) (by omega)
 ·exact key 4 48 h3 rfl (by omega) (by omega) (by omega)
 ·exact key 8 24 h3 rfl (by omega) (by omega) (by omega)
 ·exact key 16 12 h3 rfl (by omega) (by omega) (by omega)
theorem low_facts (k : Nat) (h1 : 1 ≤ k) (h2 : k ≤ 192) : ∃ a b : Nat, lowF k 192 = ⟨(a : Int), (b : Int)⟩ ∧ 1 ≤ a ∧ 1 ≤ b ∧ a ≤ b ∧ b ≤ 192 ∧ Nat.gcd a b = 1 ∧ (192 : Int).tmod (b : Int) = 0 ∧ (a : Int) * (192 : Int).tdiv (b : Int) = k := by
  obtain ⟨a, ha⟩ := Nat.gcd_dvd_left k 192
  obtain ⟨b, hb⟩ := Nat.gcd_dvd_right k 192
  have hg0 : 0 < Nat.gcd k 192 := Nat.gcd_pos_of_pos_right _ (by omega)
  have hgg : Nat.gcd k 192 = Nat.gcd k 192 * Nat.gcd a b := by
    have h := Nat.gcd_mul_left (Nat.gcd k 192) a b
    rw [← ha, ← hb] at h
    exact h
  have f1 : k / Nat.gcd k 192 = a := by conv => lhs; arg 1; rw [ha]
                                        exact Nat.mul_div_cancel_left a hg0
  have f2 : 192 / Nat.gcd k 192 = b := by conv => lhs; arg 1; rw [hb]
                                          exact Nat.mul_div_cancel_left b hg0
  have e1 : (lowF k 192) = ⟨(a : Int), (b : Int)⟩ := by
    unfold lowF
    congr 1
    · rw [← f1]; rfl
    · rw [← f2]; rfl
  generalize Nat.gcd k 192 = g at *
  have ha0 : 0 < a := Nat.pos_of_ne_zero fun h => by rw [h] at ha; simp at ha; omega
  have hb0 : 0 < b := Nat.pos_of_ne_zero fun h => by rw [h] at hb; simp at hb
  have hab : a ≤ b := Nat.le_of_mul_le_mul_left (by rw [← ha, ← hb]; exact h2) hg0
  have hb192 : b ≤ 192 := Nat.le_of_dvd (by omega) ⟨g, by rw [Nat.mul_comm]; exact hb⟩
  have hu : (192 : Int).tdiv (b : Int) = (g : Int) := by
    have : 192 / b = g := Nat.div_eq_of_eq_mul_left hb0 hb
    rw [← this]; rfl
  have hm : (192 : Int).tmod (b : Int) = 0 := by
    have : 192 % b = 0 := Nat.mod_eq_zero_of_dvd ⟨g, by rw [Nat.mul_comm]; exact hb⟩
    show ((192 % b : Nat) : Int) = 0
    rw [this]; rfl
  refine ⟨a, b, e1, ha0, hb0, hab, hb192, Nat.eq_of_mul_eq_mul_left hg0 (by rw [Nat.mul_one]; exact hgg.symm), hm, ?_⟩
  rw [hu, ← Int.natCast_mul, Nat.mul_comm, ← ha]
def txs : List ByteArray := [ByteArray.empty, ByteArray.empty, (ByteArray.mk [97].toArray), (ByteArray.mk [71, 108, 111, 45].toArray), (ByteArray.mk [114, 105, 45].toArray), (ByteArray.mk [195, 169].toArray), (ByteArray.mk [45].toArray)]
theorem txs_sz : ∀ s ∈ txs, s.size ≤ 20 := by
 intro s h
 simp only [txs, List.mem_cons, List.not_mem_nil, or_false] at h
 rcases h with rfl | rfl | rfl | rfl | rfl | rfl | rfl <;> decide
theorem txs_byte : ∀ s ∈ txs, ∀ (j : Nat) c, j < s.size → strI s (j : Int) = some c → 33 ≤ c := by
 intro s h
 have key : ∀ (s : ByteArray), (∀ b ∈ s.data.toList, 33 ≤ b.toNat) → ∀ (j : Nat) c, j < s.size → strI s (j : Int) = some c → 33 ≤ c := fun s hs j c hj hc => by
  rw [strI_nat] at hc
  obtain ⟨b, hb, rfl⟩ := Option.map_eq_some_iff.1 hc
  have := hs b (List.mem_of_getElem? hb)
  omega
 refine key s ?_
 simp only [txs, List.mem_cons, List.not_mem_nil, or_false] at h
 rcases h with rfl | rfl | rfl | rfl | rfl | rfl | rfl <;> decide
structure RT (x : TTone) : Prop where
 note : x.Note = -1 ∨ (0 ≤ x.Note ∧ x.Note ≤ 127)
 low : ∃ k : Nat, 1 ≤ k ∧ k ≤ 192 ∧ x.Long = lowF k 192
 txt : x.Text ∈ txs
 sil : x.Note = -1 → x.Tied = false ∧ x.Text = ByteArray.empty
theorem RT.good {x : TTone} (h : RT x) : TGood x := by
 obtain ⟨k, h1, h2, h3⟩ := h.low
 obtain ⟨a, b, e, f1, f2, f3, f4, f5, f6, f7⟩ := low_facts k h1 h2
 rw [e] at h3
 refine ⟨h.note, ?_, ?_, ?_, ?_, txs_sz _ h.txt, txs_byte _ h.txt⟩ <;> rw [h3] <;> simp only <;> omega
theorem uT_low {x : TTone} {k : Nat} (h1 : 1 ≤ k) (h2 : k ≤ 192) (h : x.Long = lowF k 192) : uT x = k := by
 obtain ⟨a, b, e, f1, f2, f3, f4, f5, f6, f7⟩ := low_facts k h1 h2
 unfold uT
 rw [h, e]; exact f7
structure FillsR (bs : List TBar) (t : List TTone) : Prop where
 len : t.length ≤ 2000
 rt : ∀ x ∈ t, RT x
 seg : ∃ gs, t = List.flatten gs ∧ gs.map sumU = bs.map lB
 tie : ∀ (j : Nat) x, t[j]? = some x → x.Tied = true → ∃ y, t[j + 1]? = some y ∧ carryB x y = true
def Mid (x : TTone) : Prop := x.Note = -1 ∨ (48 ≤ x.Note ∧ x.Note ≤ 67)
structure GT (t : List TTone) : Prop where
 rt : ∀ x ∈ t, RT x ∧ Mid x
 tie : ∀ (j : Nat) x, t[j]? = some x → x.Tied = true → ∃ y, t[j + 1]? = some y ∧ carryB x y = true
theorem GT.nil : GT [] := ⟨by simp, by simp⟩
theorem GT.add {t : List TTone} (h : GT t) {y : TTone} (hy : RT y ∧ Mid y) (hyt : y.Tied = false) : GT (t ++ [y]) := by
 refine ⟨fun x hx => ?_, fun j x hx ht => ?_⟩
 ·rcases List.mem_append.1 hx with h1 | h1
  ·exact h.rt x h1
  ·rw [List.mem_singleton] at h1; rw [h1]; exact hy
 ·rcases Nat.lt_or_ge j t.length with hj | hj
  ·rw [List.getElem?_append_left hj] at hx
   obtain ⟨z, hz, hc⟩ := h.tie j x hx ht
   exact ⟨z, by rw [List.getElem?_append_left (List.getElem?_eq_some_iff.1 hz).1]; exact hz, hc⟩
  ·rw [List.getElem?_append_right hj] at hx
   have : j - t.length = 0 := by
    have := (List.getElem?_eq_some_iff.1 hx).1
    simp at this; omega
   rw [this] at hx
   cases hx
   rw [hyt] at ht; cases ht
theorem GT.tied {t : List TTone} (h : GT t) {n : Nat} (hn : n + 1 = t.length) {e : TTone} (he : t[n]? = some e) (hne : e.Note ≠ -1) {y : TTone} (hy : RT y ∧ Mid y) (hyt : y.Tied = false) (hc : carryB ⟨e.Note, e.Long, e.Text, true⟩ y = true) :
  GT (t.set n ⟨e.Note, e.Long, e.Text, true⟩ ++ [y]) := by
 have hm := h.rt e (List.mem_of_getElem? he)
 have hr : RT ⟨e.Note, e.Long, e.Text, true⟩ ∧ Mid ⟨e.Note, e.Long, e.Text, true⟩ := ⟨⟨hm.1.note, hm.1.low, hm.1.txt, fun h => absurd h hne⟩, hm.2⟩
 refine ⟨fun x hx => ?_, fun j x hx ht => ?_⟩
 ·rcases List.mem_append.1 hx with h1 | h1
  ·rcases List.mem_or_eq_of_mem_set h1 with h2 | rfl
   ·exact h.rt x h2
   ·exact hr
  ·rw [List.mem_singleton] at h1; rw [h1]; exact hy
 ·rcases Nat.lt_or_ge j t.length with hj | hj
  ·rw [List.getElem?_append_left (by simpa using hj)] at hx
   by_cases hjn : j = n
   ·subst hjn
    rw [List.getElem?_set_self hj] at hx
    cases hx
    exact ⟨y, by rw [List.getElem?_append_right (by simp; omega)]; simp [hn], hc⟩
   ·rw [List.getElem?_set_ne (fun h => hjn h.symm)] at hx
    obtain ⟨z, hz, hcz⟩ := h.tie j x hx ht
    have hz1 := (List.getElem?_eq_some_iff.1 hz).1
    rw [List.getElem?_append_left (by simpa using hz1)]
    by_cases hj1 : j + 1 = n
    ·rw [hj1, he] at hz
     cases hz
     refine ⟨⟨e.Note, e.Long, e.Text, true⟩, by rw [hj1, List.getElem?_set_self (by omega)], ?_⟩
     exact hcz
    ·exact ⟨z, by rw [List.getElem?_set_ne (fun h => hj1 h.symm)]; exact hz, hcz⟩
  ·rw [List.getElem?_append_right (by simpa using hj)] at hx
   have : j - (t.set n ⟨e.Note, e.Long, e.Text, true⟩).length = 0 := by
    have := (List.getElem?_eq_some_iff.1 hx).1
    simp at this ⊢; omega
   rw [this] at hx
   cases hx
   rw [hyt] at ht; cases ht
theorem set_units {t : List TTone} {n : Nat} {e : TTone} (he : t[n]? = some e) : (t.set n ⟨e.Note, e.Long, e.Text, true⟩).map uT = t.map uT := by
 obtain ⟨hn, rfl⟩ := List.getElem?_eq_some_iff.1 he
 apply List.ext_getElem?
 intro j
 rw [List.getElem?_map, List.getElem?_map]
 by_cases h : j = n
 ·subst h
  rw [List.getElem?_set_self hn, he]; rfl
 ·rw [List.getElem?_set_ne (fun h' => h h'.symm)]
theorem tone_roundR (L : List Int) (left p : Int) (out : List TTone) (hleft : 0 < left) (hl : left ≤ 3072) (hp : 0 ≤ p) (hp' : p ≤ 100000) (ho : out.length ≤ 5000) (hok : GT out) :
  ∃ (n q : Int) (out' : List TTone), m_gleemake_Stream_TonesFor_l2 L (left, p, out) = some (.nxt (left - n, q, out')) ∧ (n = left ∨ 24 ≤ n) ∧ 1 ≤ n ∧ n ≤ left ∧ p ≤ q ∧ q ≤ p + 4 ∧ out'.map uT = out.map uT ++ [n] ∧ GT out' := by
 obtain ⟨v, hv, hvm⟩ := Pick_spec L (p := p) [24, 48, 48, 64, 96, 192] (by omega) (by omega) (by simp) (by simp)
 obtain ⟨u, hu, hum⟩ := Pick_spec L (p := p + 1) [60, 60, 62, 64, 67, 48, (-1)] (by omega) (by omega) (by simp) (by simp)
 have hv24 : 24 ≤ v ∧ v ≤ 192 := by
  simp only [List.mem_cons, List.not_mem_nil, or_false] at hvm
  omega
 have hu48 : u = -1 ∨ (48 ≤ u ∧ u ≤ 67) := by
  simp only [List.mem_cons, List.not_mem_nil, or_false] at hum
  omega
 obtain ⟨k, hk⟩ := Int.eq_ofNat_of_zero_le (show 0 ≤ min left v by omega)
 have hk1 : 1 ≤ k := by omega
 have hk2 : k ≤ 192 := by omega
 have hlow : m_gleeref2_Lowest (min left v) 192 = some (lowF k 192) := by
  rw [hk]; exact refLowest_spec k 192 (by omega) (by omega) (by omega)
 have hemp : ByteArray.empty ∈ txs := List.mem_cons_self ..
 -- the text
 obtain ⟨tx, p2, htx, hts, hsil, hp2a, hp2b⟩ : ∃ (tx : ByteArray) (p2 : Int), (∀ {τ : Type} (k : Int × ByteArray → Option τ), (ifB (u != (-1)) ((m_gleemake_Stream_Some L (p + 1 + 1) [ByteArray.empty, ByteArray.empty, (ByteArray.mk [97].toArray), (ByteArray.mk [71, 108, 111, 45].toArray), (ByteArray.mk [114, 105, 45].toArray), (ByteArray.mk [195, 169].toArray), (ByteArray.mk [45].toArray)]).bind fun y27 => some (.inl (y27.2, y27.1))) (some (.inl (p + 1 + 1, ByteArray.empty))) : Option ((Int × ByteArray) ⊕ τ)).bind (fun z => Sum.fin z k) = k (p2, tx)) ∧ tx ∈ txs ∧ (u = -1 → tx = ByteArray.empty) ∧ p + 2 ≤ p2 ∧ p2 ≤ p + 3 := by
  cases hun : (u != (-1)) with
  | false => exact ⟨ByteArray.empty, p + 1 + 1, fun k => rfl, hemp, fun _ => rfl, by omega, by omega⟩
  | true =>
   obtain ⟨w, hw, hwm⟩ := SomeT_spec L (p := p + 1 + 1) [ByteArray.empty, ByteArray.empty, (ByteArray.mk [97].toArray), (ByteArray.mk [71, 108, 111, 45].toArray), (ByteArray.mk [114, 105, 45].toArray), (ByteArray.mk [195, 169].toArray), (ByteArray.mk [45].toArray)] (by omega) (by omega) (by simp) (by simp)
   exact ⟨w, p + 1 + 1 + 1, fun k => by rw [hw]; rfl, hwm, fun h => (by rw [h] at hun; cases hun), by omega, by omega⟩
 -- whether it is tied
 obtain ⟨b, p3, hb, hp3a, hp3b, hbo⟩ : ∃ (b : Bool) (p3 : Int), (∀ {τ : Type} (k : Bool × Int → Option τ), (ifB (decide ((w64 ((out.length : Int) - 1)) ≥ 0)) ((getI out (w64 ((out.length : Int) - 1))).bind fun e31 => ifB (e31.Note == u) (ifB (u != (-1)) ((m_gleemake_Stream_Flip L p2 2).bind fun y32 => some (.inl (y32.1, y32.2))) (some (.inl (false, p2)))) (some (.inl (false, p2)))) (some (.inl (false, p2))) : Option ((Bool × Int) ⊕ τ)).bind (fun z => Sum.fin z k) = k (b, p3)) ∧ p2 ≤ p3 ∧ p3 ≤ p2 + 1 ∧ (b = true → ∃ n e, n + 1 = out.length ∧ out[n]? = some e ∧ e.Note = u ∧ u ≠ -1) := by
  rw [w64_id (by omega)]
  by_cases h0 : (out.length : Int) - 1 ≥ 0
  ·have hlt : out.length - 1 < out.length := by omega
   have hg : getI out ((out.length : Int) - 1) = some out[out.length - 1] := getI_of (n := out.length - 1) (by omega) (List.getElem?_eq_getElem hlt)
   obtain ⟨f, hf⟩ := Flip_spec L (p := p2) (n := 2) (by omega) (by omega) (by omega)
   simp only [decide_eq_true h0, ifB_true, hg, Option.bind_some]
   cases hen : (out[out.length - 1].Note == u)
   ·exact ⟨false, p2, fun k => rfl, by omega, by omega, fun h => by cases h⟩
   ·cases hun : (u != (-1))
    ·exact ⟨false, p2, fun k => rfl, by omega, by omega, fun h => by cases h⟩
    ·exact ⟨f, p2 + 1, fun k => by rw [hf]; rfl, by omega, by omega, fun _ => ⟨out.length - 1, _, by omega, List.getElem?_eq_getElem hlt, by simpa using hen, by simpa using hun⟩⟩
  ·simp only [decide_eq_false h0, ifB_false]
   exact ⟨false, p2, fun k => rfl, by omega, by omega, fun h => by cases h⟩
 have hy : ∀ tx' ∈ txs, (u = -1 → tx' = ByteArray.empty) → RT ⟨u, lowF k 192, tx', false⟩ ∧ Mid ⟨u, lowF k 192, tx', false⟩ := fun tx' h1 h2 =>
  ⟨⟨by show u = -1 ∨ (0 ≤ u ∧ u ≤ 127); omega, ⟨k, hk1, hk2, rfl⟩, h1, fun h => ⟨rfl, h2 h⟩⟩, hu48⟩
 have huT : ∀ tx' : ByteArray, uT ⟨u, lowF k 192, tx', false⟩ = min left v := fun tx' => by rw [hk]; exact uT_low hk1 hk2 rfl
 -- the tone before
 obtain ⟨tx2, out2, ho2, hol, hun2, hok2⟩ : ∃ (tx2 : ByteArray) (out2 : List TTone), (∀ {τ : Type} (k : ByteArray × List TTone → Option τ), (ifB b ((getI out (w64 ((out.length : Int) - 1))).bind fun e37 => some (.inl (ByteArray.empty, (out.set ((w64 ((out.length : Int) - 1)).toNat) (TTone.mk e37.Note e37.Long e37.Text true))))) (some (.inl (tx, out))) : Option ((ByteArray × (List TTone)) ⊕ τ)).bind (fun z => Sum.fin z k) = k (tx2, out2)) ∧ out2.length = out.length ∧ out2.map uT = out.map uT ∧ GT (out2 ++ [⟨u, lowF k 192, tx2, false⟩]) := by
  cases b with
  | false => exact ⟨tx, out, fun k => rfl, rfl, rfl, hok.add (hy tx hts hsil) rfl⟩
  | true =>
   obtain ⟨n, e, hn, hne, hnu, hu1⟩ := hbo rfl
   rw [w64_id (by omega)]
   have hg : getI out ((out.length : Int) - 1) = some e := getI_of (n := n) (by omega) hne
   refine ⟨ByteArray.empty, out.set n ⟨e.Note, e.Long, e.Text, true⟩, fun k => by rw [hg, show ((out.length : Int) - 1).toNat = n by omega]; rfl, by simp, set_units hne, ?_⟩
   refine hok.tied hn hne (by rw [hnu]; exact hu1) (hy _ hemp fun _ => rfl) rfl ?_
   unfold carryB
   simp [hnu]
 unfold m_gleemake_Stream_TonesFor_l2
 simp only [decide_eq_true (show left > 0 by omega), ifB_true, hv, hu, Option.bind_some, hlow, htx, hb, ho2]
 rw [appM_of (by simp; omega) (by omega), Option.bind_some, w64_id (by omega)]
 refine ⟨min left v, p3, _, rfl, by omega, by omega, by omega, by omega, by omega, ?_, hok2⟩
 rw [List.map_append, hun2, List.map_cons, List.map_nil, huT]
theorem tone_barR (L : List Int) (left p : Int) (out : List TTone) (hl0 : 0 ≤ left) (hl : left ≤ 3072) (hp : 0 ≤ p) (hp' : p ≤ 50000) (ho : out.length ≤ 2000) (hok : GT out) :
  ∃ q out' z ks, loopM (m_gleemake_Stream_TonesFor_l2 L) (left, p, out) = some (.brk (z, q, out')) ∧ p ≤ q ∧ q ≤ p + 520 ∧ ks.length ≤ 130 ∧ out'.map uT = out.map uT ++ ks ∧ ks.sum = left ∧ GT out' := by
 obtain ⟨f, h1, h2⟩ := loopM_post (m_gleemake_Stream_TonesFor_l2 L)
  (fun s => 0 ≤ s.1 ∧ s.1 ≤ 3072 ∧ (∃ ks : List Int, s.2.2.map uT = out.map uT ++ ks ∧ ks.sum = left - s.1 ∧ p ≤ s.2.1 ∧ s.2.1 ≤ p + 4 * ks.length ∧ (24 * (ks.length : Int) + s.1 ≤ 3072 ∨ (s.1 = 0 ∧ 24 * (ks.length : Int) ≤ 3072 + 24))) ∧ GT s.2.2)
  (fun s => s.1.toNat) (fun f => ∃ z q out' ks, f = .brk (z, q, out') ∧ p ≤ q ∧ q ≤ p + 520 ∧ ks.length ≤ 130 ∧ out'.map uT = out.map uT ++ ks ∧ ks.sum = left ∧ GT out') (by
   rintro ⟨l, r, o⟩ ⟨a1, a2, ⟨ks, a3, a3', a4, a5, a6⟩, a7⟩
   simp only at a1 a2 a3 a3' a4 a5 a6 a7 ⊢
   have hol : o.length = out.length + ks.length := by
    have := congrArg List.length a3
    simpa using this
   by_cases h0 : l > 0
   ·left
    obtain ⟨n, q, o', e1, e2, e3, e4, e5, e6, e7, e8⟩ := tone_roundR L l r o h0 a2 (by omega) (by omega) (by omega) a7
    refine ⟨_, e1, ⟨by simp only; omega, by simp only; omega, ⟨ks ++ [n], by simp only; rw [e7, a3, List.append_assoc], by simp only [List.sum_append, List.sum_cons, List.sum_nil]; omega, by simp only; omega, by simp only [List.length_append, List.length_singleton]; omega, ?_⟩, e8⟩, by simp only; omega⟩
    simp only [List.length_append, List.length_singleton]
    rcases e2 with e2 | e2
    ·right; omega
    ·left; omega
   ·right; left
    exact ⟨_, by unfold m_gleemake_Stream_TonesFor_l2; simp only [decide_eq_false h0, ifB_false], l, r, o, ks, rfl, a4, by omega, by omega, a3, by omega, a7⟩) (left, p, out) ⟨hl0, hl, ⟨[], by simp, by simp, by simp, by simp, .inl (by simpa using hl)⟩, hok⟩
 obtain ⟨z, q, out', ks, rfl, b1, b2, b3, b4, b5, b6⟩ := h2
 exact ⟨q, out', z, ks, h1, b1, b2, b3, b4, b5, b6⟩
theorem split_by : ∀ (ks : List (List Int)) (t : List TTone), t.map uT = List.flatten ks → ∃ gs, t = List.flatten gs ∧ gs.map sumU = ks.map List.sum
 | [], t, h => ⟨[], by simpa using h, rfl⟩
 | k :: ks, t, h => by
  rw [List.flatten_cons] at h
  have h1 : (t.take k.length).map uT = k := by rw [List.map_take, h, List.take_left']; rfl
  have h2 : (t.drop k.length).map uT = List.flatten ks := by rw [List.map_drop, h, List.drop_left']; rfl
  obtain ⟨gs, e1, e2⟩ := split_by ks _ h2
  refine ⟨t.take k.length :: gs, by rw [List.flatten_cons, ← e1, List.take_append_drop], ?_⟩
  rw [List.map_cons, List.map_cons, e2]
  unfold sumU
  rw [h1]
theorem TonesFor_right (L : List Int) {bs : List TBar} {p : Int} (hb : bs.length ≤ 12) (hc : cB bs = 0) (hp : 0 ≤ p) (hp' : p ≤ 20000) :
  ∃ t q, m_gleemake_Stream_TonesFor L p bs = some (t, q) ∧ p ≤ q ∧ q ≤ p + 6240 ∧ t.length ≤ 1560 ∧ FillsR bs t ∧ ∀ x ∈ t, Mid x := by
 obtain ⟨hl, rr, hgb, -⟩ := cB_zero hc
 have hbad := goB_all bs _ rr hgb
 obtain ⟨s, h1, h2, h3, h4, h5, ks, h6, h7⟩ := rangeM_invx (m_gleemake_Stream_TonesFor_l1 L) bs (fun i s => p ≤ s.1 ∧ s.1 ≤ p + 520 * i ∧ s.2.length ≤ 130 * i ∧ GT s.2 ∧ ∃ ks : List (List Int), s.2.map uT = List.flatten ks ∧ ks.map List.sum = (bs.take i).map lB) (by
  rintro i x ⟨r, o⟩ hx ⟨a1, a2, a3, a4, ks, a5, a6⟩
  have hi : i < bs.length := (List.getElem?_eq_some_iff.1 hx).1
  simp only at a1 a2 a3 a4 a5 a6
  have hxb := hbad x (List.mem_of_getElem? hx)
  obtain ⟨n1, n2, n3, -⟩ := notbad x hxb
  obtain ⟨-, l2, l3, l4⟩ := long_specR hxb
  unfold m_gleemake_Stream_TonesFor_l1
  rw [show max 1 (min x.Beats 16) = x.Beats by omega, show max 1 (min x.Unit 16) = x.Unit by omega, w64_id (by omega), quoM_of (by omega), Option.bind_some, l4, w64_id (by omega)]
  obtain ⟨q, o', z, k, e1, e2, e3, e4, e5, e6, e7⟩ := tone_barR L (lB x) r o (by omega) l3 (by omega) (by omega) (by omega) a4
  rw [e1]
  have hol : o'.length = o.length + k.length := by
   have := congrArg List.length e5
   simpa using this
  refine ⟨_, rfl, by simp only; omega, by simp only; omega, by simp only; omega, e7, ks ++ [k], ?_, ?_⟩
  ·simp only
   rw [e5, a5]; simp
  ·rw [List.map_append, a6, List.take_add_one, hx, List.map_append]
   simp [e6]) (p, []) ⟨by simp, by simp, by simp, GT.nil, [], rfl, by simp⟩
 rw [List.take_length] at h7
 obtain ⟨gs, g1, g2⟩ := split_by ks s.2 h6
 exact ⟨s.2, s.1, by unfold m_gleemake_Stream_TonesFor; rw [h1]; rfl, h2, by omega, by omega, ⟨by omega, fun x hx => (h5.rt x hx).1, ⟨gs, g1, by rw [g2, h7]⟩, h5.tie⟩, fun x hx => (h5.rt x hx).2⟩
end Go.G
