/- LN3: what is drawn; the law of the chords that are named. In plain Lean, no program in sight. -/
import Derived.Test.YtndkkkgkmeijlaaDoorLN2
namespace Go.G
open Go Go.J
theorem Odd_spec (L : List Int) {p a b : Int} (hp : 0 ≤ p) (hp' : p ≤ 999999000) (ha : -1000000000 ≤ a) (hab : a ≤ b) (hb : b ≤ 1000000000) :
    ∃ v q, m_gleemake_Stream_Odd L p a b = some (v, q) ∧ p ≤ q ∧ q ≤ p + 2 := by
  unfold m_gleemake_Stream_Odd
  obtain ⟨f, hf⟩ := Flip_spec L (n := 12) hp (by omega) (by omega)
  rw [hf, Option.bind_some]
  cases f with
  | true =>
    obtain ⟨v, h1, h2⟩ := Pick_spec L (p := p + 1) [w64 (a - 1), w64 (b + 1), a, b, -1099511627776, 1099511627776] (by omega) (by omega) (by simp) (by simp)
    rw [ifB_true, h1, Option.bind_some]
    exact ⟨v, p + 2, by simp [Int.add_assoc], by omega, by omega⟩
  | false =>
    obtain ⟨v, h1, h2, h3⟩ := Range_spec L (p := p + 1) (a := a) (b := b) (by omega) (by omega) (by omega) hab (by omega)
    rw [ifB_false, h1, Option.bind_some]
    exact ⟨v, p + 2, by simp [Int.add_assoc], by omega, by omega⟩
theorem AChord_spec (L : List Int) {q : Int} (hq : 0 ≤ q) (hq' : q ≤ 999000000) : ∃ c q', m_gleemake_Stream_AChord L q = some (c, q') ∧ q ≤ q' ∧ q' ≤ q + 10 := by
  unfold m_gleemake_Stream_AChord
  obtain ⟨f, hf⟩ := Flip_spec L (p := q) (n := 40) hq (by omega) (by omega)
  rw [hf, Option.bind_some]
  simp only
  cases f with
  | true =>
    obtain ⟨a, q1, h1, h2, h3⟩ := Odd_spec L (p := q + 1) (a := 0) (b := 11) (by omega) (by omega) (by omega) (by omega) (by omega)
    obtain ⟨b, q2, h4, h5, h6⟩ := Odd_spec L (p := q1) (a := 1) (b := 7) (by omega) (by omega) (by omega) (by omega) (by omega)
    obtain ⟨c, q3, h7, h8, h9⟩ := Odd_spec L (p := q2) (a := 0) (b := 3) (by omega) (by omega) (by omega) (by omega) (by omega)
    rw [ifB_true, h1, Option.bind_some]
    simp only
    rw [h4, Option.bind_some]
    simp only
    rw [h7, Option.bind_some]
    exact ⟨_, _, rfl, by simp only; omega, by simp only; omega⟩
  | false =>
    obtain ⟨a, h1, -⟩ := Range_spec L (p := q + 1) (a := 0) (b := 11) (by omega) (by omega) (by omega) (by omega) (by omega)
    obtain ⟨b, h2, -⟩ := Range_spec L (p := q + 1 + 1) (a := 1) (b := 7) (by omega) (by omega) (by omega) (by omega) (by omega)
    obtain ⟨c, h3, -⟩ := Pick_spec L (p := q + 1 + 1 + 1) [0, 0, 0, 1, 2] (by omega) (by omega) (by simp) (by simp)
    rw [ifB_false, h1, Option.bind_some]
    simp only
    rw [h2, Option.bind_some]
    simp only
    rw [h3, Option.bind_some]
    exact ⟨_, _, rfl, by simp only; omega, by simp only; omega⟩
theorem EqualInt_spec (a b : List Int) : m_slices_Equal_int_int a b = some (decide (a = b)) := by
  unfold m_slices_Equal_int_int
  by_cases hl : a.length = b.length
  · rw [show ((a.length : Int) != (b.length : Int)) = false by rw [hl]; simp, ifB_false]
    obtain ⟨f, h1, h2⟩ := rangeM_stop (m_slices_Equal_int_int_l1 b) a (fun i _ => a.take i = b.take i) (fun f => match f with | .nxt _ => False | .brk _ => a = b | .ret v => v = false ∧ a ≠ b) (by
      intro i x s hx hI
      have hi := (List.getElem?_eq_some_iff.1 hx).1
      have hb : b[i]? = some b[i] := List.getElem?_eq_getElem (by omega)
      unfold m_slices_Equal_int_int_l1
      rw [getI_nat, hb, Option.bind_some]
      by_cases he : x = b[i]
      · rw [show (x != b[i]) = false by simpa using he]
        refine ⟨_, rfl, fun _ _ => ?_, by simp, by simp⟩
        rw [List.take_add_one, List.take_add_one, hI, hx, hb, he]
      · rw [show (x != b[i]) = true by simpa using he]
        refine ⟨_, rfl, by simp, by simp, fun v hv => ?_⟩
        cases hv
        refine ⟨rfl, fun hab => he ?_⟩
        subst hab
        rw [hb] at hx
        exact (Option.some.inj hx).symm) (fun s hI => by
      rw [List.take_length, hl, List.take_length] at hI
      exact hI) () rfl
    rw [h1, Option.bind_some]
    cases f with
    | nxt s => exact h2.elim
    | brk s => rw [decide_eq_true h2]; rfl
    | ret v => rw [h2.1, decide_eq_false h2.2]; rfl
  · rw [show ((a.length : Int) != (b.length : Int)) = true by simp; omega, ifB_true, decide_eq_false (fun h => hl (by rw [h]))]
theorem catM_of {a b : ByteArray} (h : a.size + b.size ≤ 9223372036854775807) : catM a b = some (a ++ b) := by unfold catM; rw [if_pos h]
theorem ba_app (a b : ByteArray) : (a ++ b).size = a.size + b.size := by simp
theorem Itoa_small {t : Int} (h : 0 ≤ t ∧ t ≤ 3) : ∃ y, m_strconv_Itoa t = some y ∧ y.size ≤ 21 := by
  unfold m_strconv_Itoa
  rw [if_pos (by omega)]
  refine ⟨_, rfl, ?_⟩
  rw [size_data]
  exact Lib.itoa_length_le t (by omega) (by omega)
theorem roots_get {r : Int} (h : 0 ≤ r ∧ r ≤ 11) : ∃ x, (m_chord_rootWords.bind fun R => getI R r) = some x ∧ x.size ≤ 4 := by
  obtain ⟨R, hR, hl, hs⟩ : ∃ R, m_chord_rootWords = some R ∧ R.length = 12 ∧ ∀ x ∈ R, x.size ≤ 4 := ⟨_, rfl, rfl, by decide⟩
  have : r.toNat < R.length := by omega
  exact ⟨R[r.toNat], by rw [hR]; exact getI_of (n := r.toNat) (by omega) (List.getElem?_eq_getElem this), hs _ (List.getElem_mem this)⟩
theorem kinds_get {k : Int} (h : 1 ≤ k ∧ k ≤ 7) : ∃ x, (m_chord_kindWords.bind fun K => getI K k) = some x ∧ x.size ≤ 4 := by
  obtain ⟨K, hR, hl, hs⟩ : ∃ K, m_chord_kindWords = some K ∧ K.length = 8 ∧ ∀ x ∈ K, x.size ≤ 4 := ⟨_, rfl, rfl, by decide⟩
  have : k.toNat < K.length := by omega
  exact ⟨K[k.toNat], by rw [hR]; exact getI_of (n := k.toNat) (by omega) (List.getElem?_eq_getElem this), hs _ (List.getElem_mem this)⟩
theorem NameOf_spec {c : TChord} (hr : 0 ≤ c.Root ∧ c.Root ≤ 11) (hk : 1 ≤ c.Kind ∧ c.Kind ≤ 7) (ht : 0 ≤ c.Turn ∧ c.Turn ≤ 3) : ∃ x, m_gleeref2_NameOf c = some x ∧ x.size ≤ 40 ∧ (m_gleeref2_ChordFault c = some 0 → m_chord_Name c = some (x, 0)) := by
  obtain ⟨x, h1, h2⟩ := roots_get hr
  obtain ⟨y, h3, h4⟩ := kinds_get hk
  obtain ⟨R, hR⟩ : ∃ R, m_chord_rootWords = some R := ⟨_, rfl⟩
  obtain ⟨K, hK⟩ : ∃ K, m_chord_kindWords = some K := ⟨_, rfl⟩
  rw [hR, Option.bind_some] at h1
  rw [hK, Option.bind_some] at h3
  have hs1 : (ByteArray.mk [32].toArray).size = 1 := rfl
  have hs2 : (ByteArray.mk [47].toArray).size = 1 := rfl
  have c1 : catM x (ByteArray.mk [32].toArray) = some (x ++ ByteArray.mk [32].toArray) := catM_of (by omega)
  have c2 : catM (x ++ ByteArray.mk [32].toArray) y = some (x ++ ByteArray.mk [32].toArray ++ y) := catM_of (by rw [ba_app]; omega)
  have hR' : m_gleeref2_roots = m_chord_rootWords := rfl
  have hK' : m_gleeref2_kinds = m_chord_kindWords := rfl
  obtain ⟨z, hz, hzs⟩ := Itoa_small ht
  have c3 : catM (ByteArray.mk [47].toArray) z = some (ByteArray.mk [47].toArray ++ z) := catM_of (by omega)
  have c4 : catM (x ++ ByteArray.mk [32].toArray ++ y) (ByteArray.mk [47].toArray ++ z) = some (x ++ ByteArray.mk [32].toArray ++ y ++ (ByteArray.mk [47].toArray ++ z)) := catM_of (by rw [ba_app, ba_app, ba_app]; omega)
  unfold m_gleeref2_NameOf m_chord_Name
  rw [CheckChord_eq, hR', hK', hR, hK]
  simp only [Option.bind_some, h1, h3, c1, c2, fin_inl, hz, c3, c4]
  by_cases h0 : c.Turn > 0
  · rw [decide_eq_true h0, ifB_true]
    refine ⟨_, rfl, by rw [ba_app, ba_app, ba_app, ba_app]; omega, fun he => ?_⟩
    rw [he]; rfl
  · rw [decide_eq_false h0, ifB_false]
    refine ⟨_, rfl, by rw [ba_app, ba_app]; omega, fun he => ?_⟩
    rw [he]; rfl
theorem encode_size (r : Int) : (Utf8.encode r).size ≤ 4 := by
  unfold Utf8.encode
  dsimp only
  repeat' split
  all_goals exact Nat.le_of_ble_eq_true rfl
theorem strS_of {s : ByteArray} {a b : Int} (h : 0 ≤ a ∧ a ≤ b ∧ b ≤ s.size) : ∃ d, strS s a b = some d ∧ d.size ≤ s.size := by
  unfold strS
  rw [if_pos h]
  exact ⟨_, rfl, by rw [ByteArray.size_extract]; omega⟩
theorem Changed_spec (L : List Int) {q : Int} (t v : ByteArray) (hq : 0 ≤ q) (hq' : q ≤ 999000000) (ht : t.size ≤ 200) (hv : 1 ≤ v.size ∧ v.size ≤ 12) : ∃ t' q', m_gleemake_Stream_Changed L q t v = some (t', q') ∧ q ≤ q' ∧ q' ≤ q + 3 ∧ t'.size ≤ 2 * t.size + 12 := by
  unfold m_gleemake_Stream_Changed
  rw [ba_empty, ba_empty]
  by_cases h0 : t.size = 0
  · rw [decide_eq_true h0]
    exact ⟨v, q, rfl, by omega, by omega, by omega⟩
  · rw [decide_eq_false h0, decide_eq_false (by omega), ifB_false, Option.bind_some, fin_inl, ifB_false]
    obtain ⟨i, hi, hi0, hi1⟩ := Next_spec L (p := q) (n := t.size) (by omega) (by omega) (by omega)
    have hi1 := hi1 (by omega)
    obtain ⟨j, hj, hj0, hj1⟩ := Next_spec L (p := q + 1) (n := v.size) (by omega) (by omega) (by omega)
    have hj1 := hj1 (by omega)
    obtain ⟨c, hc⟩ : ∃ c, strI v j = some c := by
      have := strI_nat v j.toNat
      rw [show ((j.toNat : Nat) : Int) = j by omega, List.getElem?_eq_getElem (by rw [← size_data]; omega)] at this
      exact ⟨_, this⟩
    obtain ⟨m, hm, -⟩ := Next_spec L (p := q + 1 + 1) (n := 3) (by omega) (by omega) (by omega)
    have he := encode_size (IntKind.wrap .i32 c)
    obtain ⟨d1, g1, g2⟩ := strS_of (s := t) (a := 0) (b := i) (by omega)
    obtain ⟨d2, g3, g4⟩ := strS_of (s := t) (a := i + 1) (b := t.size) (by omega)
    obtain ⟨d3, g5, g6⟩ := strS_of (s := t) (a := i) (b := t.size) (by omega)
    rw [hi, Option.bind_some]
    simp only
    rw [hj, Option.bind_some]
    simp only
    rw [hc, Option.bind_some, hm, Option.bind_some]
    simp only
    rw [w64_id (by omega), g1, g3, g5]
    simp only [Option.bind_some]
    have k1 : catM d1 (Utf8.encode (IntKind.wrap .i32 c)) = some (d1 ++ Utf8.encode (IntKind.wrap .i32 c)) := catM_of (by omega)
    have k2 : catM (d1 ++ Utf8.encode (IntKind.wrap .i32 c)) d2 = some (d1 ++ Utf8.encode (IntKind.wrap .i32 c) ++ d2) := catM_of (by rw [ba_app]; omega)
    have k3 : catM (d1 ++ Utf8.encode (IntKind.wrap .i32 c)) d3 = some (d1 ++ Utf8.encode (IntKind.wrap .i32 c) ++ d3) := catM_of (by rw [ba_app]; omega)
    have k4 : catM d1 d2 = some (d1 ++ d2) := catM_of (by omega)
    rw [k1, k4]
    simp only [Option.bind_some, k2, k3]
    cases (m == 0) with
    | true => exact ⟨_, _, rfl, by omega, by omega, by rw [ba_app, ba_app]; omega⟩
    | false =>
      cases (m == 1) with
      | true => exact ⟨_, _, rfl, by omega, by omega, by rw [ba_app, ba_app]; omega⟩
      | false => exact ⟨_, _, rfl, by omega, by omega, by rw [ba_app]; omega⟩
theorem ChordText_spec (L : List Int) {q : Int} (hq : 0 ≤ q) (hq' : q ≤ 998000000) : ∃ t q', m_gleemake_Stream_ChordText L q = some (t, q') ∧ t.size ≤ 1000 := by
  unfold m_gleemake_Stream_ChordText
  obtain ⟨r, h1, h2, h3⟩ := Range_spec L (p := q) (a := 0) (b := 11) hq (by omega) (by omega) (by omega) (by omega)
  obtain ⟨k, h4, h5, h6⟩ := Range_spec L (p := q + 1) (a := 1) (b := 7) (by omega) (by omega) (by omega) (by omega) (by omega)
  obtain ⟨u, h7, h8, h9⟩ := Range_spec L (p := q + 1 + 1) (a := 0) (b := 2) (by omega) (by omega) (by omega) (by omega) (by omega)
  obtain ⟨x, h10, h11, -⟩ := NameOf_spec (c := ⟨r, k, u⟩) ⟨h2, h3⟩ ⟨h5, h6⟩ ⟨h8, by simp only; omega⟩
  obtain ⟨v, h12, h13⟩ := Pick_spec L (p := q + 1 + 1 + 1) [0, 0, 0, 1, 2] (by omega) (by omega) (by simp) (by simp)
  rw [h1, Option.bind_some]
  simp only
  rw [h4, Option.bind_some]
  simp only
  rw [h7, Option.bind_some]
  simp only
  rw [h10, Option.bind_some, h12, Option.bind_some]
  simp only
  have hv : 0 ≤ v ∧ v ≤ 2 := by
    simp only [List.mem_cons, List.not_mem_nil, or_false] at h13
    omega
  rw [show rangeI v = some (List.range v.toNat) by unfold rangeI; rw [if_pos (by omega)], Option.bind_some]
  obtain ⟨s, g1, t, p, rfl, g2, g3, g4⟩ := rangeM_invx (m_gleemake_Stream_ChordText_l1 L) (List.range v.toNat) (fun i s => ∃ (t : ByteArray) (p : Int), s = (t, p) ∧ 0 ≤ p ∧ p ≤ q + 4 + 3 * i ∧ (i = 0 ∧ t.size ≤ 40 ∨ i = 1 ∧ t.size ≤ 92 ∨ i = 2 ∧ t.size ≤ 196)) (by
    rintro i y s hx ⟨t, p, rfl, g2, g3, g4⟩
    have hi : i < v.toNat := by have := (List.getElem?_eq_some_iff.1 hx).1; simpa using this
    unfold m_gleemake_Stream_ChordText_l1
    simp only
    obtain ⟨t', q', k1, k2, k3, k4⟩ := Changed_spec L (q := p) t (ByteArray.mk [32, 35, 47, 48, 49, 50, 55, 97, 98, 109, 120].toArray) (by omega) (by omega) (by omega) ⟨by decide, by decide⟩
    rw [k1, Option.bind_some]
    exact ⟨_, rfl, t', q', rfl, by omega, by omega, by omega⟩) (x, q + 1 + 1 + 1 + 1) ⟨_, _, rfl, by omega, by omega, by omega⟩
  rw [g1, Option.bind_some, fin_brk]
  exact ⟨_, _, rfl, by simp only; omega⟩
theorem sounded_true : m_gleelaw2_sounded = some true := by
  obtain ⟨x, h1, -, h2⟩ := NameOf_spec (c := ⟨1, 2, 1⟩) (by decide) (by decide) (by decide)
  have hc : m_gleeref2_ChordFault ⟨1, 2, 1⟩ = some 0 := by kernel_rfl
  have hI : m_strconv_Itoa 1 = some (ByteArray.mk [49].toArray) := by
    unfold m_strconv_Itoa
    rw [if_pos (by omega)]
    have : Lib.itoa 1 = [49] := by
      have := Lib.itoa_nonneg 1
      rw [Lib.decDigits_one (by omega)] at this
      exact this
    rw [this]
  have hx : m_gleeref2_NameOf ⟨1, 2, 1⟩ = some (ByteArray.mk [99, 35, 32, 109, 105, 110, 47, 49].toArray) := by
    unfold m_gleeref2_NameOf
    simp only
    rw [hI]
    rfl
  have h3 := h2 hc
  unfold m_gleelaw2_sounded
  rw [h3, Option.bind_some]
  rw [hx] at h1
  cases h1
  simp
/-- THE LAW: at every seed the answer is true. -/
theorem ChordsNamed_true (L : List Int) : m_gleelaw2_ChordsNamed L = some true := by
  unfold m_gleelaw2_ChordsNamed
  obtain ⟨c, q1, h1, h2, h3⟩ := AChord_spec L (q := 0) (by omega) (by omega)
  obtain ⟨t, q2, h4, h5⟩ := ChordText_spec L (q := q1) (by omega) (by omega)
  obtain ⟨e, he, hr⟩ := ChordFault_total c
  obtain ⟨pc, pe, k1, k2⟩ := Parse_tie t h5
  rw [h1, Option.bind_some]
  simp only
  rw [h4, Option.bind_some]
  simp only
  have r1 : ∀ z : Int, (z == z) = true := fun z => by simp
  have r2 : ∀ z : ByteArray, (z.toList == z.toList) = true := fun z => by simp
  by_cases h0 : e = 0
  · subst h0
    obtain ⟨r, k, u, hR⟩ := hr rfl
    have hu := klen_le hR.hk
    have hu2 := hR.ht
    have hce := hR.eq
    obtain ⟨T, g1, g2, -, -⟩ := tones_spec hR.hr hR.hk (t := u) (by omega)
    rw [← hce] at g1 g2
    obtain ⟨x, g3, -, g4⟩ := NameOf_spec (c := c) (by rw [hce]; have := hR.hr; simp only; omega) (by rw [hce]; have := hR.hk; simp only; omega) (by rw [hce]; simp only; omega)
    have hT : m_chord_Tones c = some (T, 0) := by
      unfold m_chord_Tones
      rw [CheckChord_eq, he, Option.bind_some, show ((0 : Int) != 0) = false from rfl, ifB_false, g1]; rfl
    rw [hT, g4 he, k1, he, CheckChord_eq, he, g2, g3]
    simp only [Option.bind_some, r1, ifB_true, fin_inl, k2, EqualInt_spec, decide_true, r2, sounded_true]
  · have hne : (e != 0) = true := by simpa using h0
    have hne2 : (e == 0) = false := by simpa using h0
    have hT : m_chord_Tones c = some ([], e) := by
      unfold m_chord_Tones
      rw [CheckChord_eq, he, Option.bind_some, hne, ifB_true]
    have hN : m_chord_Name c = some (ByteArray.empty, e) := by
      unfold m_chord_Name
      rw [CheckChord_eq, he, Option.bind_some, hne, ifB_true]
    rw [hT, hN, k1, he, CheckChord_eq, he]
    simp only [Option.bind_some, r1, hne2, ifB_true, ifB_false, fin_inl, k2, EqualInt_spec, decide_true, r2, sounded_true]
end Go.G
