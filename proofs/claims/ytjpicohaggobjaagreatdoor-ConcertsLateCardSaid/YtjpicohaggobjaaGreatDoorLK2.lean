/- LK2: who leaves; the row of what is late. No program in sight. -/
import Derived.Test.YtjpicohaggobjaaGreatDoorLK1
import Derived.Test.YtjpicohaggobjaaGreatDoorLM
namespace Go.G
open Go Go.J
set_option linter.unusedSimpArgs false
def upto (p : TProgram) (i : Nat) : List ByteArray := (p.Items.take i).flatMap (·.Parts)
def freshB (p : TProgram) (i : Nat) : Bool := match p.Items[i]? with
  | some x => x.Parts.any fun s => !memB s (upto p i)
  | none => false
def lateB (p : TProgram) (fr at_ : Int) (i : Nat) : Bool := decide (fr + bg p i + longI p i > at_)
def outL (p : TProgram) (fr at_ : Int) (i : Nat) : List ByteArray := ((List.range i).filter fun j => freshB p j && lateB p fr at_ j).map (keyI p)
theorem outL_len (p : TProgram) (fr at_ : Int) (i : Nat) : (outL p fr at_ i).length ≤ i := by
  unfold outL
  rw [List.length_map]
  exact Nat.le_trans (List.length_filter_le ..) (by simp)
theorem outL_succ (p : TProgram) (fr at_ : Int) (i : Nat) : outL p fr at_ (i + 1) = outL p fr at_ i ++ (if (freshB p i && lateB p fr at_ i) = true then [keyI p i] else []) := by
  unfold outL
  rw [List.range_succ, List.filter_append, List.map_append]
  congr 1
  cases h : (freshB p i && lateB p fr at_ i) <;> simp [h]
theorem upto_succ {p : TProgram} {i : Nat} {x : TItem} (hx : p.Items[i]? = some x) : upto p (i + 1) = upto p i ++ x.Parts := by
  unfold upto
  rw [List.take_add_one, hx]
  simp
theorem memB_app (s : ByteArray) (a b : List ByteArray) : memB s (a ++ b) = (memB s a || memB s b) := by unfold memB; rw [List.any_append]
/-- all parts that sang, as a map -/
def SangOf (m : List (ByteArray × Bool)) (l : List ByteArray) : Prop := ∀ s, (lkM m s).getD false = memB s l
theorem sang_put {m : List (ByteArray × Bool)} {l : List ByteArray} (h : SangOf m l) (k : ByteArray) : SangOf (putM m k true) (l ++ [k]) := fun s => by
  rw [lkM_put, memB_app]
  by_cases hs : s = k
  · subst hs
    rw [if_pos rfl]
    have : memB s [s] = true := memB_of (List.mem_singleton.2 rfl)
    rw [this]; simp
  · rw [if_neg hs, h s]
    have : memB s [k] = false := memB_not fun h => hs (List.mem_singleton.1 h)
    rw [this]; simp
theorem sang_loop {ρ : Type} (step : Nat → ByteArray → List (ByteArray × Bool) → Option (Flow (List (ByteArray × Bool)) ρ)) (hst : ∀ i x u, step i x u = some (.nxt (putM u x true))) :
    ∀ (q : List ByteArray) (i : Nat) (m : List (ByteArray × Bool)) (l : List ByteArray), SangOf m l → ∃ m', rangeM step i q m = some (.brk m') ∧ SangOf m' (l ++ q) := by
  intro q
  induction q with
  | nil => intro i m l h; exact ⟨m, rfl, by simpa using h⟩
  | cons k q ih =>
    intro i m l h
    obtain ⟨m', h1, h2⟩ := ih (i + 1) _ _ (sang_put h k)
    exact ⟨m', by rw [rangeM_cons, hst]; exact h1, by simpa using h2⟩
theorem partsIn_spec (l : List TItem) (hl : l.length ≤ 60) (hp : ∀ x ∈ l, x.Parts.length ≤ 12) : ∃ r, m_gleeref2_partsIn l = some r ∧ ∀ s, memB s r = memB s (l.flatMap (·.Parts)) := by
  obtain ⟨u, h1, h2, h3⟩ := rangeM_invx m_gleeref2_partsIn_l1 l (fun i u => u = (l.take i).flatMap (·.Parts) ∧ u.length ≤ 12 * i) (by
    rintro i x u hx ⟨rfl, hu⟩
    have hi := (List.getElem?_eq_some_iff.1 hx).1
    have hpx := hp x (List.mem_of_getElem? hx)
    unfold m_gleeref2_partsIn_l1
    rw [appM_of (by omega) (by omega), Option.bind_some]
    refine ⟨_, rfl, ?_, by simp only [List.length_append]; omega⟩
    rw [List.take_add_one, hx]; simp) [] ⟨by simp, by simp⟩
  rw [List.take_length] at h2
  unfold m_gleeref2_partsIn
  rw [h1]
  have hu : u.length ≤ 720 := by omega
  have hsrt : m_slices_Sort_string_string u = some (((u.map bytesOf).mergeSort fun x y => decide (x ≤ y)).map ofBytes) := by
    unfold m_slices_Sort_string_string; rw [if_pos (by omega)]
  have hcmp : ∀ v : List ByteArray, v.length ≤ 720 → m_slices_Compact_string_string v = some ((Lib.compact (v.map bytesOf)).map ofBytes) := fun v hv => by
    unfold m_slices_Compact_string_string; rw [if_pos (by omega)]
  refine ⟨(Lib.compact ((((u.map bytesOf).mergeSort fun x y => decide (x ≤ y)).map ofBytes).map bytesOf)).map ofBytes, ?_, ?_⟩
  · show (m_slices_Sort_string_string u).bind _ = _
    rw [hsrt, Option.bind_some, hcmp _ (by simp; omega), Option.bind_some]
  · intro s
    rw [Bool.eq_iff_iff, memB_iff, memB_iff, ← h2]
    have e : ((((u.map bytesOf).mergeSort fun x y => decide (x ≤ y)).map ofBytes).map bytesOf) = (u.map bytesOf).mergeSort fun x y => decide (x ≤ y) := by
      rw [List.map_map]
      exact (List.map_congr_left fun x _ => rfl).trans (List.map_id _)
    rw [e, List.mem_map]
    constructor
    · rintro ⟨y, hy, rfl⟩
      rw [mem_compactS, List.mem_mergeSort, List.mem_map] at hy
      obtain ⟨z, hz, rfl⟩ := hy
      exact hz
    · intro h
      exact ⟨bytesOf s, by rw [mem_compactS, List.mem_mergeSort]; exact List.mem_map_of_mem h, rfl⟩
theorem Leaves_spec {p : TProgram} {fr at_ : Int} (hp : ProgOK p) (hfr : -1 ≤ fr ∧ fr ≤ 345686400000) :
    ∃ m, rangeM (m_concert_Leaves_l1 fr at_ ((List.range p.Items.length).map (bg p), bg p p.Items.length)) 0 p.Items ([], []) = some (.brk (m, outL p fr at_ p.Items.length)) := by
  have hl := hp.len
  obtain ⟨u, h1, -, h3⟩ := rangeM_invx (m_concert_Leaves_l1 fr at_ ((List.range p.Items.length).map (bg p), bg p p.Items.length)) p.Items (fun i u => SangOf u.1 (upto p i) ∧ u.2 = outL p fr at_ i) (by
    rintro i x ⟨m, o⟩ hx ⟨hs, rfl⟩
    simp only at hs
    have hi := (List.getElem?_eq_some_iff.1 hx).1
    have hbg := bg_rng hp i; have hlo := longI_rng hp i
    have hol := outL_len p fr at_ i
    rw [longI_of hx] at hlo
    have hc : m_slices_ContainsFunc_string_string__concert_Leaves_1 x.Parts m = some (freshB p i) := by
      show (ixM (fun s => m_concert_Leaves_1 s m) x.Parts).bind _ = _
      rw [ixAny _ (fun s => !memB s (upto p i)) _ (fun s _ => by unfold m_concert_Leaves_1; rw [hs s])]
      unfold freshB; rw [hx]
    obtain ⟨m2, e1, e2⟩ := sang_loop m_concert_Leaves_l2 (fun _ _ _ => rfl) x.Parts 0 m (upto p i) hs
    obtain ⟨m3, e3, e4⟩ := sang_loop m_concert_Leaves_l3 (fun _ _ _ => rfl) x.Parts 0 m (upto p i) hs
    rw [← upto_succ hx] at e2 e4
    have hg : getI ((List.range p.Items.length).map (bg p)) (i : Int) = some (bg p i) := getI_of rfl (by simp [hi])
    unfold m_concert_Leaves_l1
    simp only [hc, Option.bind_some, hg, e1, e3, fin_brk]
    rw [w64_id (n := fr + bg p i) (by omega), w64_id (n := fr + bg p i + x.Long) (by omega)]
    have hlate : lateB p fr at_ i = decide (fr + bg p i + x.Long > at_) := by unfold lateB; rw [longI_of hx]
    cases hf : freshB p i with
    | false =>
      refine ⟨_, rfl, e4, ?_⟩
      rw [outL_succ, hf]; simp
    | true =>
      simp only [ifB_true]
      rw [← hlate]
      cases hla : lateB p fr at_ i with
      | false =>
        refine ⟨_, rfl, e2, ?_⟩
        simp only
        rw [outL_succ, hf, hla]; simp
      | true =>
        simp only [ifB_true]
        rw [appM_of (by simp; omega) (by omega)]
        refine ⟨_, rfl, e2, ?_⟩
        simp only
        rw [outL_succ, hf, hla, keyI_of hx]; simp) ([], []) ⟨fun s => rfl, rfl⟩
  obtain ⟨m, o⟩ := u
  simp only at h3
  subst h3
  exact ⟨m, h1⟩
theorem LeavesAt_spec {p : TProgram} {fr at_ : Int} (hp : ProgOK p) (hfr : -1 ≤ fr ∧ fr ≤ 345686400000) : m_gleeref2_LeavesAt p fr at_ = some (outL p fr at_ p.Items.length) := by
  have hl := hp.len
  have hpar : ∀ x ∈ p.Items, x.Parts.length ≤ 12 := fun x hx => by
    obtain ⟨i, hi, rfl⟩ := List.getElem_of_mem hx
    exact (hp.item i _ (List.getElem?_eq_getElem hi)).parts
  obtain ⟨u, h1, h3⟩ := rangeM_invx (m_gleeref2_LeavesAt_l1 p at_) ((List.range p.Items.length).map (tm p fr)) (fun i u => u = outL p fr at_ i) (by
    rintro i t u hx rfl
    have hi : i < p.Items.length := by have := (List.getElem?_eq_some_iff.1 hx).1; simpa using this
    have ht : t = tm p fr i := by simpa [hi] using hx.symm
    subst ht
    have hxi : p.Items[i]? = some p.Items[i] := List.getElem?_eq_getElem hi
    have hol := outL_len p fr at_ i
    unfold m_gleeref2_LeavesAt_l1
    rw [sliceI_of (lo := 0) (hi := (i : Int)) (a := 0) (b := i) rfl rfl (by omega) (by omega), Option.bind_some]
    have hq : List.take (i - 0) (List.drop 0 p.Items) = p.Items.take i := by simp
    rw [hq]
    obtain ⟨r, r1, r2⟩ := partsIn_spec (p.Items.take i) (by simp; omega) (fun x hx => hpar x (List.mem_of_mem_take hx))
    have hc : m_slices_ContainsFunc_string_string__gleeref2_LeavesAt_1 p.Items[i].Parts r = some (freshB p i) := by
      show (ixM (fun s => m_gleeref2_LeavesAt_1 s r) p.Items[i].Parts).bind _ = _
      rw [ixAny _ (fun s => !memB s (upto p i)) _ (fun s _ => by unfold m_gleeref2_LeavesAt_1; rw [ContainsS_spec, Option.bind_some, r2 s]; rfl)]
      unfold freshB; rw [hxi]
    have hlate : decide ((tm p fr i).Time.To > at_) = lateB p fr at_ i := rfl
    rw [r1, Option.bind_some, hlate]
    cases hla : lateB p fr at_ i with
    | false =>
      refine ⟨_, rfl, ?_⟩
      rw [outL_succ, hla]; simp
    | true =>
      simp only [ifB_true, getI_of rfl hxi, Option.bind_some, hc, fin_inl]
      cases hf : freshB p i with
      | false =>
        refine ⟨_, rfl, ?_⟩
        rw [outL_succ, hf]; simp
      | true =>
        simp only [ifB_true]
        rw [appM_of (by simp; omega) (by omega)]
        refine ⟨_, rfl, ?_⟩
        rw [outL_succ, hf, hla]; simp [tm]) [] rfl
  unfold m_gleeref2_LeavesAt
  rw [TimedOf_spec hp (by omega) (by omega), Option.bind_some, h1]
  rw [h3]
  simp
theorem Leaves_all {p : TProgram} {fr at_ b : Int} (hp : b = 0 → ProgOK p) (hb : m_concert_fromFault p fr = some b) (hfr : -1 ≤ fr ∧ fr ≤ 345686400000) (e : Int) (he : e = fst0 [b, bif momB at_ then 0 else 1]) :
    ∃ v, m_concert_Leaves p fr at_ = some (v, e) ∧ (e = 0 → m_gleeref2_LeavesAt p fr at_ = some v) ∧ (e ≠ 0 → v = []) := by
  unfold m_concert_Leaves
  rw [hb, Option.bind_some]
  by_cases hb0 : b = 0
  · have hpo := hp hb0
    subst hb0
    simp only [bne_self_eq_false, ifB_false, IsMoment_spec, Option.bind_some]
    cases hm : momB at_ with
    | false =>
      rw [hm] at he
      simp [fst0] at he
      exact ⟨[], by rw [he]; rfl, fun h => by omega, fun _ => rfl⟩
    | true =>
      rw [hm] at he
      simp [fst0] at he
      subst he
      obtain ⟨m, h1⟩ := Leaves_spec (at_ := at_) hpo hfr
      simp only [Bool.not_true, ifB_false, begins_spec hpo, Option.bind_some, h1, fin_brk]
      exact ⟨_, rfl, fun _ => LeavesAt_spec hpo hfr, fun h => (h rfl).elim⟩
  · have hbb : (b != 0) = true := by simpa using hb0
    have hee : e = b := by rw [he]; unfold fst0; rw [if_neg hb0]
    rw [hbb, ifB_true]
    exact ⟨[], by rw [hee], fun h => (hb0 (hee ▸ h)).elim, fun _ => rfl⟩
theorem CloneI_spec (t : List TItem) (hl : t.length ≤ 1000000) : m_slices_Clone_api_Item_api_Item t = some t := by
  unfold m_slices_Clone_api_Item_api_Item
  rw [appM_of (by simp; omega) (by omega)]; rfl
theorem TProgram_eta (p : TProgram) : TProgram.mk p.Items p.Change p.Clap p.Break p.Half = p := rfl
theorem ConcertsLate_true (L : List Int) : m_gleelaw2_ConcertsLate L = some true := by
  unfold m_gleelaw2_ConcertsLate
  obtain ⟨p, q1, h1, h2, h3, h4⟩ := AProgram_spec L (q := 0) (most := 5) (by omega) (by omega) (by omega) (by omega)
  obtain ⟨p2, q2, i1, i2, i3, i4⟩ := AProgram_spec L (q := q1) (most := 4) (by omega) (by omega) (by omega) (by omega)
  obtain ⟨fr, h5, h6, h7⟩ := ConcertTime_spec L (q := q2) (by omega) (by omega)
  obtain ⟨key, k1, -⟩ := Some_spec L (p := q2 + 1) [(ByteArray.mk [97].toArray), (ByteArray.mk [98].toArray), (ByteArray.mk [99].toArray), (ByteArray.mk [122, 122].toArray)] (by omega) (by omega) (by simp) (by simp)
  obtain ⟨at_, a1, a2⟩ := Pick_spec L (p := q2 + 1 + 1) [0, 100, 250, 500, 1500, (-1)] (by omega) (by omega) (by simp) (by simp)
  have hat : -1 ≤ at_ ∧ at_ ≤ 1000000 := by
    simp only [List.mem_cons, List.not_mem_nil, or_false] at a2
    omega
  obtain ⟨f, hf⟩ := Flip_spec L (p := q2 + 1 + 1 + 1) (n := 2) (by omega) (by omega) (by omega)
  simp only [h1, i1, h5, k1, a1, hf, Option.bind_some]
  -- the second program
  have hr : ∀ (K : (Int × Int × Int × Int × (List TItem) × (List TItem)) → Option Bool), (∀ r : TProgram, K (r.Change, r.Clap, r.Break, r.Half, p.Items, r.Items) = some true) →
      ((ifB f ((m_slices_Clone_api_Item_api_Item p.Items).bind fun y21 => ifB (decide ((y21.length : Int) > 0)) ((m_gleemake_Stream_Next L (q2 + 1 + 1 + 1 + 1) (y21.length : Int)).bind fun y24 => (getI y21 y24.1).bind fun e25 => (getI y21 y24.1).bind fun e26 => some (.inl (p.Change, p.Clap, p.Break, p.Half, p.Items, (y21.set y24.1.toNat (TItem.mk e26.Key e26.Places (w64 (e25.Long + 1)) e26.Parts))))) (some (.inl (p.Change, p.Clap, p.Break, p.Half, p.Items, y21)))) (some (.inl (p2.Change, p2.Clap, p2.Break, p2.Half, p.Items, p2.Items))) : Option ((Int × Int × Int × Int × (List TItem) × (List TItem)) ⊕ Bool)).bind fun k20 => Sum.fin k20 K) = some true := by
    intro K hK
    cases f with
    | false => exact hK p2
    | true =>
      rw [ifB_true, CloneI_spec _ (by omega), Option.bind_some]
      by_cases h0 : (p.Items.length : Int) > 0
      · obtain ⟨j, j1, j2, j3⟩ := Next_spec L (p := q2 + 1 + 1 + 1 + 1) (n := p.Items.length) (by omega) (by omega) (by omega)
        have j3 := j3 (by omega)
        have hlt : j.toNat < p.Items.length := by omega
        have hg : getI p.Items j = some p.Items[j.toNat] := getI_of (n := j.toNat) (by omega) (List.getElem?_eq_getElem hlt)
        simp only [decide_eq_true h0, ifB_true, j1, hg, Option.bind_some, fin_inl]
        exact hK ⟨p.Items.set j.toNat (TItem.mk p.Items[j.toNat].Key p.Items[j.toNat].Places (w64 (p.Items[j.toNat].Long + 1)) p.Items[j.toNat].Parts), p.Change, p.Clap, p.Break, p.Half⟩
      · simp only [decide_eq_false h0, ifB_false, Option.bind_some, fin_inl]
        exact hK p
  refine hr _ fun r => ?_
  simp only [TProgram_eta]
  obtain ⟨e1, he1, hok1⟩ := ProgramFault_total p
  obtain ⟨e2, he2, hok2⟩ := ProgramFault_total r
  have hb : ∃ b, m_concert_fromFault p fr = some b ∧ (if e1 = 0 then m_gleeref2_BeginFault p fr else some e1) = some b ∧ (b = 0 → ProgOK p) := by
    rw [fromFault_spec he1 (by omega) (by omega) hok1]
    by_cases h : e1 = 0
    · rw [if_pos h, BeginFault_spec (hok1 h) (by omega) (by omega)]
      exact ⟨_, rfl, rfl, fun _ => hok1 h⟩
    · rw [if_neg h]
      exact ⟨_, rfl, rfl, fun h' => (h h').elim⟩
  obtain ⟨b, hb1, hb2, hb3⟩ := hb
  obtain ⟨n, n1, n2, n3, -⟩ := ItemAt_spec p.Items key
  obtain ⟨v, v1, v2, v3⟩ := Late_spec hb3 hb1 n1 n3 ⟨h6, h7⟩ hat _ rfl
  obtain ⟨w, w1, w2, w3⟩ := Leaves_all (at_ := at_) hb3 hb1 ⟨h6, h7⟩ _ rfl
  obtain ⟨x, y, z, d1, d2, d3⟩ := Differ_spec he1 he2 hok1 hok2
  simp only [v1, w1, d1, he1, he2, Option.bind_some, MomentFault_spec, errs_spec, n1, when_spec]
  have hbf : ∀ (K : Int → Option Bool), ((ifB (e1 == 0) ((m_gleeref2_BeginFault p fr).bind fun y41 => some (.inl y41)) (some (.inl e1)) : Option (Int ⊕ Bool)).bind fun k40 => Sum.fin k40 K) = K b := by
    intro K
    by_cases h : e1 = 0
    · rw [if_pos h] at hb2
      rw [show (e1 == 0) = true by simpa using h, ifB_true, hb2]; rfl
    · rw [if_neg h] at hb2
      rw [← Option.some.inj hb2, show (e1 == 0) = false by simpa using h]; rfl
  rw [hbf]
  generalize fst0 [b, bif decide (n < 0) then 8 else 0, bif momB at_ then 0 else 1] = eL at v1 v2 v3
  generalize fst0 [b, bif momB at_ then 0 else 1] = eV at w1 w2 w3
  generalize fst0 [e1, e2] = eD at d1 d2 d3
  have c1 : ∀ (K : Int → Option Bool), ((ifB (eL == 0) ((m_gleeref2_LateIn p fr key at_).bind fun y56 => some (.inl y56)) (some (.inl 0)) : Option (Int ⊕ Bool)).bind fun k => Sum.fin k K) = K v := by
    intro K
    by_cases h : eL = 0
    · rw [show (eL == 0) = true by simpa using h, ifB_true, v2 h]; rfl
    · rw [show (eL == 0) = false by simpa using h, v3 h]; rfl
  have c2 : ∀ (K : List ByteArray → Option Bool), ((ifB (eV == 0) ((m_gleeref2_LeavesAt p fr at_).bind fun y61 => some (.inl y61)) (some (.inl [])) : Option ((List ByteArray) ⊕ Bool)).bind fun k => Sum.fin k K) = K w := by
    intro K
    by_cases h : eV = 0
    · rw [show (eV == 0) = true by simpa using h, ifB_true, w2 h]; rfl
    · rw [show (eV == 0) = false by simpa using h, w3 h]; rfl
  have c3 : ∀ (K : (List ByteArray) × (List ByteArray) × (List ByteArray) → Option Bool), ((ifB (eD == 0) ((m_gleeref2_DifferingOf p r).bind fun y70 => some (.inl (y70.1, y70.2.1, y70.2.2))) (some (.inl ([], [], []))) : Option (((List ByteArray) × (List ByteArray) × (List ByteArray)) ⊕ Bool)).bind fun k => Sum.fin k K) = K (x, y, z) := by
    intro K
    by_cases h : eD = 0
    · rw [show (eD == 0) = true by simpa using h, ifB_true, d2 h]; rfl
    · obtain ⟨rfl, rfl, rfl⟩ := d3 h
      rw [show (eD == 0) = false by simpa using h]; rfl
  rw [c1, c2, c3]
  simp only [beq_self_eq_true, ifB_true, EqualS_refl, Option.bind_some, sung_true]
end Go.G
