/- LQ4: timetables and changes of places of right programs. In plain Lean, no program in sight. -/
import Derived.Test.YtdeoejkgmeemaaaGreatDoorLQ2
namespace Go.G
open Go Go.J
def keyI (p : TProgram) (i : Nat) : ByteArray := match p.Items[i]? with | some x => x.Key | none => ByteArray.empty
def tm (p : TProgram) (fr : Int) (i : Nat) : TTimed := ⟨keyI p i, ⟨fr + bg p i, fr + bg p i + longI p i⟩⟩
theorem keyI_of {p : TProgram} {i : Nat} {x : TItem} (hx : p.Items[i]? = some x) : keyI p i = x.Key := by unfold keyI; rw [hx]
def places (p : TProgram) (i : Nat) : ByteArray := match p.Items[i]? with | some x => x.Places | none => ByteArray.empty
def chg (p : TProgram) (i : Nat) : Int := if (i : Int) ≠ p.Half ∧ places p i ≠ places p (i + 1) then 1 else 0
def chgs (p : TProgram) : Nat → Int
  | 0 => 0
  | i + 1 => chgs p i + chg p i
theorem chgs_rng (p : TProgram) (i : Nat) : 0 ≤ chgs p i ∧ chgs p i ≤ i := by
  induction i with
  | zero => simp [chgs]
  | succ i ih => unfold chgs chg; split <;> omega
theorem bne_places (a b : ByteArray) : (!(a.toList == b.toList)) = decide (a ≠ b) := by
  rw [Bool.eq_iff_iff]
  simp [ba_toList_inj]
theorem places_get {p : TProgram} {i : Nat} (h : i < p.Items.length) : places p i = p.Items[i].Places := by unfold places; rw [List.getElem?_eq_getElem h]
theorem Changes_loop {p : TProgram} (hl : p.Items.length ≤ 60) : ∃ m, loopM (m_concert_Changes_l1 p) (0, 1) = some (.brk (chgs p (p.Items.length - 1), m)) := by
  obtain ⟨f, h1, h2⟩ := loopM_post (m_concert_Changes_l1 p) (fun s => ∃ n : Nat, s = (chgs p n, (n : Int) + 1) ∧ n ≤ p.Items.length - 1) (fun s => (p.Items.length - s.2.toNat + 1)) (fun f => ∃ m, f = .brk (chgs p (p.Items.length - 1), m)) (by
    rintro s ⟨n, rfl, hn⟩
    have hc := chgs_rng p n
    unfold m_concert_Changes_l1
    by_cases hlt : (n : Int) + 1 < p.Items.length
    · left
      have hi : n + 1 < p.Items.length := by omega
      simp only
      rw [decide_eq_true hlt, ifB_true, w64_id (n := (n : Int) + 1 - 1) (by omega), w64_id (n := (n : Int) + 1 + 1) (by omega), show (n : Int) + 1 - 1 = n by omega, getI_nat, List.getElem?_eq_getElem (show n < p.Items.length by omega),
        getI_of (n := n + 1) (by omega) (List.getElem?_eq_getElem hi), Option.bind_some, Option.bind_some, bne_places, ← places_get hi, ← places_get (show n < p.Items.length by omega), w64_id (by omega)]
      have hlast : ∀ v, v = chgs p (n + 1) → ∃ s', some (Flow.nxt (v, (n : Int) + 1 + 1)) = (some (Flow.nxt s') : Option (Flow (Int × Int) (Int × Int))) ∧ (∃ k : Nat, s' = (chgs p k, (k : Int) + 1) ∧ k ≤ p.Items.length - 1) ∧ p.Items.length - s'.2.toNat + 1 < p.Items.length - ((n : Int) + 1).toNat + 1 :=
        fun v hv => ⟨_, rfl, ⟨n + 1, by rw [hv]; rfl, by omega⟩, by simp only; omega⟩
      by_cases h0 : (n : Int) = p.Half
      · have : ((n : Int) != p.Half) = false := by simpa using h0
        rw [this, ifB_false]
        exact hlast _ (by simp [chgs, chg, h0])
      · have : ((n : Int) != p.Half) = true := by simpa using h0
        rw [this, ifB_true]
        by_cases h3 : places p n = places p (n + 1)
        · rw [decide_eq_false (p := places p (n + 1) ≠ places p n) (fun h => h h3.symm), ifB_false]
          exact hlast _ (by simp [chgs, chg, h3])
        · rw [decide_eq_true (p := places p (n + 1) ≠ places p n) (fun h => h3 h.symm), ifB_true]
          exact hlast _ (by simp [chgs, chg, h3, h0])
    · right; left
      simp only
      rw [decide_eq_false hlt, ifB_false]
      have : n = p.Items.length - 1 := by omega
      exact ⟨_, rfl, _, by rw [this]⟩) (0, 1) ⟨0, rfl, by omega⟩
  obtain ⟨m, rfl⟩ := h2
  exact ⟨m, h1⟩
theorem IsMoment_good {a : Int} (h0 : 0 ≤ a) (h1 : a ≤ 345686399999) : m_kit_IsMoment a = some true := by
  unfold m_kit_IsMoment
  rw [Outside_spec, Option.bind_some, decide_eq_true ⟨h0, h1⟩]; rfl
theorem Changes_good {p : TProgram} (h : GoodP p) : m_concert_Changes p = some (chgs p (p.Items.length - 1), 0) := by
  unfold m_concert_Changes
  obtain ⟨m, hm⟩ := Changes_loop h.ok.len
  rw [CheckProgram_zero h, Option.bind_some, show ((0 : Int) != 0) = false from rfl, ifB_false, hm]; rfl
theorem Timetable_good {p : TProgram} (h : GoodP p) {fr : Int} (h0 : 0 ≤ fr) (h1 : fr ≤ 1000) : m_concert_Timetable p fr = some ((List.range p.Items.length).map (tm p fr), 0) := by
  have hp := h.ok
  have hl := hp.len
  have hbn := bg_rng hp p.Items.length
  unfold m_concert_Timetable m_concert_fromFault
  rw [CheckProgram_zero h, Option.bind_some, show ((0 : Int) != 0) = false from rfl, ifB_false, begins_spec hp, Option.bind_some, IsMoment_good h0 (by omega), Option.bind_some, Bool.not_true, ifB_false, w64_id (by omega), decide_eq_false (by omega), Option.bind_some, fin_inl, ifB_false, Option.bind_some,
    show ((0 : Int) != 0) = false from rfl, ifB_false, Option.bind_some]
  obtain ⟨s, h3, h4⟩ := rangeM_invx (m_concert_Timetable_l1 fr ((List.range p.Items.length).map (bg p), bg p p.Items.length)) p.Items (fun i s => s = (List.range i).map (tm p fr)) (by
    rintro i x s hx rfl
    have hi := (List.getElem?_eq_some_iff.1 hx).1
    have hb := bg_rng hp i; have hlo := longI_rng hp i
    rw [longI_of hx] at hlo
    unfold m_concert_Timetable_l1
    have e1 : ((List.range p.Items.length).map (bg p))[i]? = some (bg p i) := by simp [hi]
    simp only [getI_nat, e1, Option.bind_some]
    have ht : (TTimed.mk x.Key (TWindow.mk (w64 (fr + bg p i)) (w64 (w64 (fr + bg p i) + x.Long)))) = tm p fr i := by
      unfold tm; rw [keyI_of hx, longI_of hx, w64_id (n := fr + bg p i) (by omega), w64_id (by omega)]
    rw [ht, appM_of (by simp; omega) (by omega), Option.bind_some, range_map_succ]
    exact ⟨_, rfl, rfl⟩) [] rfl
  rw [h3, h4]; rfl
end Go.G
