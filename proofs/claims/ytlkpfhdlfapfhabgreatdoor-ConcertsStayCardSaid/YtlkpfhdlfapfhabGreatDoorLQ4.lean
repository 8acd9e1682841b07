/- LQ4: timetables and changes of places of right programs. In plain Lean, no program in sight. -/
import Derived.Test.YtlkpfhdlfapfhabGreatDoorLQ2
namespace Go.G
open Go Go.J
def keyI (p : TProgram) (i : Nat) : ByteArray := match p.Items[i]? with | some x => x.Key | none => ByteArray.empty
def tm (p : TProgram) (fr : Int) (i : Nat) : TTimed := ⟨keyI p i, ⟨fr + bg p i, fr + bg p i + longI p i⟩⟩
theorem keyI_of {p : TProgram} {i : Nat} {x : TItem} (hx : p.Items[i]? = some x) : keyI p i = x.Key := by unfold keyI; rw [hx]
def places (p : TProgram) (i : Nat) : ByteArray := match p.Items[i]? with | some x => x.Places | none => ByteArray.empty
def chg (p : TProgram) (i : Nat) : Int := if (i : Int) ≠ p.Half ∧ places p i ≠ places p (i + 1) then 1 else 0
def chgs (p : TProgram) : Nat → Int
  | 0 => 0
  | i + 1 => chgs p i + chg p i
theorem IsMoment_good {a : Int} (h0 : 0 ≤ a) (h1 : a ≤ 345686399999) : m_kit_IsMoment a = some true := by
  unfold m_kit_IsMoment
  rw [Outside_spec, Option.bind_some, decide_eq_true ⟨h0, h1⟩]; rfl
theorem Timetable_good {p : TProgram} (h : GoodP p) {fr : Int} (h0 : 0 ≤ fr) (h1 : fr ≤ 1000) : m_concert_Timetable p fr = some ((List.range p.Items.length).map (tm p fr), 0) := by
  have hp := h.ok
  have hl := hp.len
  have hbn := bg_rng hp p.Items.length
  unfold m_concert_Timetable m_concert_fromFault
  rw [CheckProgram_zero h, Option.bind_some, show ((0 : Int) != 0) = false from rfl, ifB_false, begins_spec hp, Option.bind_some, IsMoment_good h0 (by omega), Option.bind_some, Bool.not_true, ifB_false, w64_id (by omega), decide_eq_false (by omega), Option.bind_some, fin_inl, ifB_false, Option.bind_some,
    show ((0 : Int) != 0) = false from rfl, ifB_false, Option.bind_some]
  obtain ⟨s, h3, h4⟩ := rangeM_invx (m_concert_Timetable_l1 fr ((List.range p.Items.length).map (bg p), bg p p.Items.length)) p.Items (fun i s => s = (List.range i).map (tm p fr)) (by
    rintro i x s hx rfl
    have hi := (List.getElem?_eq_some_iff.1 hx).1
    have hb := bg_rng hp i; have hlo := longI_rng hp i
    rw [longI_of hx] at hlo
    unfold m_concert_Timetable_l1
    have e1 : ((List.range p.Items.length).map (bg p))[i]? = some (bg p i) := by simp [hi]
    simp only [getI_nat, e1, Option.bind_some]
    have ht : (TTimed.mk x.Key (TWindow.mk (w64 (fr + bg p i)) (w64 (w64 (fr + bg p i) + x.Long)))) = tm p fr i := by
      unfold tm; rw [keyI_of hx, longI_of hx, w64_id (n := fr + bg p i) (by omega), w64_id (by omega)]
    rw [ht, appM_of (by simp; omega) (by omega), Option.bind_some, range_map_succ]
    exact ⟨_, rfl, rfl⟩) [] rfl
  rw [h3, h4]; rfl
end Go.G
