/- Plain laws of the models; no condition beyond what each theorem says. -/
import Derived.Test.YtlhfimbpjdfdgacGreatDoorLQ0
namespace Go.G
open Go Go.J
theorem only_spec (s set : ByteArray) (hs : (s.size : Int) ≤ 9223372036854775807) : m_gleeref2_only s set = some (s.data.toList.all fun b => decide (b ∈ set.data.toList)) := by
 unfold m_gleeref2_only
 rw [rangeI_of hs]
 have hlen : (List.range ((s.size : Int)).toNat) = List.range s.data.toList.length := by simp
 rw [hlen]
 show (rangeM _ 0 _ ()).bind _ = _
 rw [rangeM_any (m_gleeref2_only_l1 s set) false (fun i _ => match s.data.toList[i]? with | some b => !decide (b ∈ set.data.toList) | none => false)]
 ·have : ((List.range s.data.toList.length).zipIdx 0).any (fun q => match s.data.toList[q.2]? with | some b => !decide (b ∈ set.data.toList) | none => false) = !(s.data.toList.all fun b => decide (b ∈ set.data.toList)) := by
   rw [Bool.eq_iff_iff]
   simp only [List.any_eq_true, Bool.not_eq_true', List.all_eq_false, decide_eq_true_eq]
   constructor
   ·rintro ⟨⟨a, i⟩, hm, h⟩
    simp only at h
    cases hb : s.data.toList[i]? with
    | none => rw [hb] at h; cases h
    | some b => rw [hb] at h; exact ⟨b, List.mem_of_getElem? hb, by simpa using h⟩
   ·rintro ⟨b, hb, h⟩
    obtain ⟨i, hi, rfl⟩ := List.mem_iff_getElem.1 hb
    refine ⟨(i, i), ?_, ?_⟩
    ·rw [List.mem_zipIdx_iff_getElem?]
     simp only
     rw [List.getElem?_range hi]
    ·simp only [List.getElem?_eq_getElem hi]
     simpa using h
  rw [this]
  cases s.data.toList.all fun b => decide (b ∈ set.data.toList) <;> rfl
 ·intro i x hx
  have hxi : i < s.data.toList.length := by
   have := (List.getElem?_eq_some_iff.1 hx).1
   simpa using this
  unfold m_gleeref2_only_l1
  simp only [Nat.zero_add]
  rw [strI_nat, List.getElem?_eq_getElem hxi]
  unfold m_strings_IndexByte
  simp only [Option.map_some, Option.bind_some, u8_back]
  by_cases h : s.data.toList[i] ∈ set.data.toList
  ·rw [decide_eq_false (fun e => (indexByte_neg _ _).1 e h)]; simp; simpa using h
  ·rw [decide_eq_true ((indexByte_neg _ _).2 h)]; simp; simpa using h
end Go.G
