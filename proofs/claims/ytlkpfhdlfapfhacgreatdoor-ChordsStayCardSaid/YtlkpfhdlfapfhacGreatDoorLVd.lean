/- LVd: VoicesJudged. In plain Lean, no program in sight. -/
import Derived.Test.YtlkpfhdlfapfhacGreatDoorLVb
import Derived.Test.YtlkpfhdlfapfhacGreatDoorLH5
namespace Go.G
open Go Go.J
set_option linter.unusedSimpArgs false
set_option linter.unusedVariables false
def chkL (r k t:Nat):Bool:=match m_gleeref2_TonesOf ⟨r,k,t⟩ with
 | some T=>decide (0<T.length)
 | none=>false
theorem chkL_all:((List.range 12).all fun r=>(List.range 8).all fun k=>(List.range 4).all fun t=>decide (k=0)||chkL r k t)=true:=by decide +kernel
theorem TonesOf_pos {r k t:Nat} (hr:r<12) (hk:1≤k∧k≤7) (ht:t<4):∃ T,m_gleeref2_TonesOf ⟨r,k,t⟩=some T∧0<T.length:=by
 have h:=List.all_eq_true.1 (List.all_eq_true.1 (List.all_eq_true.1 chkL_all r (List.mem_range.2 hr)) k (List.mem_range.2 (by omega))) t (List.mem_range.2 ht)
 rw [decide_eq_false (by omega),Bool.false_or] at h
 unfold chkL at h
 split at h
 ·exact ⟨_,by assumption,of_decide_eq_true h⟩
 ·exact absurd h (by simp)
theorem right_pos {c:TChord} (h:∃ r k t,Right c r k t):∃ T,m_chord_tones c=some T∧m_gleeref2_TonesOf c=some T∧T.length≤4∧0<T.length:=by
 obtain ⟨T,h1,h2,h3,-⟩:=right_tones h
 obtain ⟨r,k,t,rfl,hr,hk,ht⟩:=h
 have:=klen_le hk
 obtain ⟨T',h4,h5⟩:=TonesOf_pos hr hk (t:=t) (by omega)
 rw [h2] at h4
 cases h4
 exact ⟨T,h1,h2,h3,h5⟩
end Go.G
