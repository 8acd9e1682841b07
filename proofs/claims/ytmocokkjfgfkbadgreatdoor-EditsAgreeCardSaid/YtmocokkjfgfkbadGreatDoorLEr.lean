/- LEr: EditsAgree, the row. In plain Lean, no program in sight. -/
import Derived.Test.YtmocokkjfgfkbadGreatDoorLEq
import Derived.Test.YtmocokkjfgfkbadGreatDoorLR1g
namespace Go.G
open Go Go.J
set_option linter.unusedSimpArgs false
set_option linter.unusedVariables false
theorem errsK3:m_gleekeep2_errs [0,0,0]=some 0:=rfl
theorem EditsAgree_true (L:List Int):m_gleekeep2_EditsAgree L=some true:=by
 unfold m_gleekeep2_EditsAgree
 obtain ⟨b,q0,h1,-,hb,h2,h3⟩:=RightBars_spec L
 obtain ⟨n1,h7,h8,h9⟩:=Range_spec L (p:=q0) (a:=0) (b:=8) (by omega) (by omega) (by omega) (by omega) (by omega)
 obtain ⟨x,q2,h10,h11,h12,hxl,hx⟩:=Edits_spec L b (by omega) (p:=q0+1) (n:=n1) (by omega) (by omega) h8 (by omega)
 obtain ⟨at_,h13,h14,h15⟩:=Range_spec L (p:=q2) (a:=0) (b:=40) (by omega) (by omega) (by omega) (by omega) (by omega)
 rw [h1,Option.bind_some]
 simp only
 rw [h7,Option.bind_some]
 simp only
 rw [h10,Option.bind_some]
 simp only
 rw [h13,Option.bind_some]
 simp only
 generalize hN:[(ByteArray.mk [97,108,116,111].toArray),(ByteArray.mk [98,97,115,115].toArray)]=names
 have hnl:names.length≤100000:=by rw [← hN]; simp
 have hin:(ByteArray.mk [97,108,116,111].toArray)∈names:=by rw [← hN]; exact List.mem_cons_self ..
 obtain ⟨fx,-,hfx,hR⟩:=CheckEdits_E b (by omega) names hnl x hx (by omega)
 rw [hfx,Option.bind_some]
 by_cases h0:fx=0
 ·obtain ⟨hc,hpf,hRE⟩:=hR h0
  rw [show (fx != 0)=false by simpa using h0,ifB_false]
  obtain ⟨p,q,r,g1,g2,g3,g4⟩:=partsE_spec L x (pos:=q2+1) (by omega) (by omega) (by omega)
  obtain ⟨t,k1,k2⟩:=Written_right hc hb hnl hpf hRE hx hin (at_:=at_) (by unfold mo; rw [decide_eq_true_eq]; omega)
  rw [g1,Option.bind_some]
  simp only
  rw [Merge_parts (by omega) hnl hpf hRE hx (by omega) g2 g3 g4,Option.bind_some,Merge_parts (by omega) hnl hpf hRE hx (by omega) g3 g2 (fun z hz=>(g4 z hz).symm),Option.bind_some,k1,Option.bind_some]
  simp only
  rw [errsK3,Option.bind_some,show ((0:Int)==0)=true from rfl,ifB_true,EqualSame x (fun z hz=>(hRE.er z hz).n),Option.bind_some,ifB_true,Option.bind_some,ifB_true,CheckTones_zeroZ hc k2,Option.bind_some,show ((0:Int)==0)=true from rfl,ifB_true,ready_true]
  rfl
 ·rw [show (fx != 0)=true by simpa using h0,ifB_true,ready_true]; rfl
end Go.G
