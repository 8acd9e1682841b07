/- LRy: who is ready. In plain Lean, no program in sight. -/
import Derived.Test.YtkeieikpobfapaaGreatDoorLRk
import Derived.Test.YtkeieikpobfapaaGreatDoorLRb
namespace Go.G
open Go Go.J
set_option linter.unusedSimpArgs false
set_option linter.unusedVariables false
theorem ready_run {l:List TSlot} (hs:SlR l) {c:List TCame} {q:Rows} (hq:Pres c q) (g:List TSings) (k:ByteArray) (a need:Int) (b:Bool):∀ (t:List TSings) (i:Nat) (u:List ByteArray),u.length+t.length≤1000 →
  rangeM (m_rehearse_Ready_l2 l g k a q (need,b)) i t u=some (.brk (u++(t.filter fun x=>sameB x.Piece k&&decide (rehN l c x a≥need)).map (·.Singer))):=by
 intro t
 induction t with
 | nil=>intro i u _; simp
 | cons x t ih =>
  intro i u hu
  rw [List.length_cons] at hu
  have hst:m_rehearse_Ready_l2 l g k a q (need,b) i x u=some (.nxt (if (sameB x.Piece k&&decide (rehN l c x a≥need))=true then u++[x.Singer] else u)):=by
   unfold m_rehearse_Ready_l2
   simp only
   show ((ifB (sameB x.Piece k) _ _:Option _).bind _)=_
   cases sameB x.Piece k
   ·rfl
   ·rw [ifB_true,rehearsed_spec hs hq,Option.bind_some,Option.bind_some,fin_inl,Bool.true_and]
    cases decide (rehN l c x a≥need)
    ·rfl
    ·rw [ifB_true,appM_of (by rw [List.length_singleton]; omega) (by omega)]; rfl
  rw [rangeM_cons,hst,Option.bind_some,run_nxt,List.filter_cons]
  by_cases h:(sameB x.Piece k&&decide (rehN l c x a≥need))=true
  ·rw [if_pos h,if_pos h,ih _ _ (by rw [List.length_append,List.length_singleton]; omega)]; simp
  ·rw [if_neg h,if_neg h,ih _ _ (by omega)]
theorem optB_some' {α β : Type} (x : α) (n:Option β) (f : α → Option β):optB (some x) n f=f x:=rfl
theorem Ready_spec {l:List TSlot} {g:List TSings} {c:List TCame} {w:List TWish} {k:ByteArray} {a:Int} (h1:m_rehearse_CheckSlots l=some 0) (hs:SlR l) (h2:m_rehearse_CheckSings g=some 0) (hg:g.length≤1000) (hc:CmOK c) (hw:WiOK w) (hk:isKey k=true) (ha:isMo a=true) :
  m_rehearse_Ready l g c w k a=some ((g.filter fun x=>sameB x.Piece k&&decide (rehN l c x a≥(wishOf w k).getD 1)).map (·.Singer),0):=by
 obtain ⟨P,h3,h4⟩:=keeper_ok (g:=g) h1 h2 hc
 unfold m_rehearse_Ready
 rw [h3,Option.bind_some]
 simp only
 rw [optB_some']
 refine anyOrd_of fun q hq=>?_
 rw [show ((0:Int) != 0)=false from rfl,ifB_false,Wishes_ok hw,Option.bind_some,show ((0:Int) != 0)=false from rfl,ifB_false,isKey_prog,hk,Option.bind_some,Bool.not_true,ifB_false,isMo_prog,ha,Option.bind_some,Bool.not_true,ifB_false,needOf_spec w k hw,Option.bind_some]
 cases hwo:wishOf w k with
 | none=>simp only [Option.getD_none]; rw [ready_run hs (h4.perm hq) g k a 1 false g 0 [] (by simp; omega)]; simp
 | some n=>simp only [Option.getD_some]; rw [ready_run hs (h4.perm hq) g k a n true g 0 [] (by simp; omega)]; simp
end Go.G
