/- LW5: the reference's side of what may follow: broken places, ways. In plain Lean, no program in sight. -/
import Derived.Test.YtlkpfhdlfapfhacGreatDoorLW3
import Derived.Test.YtlkpfhdlfapfhacGreatDoorLH5
import Derived.Test.YtlkpfhdlfapfhacGreatDoorLM
namespace Go.G
open Go Go.J
set_option linter.unusedSimpArgs false
set_option linter.unusedVariables false
def nextW (f:List TFollow) (m:List (TChord × Int)) (k:Int) (z:TChord):Option TChord:=allW.find? fun x=>hasM m x&&((lkM m x).getD 0==k)&&mayB f z x
def lastZ (out:List TChord):TChord:=out.getLast?.getD ⟨0,0,0⟩
def wayF (f:List TFollow) (m:List (TChord × Int)):Nat→List TChord→List TChord
 | 0,out=>out
 | n+1,out=>wayF f m n (out++(nextW f m (n:Int) (lastZ out)).toList)
theorem innerW {ρ : Type} (st:Nat→TChord→List TChord→Option (Flow (List TChord) ρ)) (f:List TFollow) (m:List (TChord × Int)) (k:Int)
  (hst:∀ i x s,st i x s=ifB (hasM m x) (ifB (((lkM m x).getD 0)==k) ((getI s (w64 ((s.length:Int) - 1))).bind fun e=>ifB (mayB f e x) ((appM 24 s [x]).bind fun q=>some (.brk q)) (some (.nxt s))) (some (.nxt s))) (some (.nxt s)))
  {out:List TChord} (hne:out≠[]) (hl:out.length≤1000):∀ (l:List TChord) (i:Nat),rangeM st i l out=some (.brk (out++(l.find? fun x=>hasM m x&&((lkM m x).getD 0==k)&&mayB f (lastZ out) x).toList))
 | [],i=>by simp [rangeM]
 | x::l,i=>by
  have hpos:0<out.length:=List.length_pos_iff.2 hne
  have hg:getI out (w64 ((out.length:Int) - 1))=some (lastZ out):=by
   refine getI_of (n:=out.length - 1) (by rw [w64_id (by omega)]; omega) ?_
   unfold lastZ
   rw [List.getLast?_eq_getElem?,List.getElem?_eq_getElem (by omega)]; rfl
  rw [rangeM_cons,hst,List.find?_cons]
  by_cases h1:hasM m x=true
  ·by_cases h2:((lkM m x).getD 0==k)=true
   ·rw [h1,ifB_true,h2,ifB_true,hg,Option.bind_some]
    by_cases h3:mayB f (lastZ out) x=true
    ·rw [h3,ifB_true,appM_of (by simp; omega) (by omega),Option.bind_some]
     rfl
    ·rw [Bool.not_eq_true] at h3
     rw [h3,ifB_false]
     exact innerW st f m k hst hne hl l (i+1)
   ·rw [Bool.not_eq_true] at h2
    rw [h1,ifB_true,h2,ifB_false]
    exact innerW st f m k hst hne hl l (i+1)
  ·rw [Bool.not_eq_true] at h1
   rw [h1,ifB_false]
   exact innerW st f m k hst hne hl l (i+1)
theorem outerW {ρ : Type} (st:Int × List TChord→Option (Flow (Int × List TChord) ρ)) (f:List TFollow) (m:List (TChord × Int))
  (hst:∀ (n:Nat) out,out≠[]→out.length≤1000→n≤1000→st (((n+1:Nat):Int),out)=some (.nxt ((n:Int),out++(nextW f m (n:Int) (lastZ out)).toList)))
  (h0:∀ out,st ((0:Int),out)=some (.brk (0,out))):∀ (n:Nat) out,out≠[]→out.length+n≤1000→loopM st ((n:Int),out)=some (.brk (0,wayF f m n out))
 | 0,out,_,_=>by
  show loopM st ((0:Int),out)=_
  rw [loopM_step (h0 out)]; rfl
 | n+1,out,hne,hl=>by
  rw [loopM_step (hst n out hne (by omega) (by omega))]
  have hlen:(out++(nextW f m (n:Int) (lastZ out)).toList).length+n≤1000:=by
   rw [List.length_append]
   have:(nextW f m (n:Int) (lastZ out)).toList.length≤1:=by cases nextW f m (n:Int) (lastZ out) <;> simp
   omega
  exact outerW st f m hst h0 n _ (by simp [hne]) hlen
theorem Way_l1_next (f:List TFollow) (m:List (TChord × Int)) (n:Nat) (out:List TChord) (hne:out≠[]) (hl:out.length≤1000) (hn:n≤1000):m_chord_Way_l1 f m (((n+1:Nat):Int),out)=some (.nxt ((n:Int),out++(nextW f m (n:Int) (lastZ out)).toList)):=by
 unfold m_chord_Way_l1
 simp only
 rw [decide_eq_true (show ((n+1:Nat):Int)>0 by omega),ifB_true,all_spec,Option.bind_some]
 have hw:w64 (((n+1:Nat):Int) - 1)=(n:Int):=by rw [w64_id (by omega)]; omega
 rw [innerW (m_chord_Way_l2 f m (((n+1:Nat):Int),out)) f m (n:Int) (fun i x s=>by
  unfold m_chord_Way_l2
  simp only [may_spec,Option.bind_some]
  rw [hw]) hne hl allW 0,Option.bind_some,fin_brk,hw]
 rfl
def plainC (c:TChord):TChord:=⟨c.Root,c.Kind,0⟩
def wayR (f:List TFollow) (ms:List (TChord × Int)) (a:TChord):List TChord × Bool:=match lkM ms (plainC a) with | none=>([],false) | some d=>(wayF f ms d.toNat [plainC a],true)
theorem Way_exact (f:List TFollow) (hf:m_chord_CheckFollows f=some 0) (a b:TChord) (hc:m_chord_checkAll [a,b]=some 0) :
  ∃ ms,StepsW f (plainC b) ms∧m_chord_Way f a b=some ((wayR f ms a).1,(wayR f ms a).2,0):=by
 obtain ⟨ms,hm,h⟩:=stepsTo_spec f (plainC b)
 refine ⟨ms,h,?_⟩
 unfold m_chord_Way
 rw [hf,Option.bind_some,show ((0:Int) != 0)=false from rfl,ifB_false,hc,Option.bind_some,show ((0:Int) != 0)=false from rfl,ifB_false]
 show (m_chord_stepsTo f (plainC b)).bind _=_
 rw [hm,Option.bind_some]
 show ifB (!(hasM ms (plainC a))) _ ((loopM (m_chord_Way_l1 f ms) (((lkM ms (plainC a)).getD 0),[plainC a])).bind _)=_
 unfold wayR
 rw [lkM_has]
 cases hl:lkM ms (plainC a) with
 | none=>rfl
 | some d =>
  obtain ⟨d0,d1⟩:=h.nn _ _ hl
  simp only [Option.isSome_some,Bool.not_true,ifB_false,Option.getD_some]
  have hd:(d.toNat:Int)=d:=by omega
  rw [← hd,outerW (m_chord_Way_l1 f ms) f ms (Way_l1_next f ms) (fun out=>rfl) d.toNat _ (by simp) (by simp; omega),Option.bind_some,fin_brk]
  rfl
end Go.G
