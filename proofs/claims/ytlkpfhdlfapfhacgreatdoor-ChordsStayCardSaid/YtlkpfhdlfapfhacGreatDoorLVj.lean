/- LVj: the reference's tables; the first of the best; the way from it. In plain Lean, no program in sight. -/
import Derived.Test.YtlkpfhdlfapfhacGreatDoorLVi
namespace Go.G
open Go Go.J
set_option linter.unusedSimpArgs false
set_option linter.unusedVariables false
theorem first_E (Y:List (List Int)) (a:Int) (N:List (List Int)) (C0:List Int) (hY:getI Y 0=some C0) (hc:∀ c∈C0,-1≤c) (hl:C0.length≤1000000):∃ f,rangeM (m_chord_Best_l2 Y) 0 C0 (-1)=some (.brk f)∧rangeM (m_gleeref2_BestVoices_l6 (a,Y,N)) 0 C0 (-1)=some (.brk f)∧(f = -1∨∃ j:Nat,f=j∧∃ c,C0[j]? = some c∧c ≠ -1):=by
 refine two_loop (m_chord_Best_l2 Y) (m_gleeref2_BestVoices_l6 (a,Y,N)) C0 (fun _ f=>f = -1∨∃ j:Nat,f=j∧∃ c,C0[j]? = some c∧c ≠ -1) ?_ (-1) (.inl rfl)
 intro i x f hx hI
 have hxc:=hc x (List.mem_of_getElem? hx)
 have hi:=(List.getElem?_eq_some_iff.1 hx).1
 unfold m_chord_Best_l2 m_gleeref2_BestVoices_l6
 by_cases hx1:x = -1
 ·rw [show (x != -1)=false by simpa using hx1,decide_eq_false (show ¬ x≥0 by omega)]
  exact ⟨f,rfl,rfl,hI⟩
 ·rw [show (x != -1)=true by simpa using hx1,decide_eq_true (show x≥0 by omega),ifB_true,ifB_true]
  rcases hI with rfl | ⟨j,rfl,c,hj,hcj⟩
  ·exact ⟨(i:Int),rfl,rfl,.inr ⟨i,rfl,x,hx,hx1⟩⟩
  ·rw [show ((j:Int) == -1)=false by simp,decide_eq_false (show ¬ (j:Int)<0 by omega)]
   simp only [ifB_false,hY,Option.bind_some,getI_of (n:=j) rfl hj,fin_inl]
   by_cases hlt:x<c
   ·rw [decide_eq_true hlt]
    exact ⟨(i:Int),rfl,rfl,.inr ⟨i,rfl,x,hx,hx1⟩⟩
   ·rw [decide_eq_false hlt]
    exact ⟨(j:Int),rfl,rfl,.inr ⟨j,rfl,c,hj,hcj⟩⟩
def nthR (r:List (List Int)) (k:Nat):List Int:=r.getD k []
def nthP (t:List (Int × Int)) (k:Nat):Int × Int:=t.getD k (0,0)
theorem nthR_get {r:List (List Int)} {k:Nat} (h:k<r.length):r[k]? = some (nthR r k):=by
 unfold nthR
 rw [List.getD_eq_getElem?_getD,List.getElem?_eq_getElem h]; rfl
theorem nthP_get {t:List (Int × Int)} {k:Nat} (h:k<t.length):t[k]? = some (nthP t k):=by
 unfold nthP
 rw [List.getD_eq_getElem?_getD,List.getElem?_eq_getElem h]; rfl
def headT (leap:Int) (R:List (List (List Int))):List (Int × Int):=(tabs leap R).headD []
def pth (leap:Int):List (List (List Int))→Nat→List (List Int)
 | [],_=>[]
 | R0::Rs,k=>nthR R0 k::pth leap Rs (nthP (headT leap (R0::Rs)) k).2.toNat
theorem headT_len (leap:Int) (R0:List (List Int)) (Rs:List (List (List Int))):(headT leap (R0::Rs)).length=R0.length:=by
 obtain ⟨t,ts,h1,h2,-⟩:=tabs_head leap R0 Rs
 unfold headT
 rw [h1]; exact h2
theorem tabs_drop (leap:Int):∀ (i:Nat) (R:List (List (List Int))),(tabs leap R).drop i=tabs leap (R.drop i)
 | 0,R=>rfl
 | i+1,[]=>by simp [tabs]
 | i+1,R0::Rs=>by
  obtain ⟨t,ts,h1,-,h3⟩:=tabs_head leap R0 Rs
  rw [h1,List.drop_succ_cons,h3,tabs_drop leap i Rs,List.drop_succ_cons]
theorem tabs_at (leap:Int) {R:List (List (List Int))} {i:Nat} {R0:List (List Int)} {Rs:List (List (List Int))} (h:R.drop i=R0::Rs):(tabs leap R)[i]? = some (headT leap (R0::Rs)):=by
 obtain ⟨t,ts,h1,-,-⟩:=tabs_head leap R0 Rs
 have h2:=tabs_drop leap i R
 rw [h,h1] at h2
 have h3:=congrArg (fun l=>l[0]?) h2
 simp only [List.getElem?_drop,Nat.add_zero,List.getElem?_cons_zero] at h3
 rw [h3]
 unfold headT
 rw [h1]; rfl
theorem way_step {leap:Int} {R0 R1:List (List Int)} {Rs:List (List (List Int))} {k:Nat} (hk:k<R0.length) (hv:(nthP (headT leap (R0::R1::Rs)) k).1 ≠ -1):∃ k':Nat,(nthP (headT leap (R0::R1::Rs)) k).2=k'∧k'<R1.length∧(nthP (headT leap (R1::Rs)) k').1 ≠ -1 ∧
  byF leap (nthR R0 k) (nthR R1 k') (nthP (headT leap (R1::Rs)) k').1=(nthP (headT leap (R0::R1::Rs)) k).1∧∀ j,j<k'→byF leap (nthR R0 k) (nthR R1 j) (nthP (headT leap (R1::Rs)) j).1≠(nthP (headT leap (R0::R1::Rs)) k).1:=by
 have hh:headT leap (R0::R1::Rs)=R0.map fun v=>bt leap v (R1.zip ((headT leap (R1::Rs)).map Prod.fst)) 0 (-1,-1):=rfl
 have hk':nthP (headT leap (R0::R1::Rs)) k=bt leap (nthR R0 k) (R1.zip ((headT leap (R1::Rs)).map Prod.fst)) 0 (-1,-1):=by
  have h1:=nthP_get (t:=headT leap (R0::R1::Rs)) (k:=k) (by rw [headT_len]; exact hk)
  rw [hh,List.getElem?_map,nthR_get hk,Option.map_some] at h1
  exact (Option.some.inj h1).symm
 rw [hk'] at hv ⊢
 obtain ⟨j,h1,⟨p,h2,h3⟩,h4⟩:=(bt_spec leap (nthR R0 k) (R1.zip ((headT leap (R1::Rs)).map Prod.fst))).some hv
 have hl:=headT_len leap R1 Rs
 have hz:∀ j,j<R1.length→(R1.zip ((headT leap (R1::Rs)).map Prod.fst))[j]? = some (nthR R1 j,(nthP (headT leap (R1::Rs)) j).1):=fun j hj=>by
  rw [List.getElem?_zip_eq_some]
  exact ⟨nthR_get hj,by rw [List.getElem?_map,nthP_get (by rw [hl]; exact hj)]; rfl⟩
 have hj:j<R1.length:=by
  have:=(List.getElem?_eq_some_iff.1 h2).1
  rw [List.length_zip] at this
  omega
 rw [hz j hj] at h2
 cases h2
 refine ⟨j,h1,hj,fun e=>?_,h3,fun j' hj'=>h4 j' _ hj' (hz j' (by omega))⟩
 simp only [] at h3
 rw [e] at h3
 apply hv
 rw [← h3]
 unfold byF
 rw [if_pos rfl]
theorem p_search {n:Nat} {leap:Int} {R:List (List (List Int))} (hR:RsOK n R) {i:Nat} {R1:List (List Int)} {Rs:List (List (List Int))} (hd:R.drop (i+1)=R1::Rs) {v:List Int} (hv:RowOK n v) {want:Int} {out:List (List Int)} {k':Nat} (hk:k'<R1.length) (hw:byF leap v (nthR R1 k') (nthP (headT leap (R1::Rs)) k').1=want) (hno:∀ j,j<k'→byF leap v (nthR R1 j) (nthP (headT leap (R1::Rs)) j).1≠want) :
  ∀ (d j:Nat),k' - j=d→j≤k'→loopM (m_chord_Best_l4 leap R (costs leap R) v (((i+1:Nat):Int),want,out)) (j:Int)=some (.brk (k':Int)):=by
 have hRi:R[i+1]? = some R1:=by
  have:=congrArg (fun l=>l[0]?) hd
  simpa using this
 have hC:(costs leap R)[i+1]? = some ((headT leap (R1::Rs)).map Prod.fst):=by
  unfold costs
  rw [List.getElem?_map,tabs_at leap hd]; rfl
 have hbd:=costs_bd (leap:=leap) hR _ (List.mem_of_getElem? hC)
 have hfew:=hR.few _ (List.mem_of_getElem? hRi)
 have hstep:∀ j,j<R1.length→m_chord_Best_l4 leap R (costs leap R) v (((i+1:Nat):Int),want,out) (j:Int)=if byF leap v (nthR R1 j) (nthP (headT leap (R1::Rs)) j).1≠want then some (.nxt ((j+1:Nat):Int)) else some (.brk (j:Int)):=fun j hj=>by
  have hCj:((headT leap (R1::Rs)).map Prod.fst)[j]? = some (nthP (headT leap (R1::Rs)) j).1:=by
   rw [List.getElem?_map,nthP_get (by rw [headT_len]; exact hj)]; rfl
  have hb:=hbd _ (List.mem_of_getElem? hCj)
  have hrow:=hR.rows _ (List.mem_of_getElem? hRi) _ (List.mem_of_getElem? (nthR_get hj))
  unfold m_chord_Best_l4
  simp only []
  rw [getI_of (n:=i+1) rfl hRi,Option.bind_some,getI_of (n:=j) rfl (nthR_get hj),Option.bind_some,getI_of (n:=i+1) rfl hC,Option.bind_some,getI_of (n:=j) rfl hCj,Option.bind_some,by_spec hv hrow hR.n5 leap _ (by omega),Option.bind_some,w64_id (by omega)]
  by_cases h:byF leap v (nthR R1 j) (nthP (headT leap (R1::Rs)) j).1=want
  ·rw [show (byF leap v (nthR R1 j) (nthP (headT leap (R1::Rs)) j).1 != want)=false by simpa using h,ifB_false,if_neg (by simpa using h)]
  ·rw [show (byF leap v (nthR R1 j) (nthP (headT leap (R1::Rs)) j).1 != want)=true by simpa using h,ifB_true,if_pos h]
   rfl
 intro d
 induction d with
 | zero =>
  intro j hj hle
  have:j=k':=by omega
  subst this
  have h1:=hstep j hk
  rw [if_neg (by simpa using hw)] at h1
  rw [loopM_step h1,run_brk]
 | succ d ih =>
  intro j hj hle
  have h1:=hstep j (by omega)
  rw [if_pos (hno j (by omega))] at h1
  rw [loopM_step h1,run_nxt]
  exact ih (j+1) (by omega) (by omega)
theorem p_path {n:Nat} {leap:Int} {l:List TChord} {R:List (List (List Int))} (hl:l.length=R.length) (hR:RsOK n R):∀ (Rs:List (List (List Int))) (R0:List (List Int)) (i:Nat) (k:Nat) (out:List (List Int)),R.drop i=R0::Rs→k<R0.length→(nthP (headT leap (R0::Rs)) k).1 ≠ -1→out.length+Rs.length≤100000 →
  ∃ z z',loopM (m_chord_Best_l3 l leap R (costs leap R)) (((i+1:Nat):Int),(nthP (headT leap (R0::Rs)) k).1,out++[nthR R0 k])=some (.brk (z,z',out++pth leap (R0::Rs) k))
 | [],R0,i,k,out,hd,hk,hv,ho=>by
  have hlen:=congrArg List.length hd
  rw [List.length_drop,List.length_singleton] at hlen
  refine ⟨((i+1:Nat):Int),(nthP (headT leap [R0]) k).1,?_⟩
  rw [loopM_step (g:=.brk (((i+1:Nat):Int),(nthP (headT leap [R0]) k).1,out++[nthR R0 k])) (by
   unfold m_chord_Best_l3
   simp only []
   rw [decide_eq_false (by omega),ifB_false]),run_brk]
  rfl
 | R1::Rs,R0,i,k,out,hd,hk,hv,ho=>by
  rw [List.length_cons] at ho
  have hR12:=hR.len
  have hlen:=congrArg List.length hd
  rw [List.length_drop,List.length_cons,List.length_cons] at hlen
  have hRi:R[i]? = some R0:=by
   have:=congrArg (fun l=>l[0]?) hd
   simpa using this
  have hdr:R.drop (i+1)=R1::Rs:=by
   have:=congrArg (List.drop 1) hd
   simpa [List.drop_drop,Nat.add_comm] using this
  have hRi1:R[i+1]? = some R1:=by
   have:=congrArg (fun l=>l[0]?) hdr
   simpa using this
  have hrow:=hR.rows _ (List.mem_of_getElem? hRi) _ (List.mem_of_getElem? (nthR_get hk))
  obtain ⟨k',e1,e2,e3,e4,e5⟩:=way_step hk hv
  have hC:(costs leap R)[i+1]? = some ((headT leap (R1::Rs)).map Prod.fst):=by
   unfold costs
   rw [List.getElem?_map,tabs_at leap hdr]; rfl
  have hCk:((headT leap (R1::Rs)).map Prod.fst)[k']? = some (nthP (headT leap (R1::Rs)) k').1:=by
   rw [List.getElem?_map,nthP_get (by rw [headT_len]; exact e2)]; rfl
  have hs:=p_search (leap:=leap) hR hdr hrow (out:=out++[nthR R0 k]) e2 e4 e5 k' 0 rfl (Nat.zero_le _)
  have hlastg:getI (out++[nthR R0 k]) (w64 (((out++[nthR R0 k]).length:Int) - 1))=some (nthR R0 k):=by
   rw [List.length_append,List.length_singleton,w64_id (by omega)]
   exact getI_of (n:=out.length) (by omega) (by simp)
  have hstep:m_chord_Best_l3 l leap R (costs leap R) (((i+1:Nat):Int),(nthP (headT leap (R0::R1::Rs)) k).1,out++[nthR R0 k])=some (.nxt (((i+1+1:Nat):Int),(nthP (headT leap (R1::Rs)) k').1,out++[nthR R0 k]++[nthR R1 k'])):=by
   unfold m_chord_Best_l3
   simp only []
   have hs':loopM (m_chord_Best_l4 leap R (costs leap R) (nthR R0 k) (((i+1:Nat):Int),(nthP (headT leap (R0::R1::Rs)) k).1,out++[nthR R0 k])) 0=some (.brk (k':Int)):=hs
   rw [decide_eq_true (by omega),ifB_true,hlastg,Option.bind_some,hs',Option.bind_some,fin_brk,getI_of (n:=i+1) rfl hRi1,Option.bind_some,getI_of (n:=k') rfl (nthR_get e2),Option.bind_some,appM_of (by simp; omega) (by omega),Option.bind_some,getI_of (n:=i+1) rfl hC,Option.bind_some,getI_of (n:=k') rfl hCk,Option.bind_some,w64_id (by omega)]
   rfl
  obtain ⟨z,z',hz⟩:=p_path hl hR Rs R1 (i+1) k' (out++[nthR R0 k]) hdr e2 e3 (by rw [List.length_append,List.length_singleton]; omega)
  refine ⟨z,z',?_⟩
  rw [loopM_step hstep,run_nxt,hz,show pth leap (R0::R1::Rs) k=nthR R0 k::pth leap (R1::Rs) (nthP (headT leap (R0::R1::Rs)) k).2.toNat from rfl,e1,List.append_assoc]
  rfl
end Go.G
