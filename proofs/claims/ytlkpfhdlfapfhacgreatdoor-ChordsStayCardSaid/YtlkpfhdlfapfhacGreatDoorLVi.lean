/- LVi: both sides' tables are the same. In plain Lean, no program in sight. -/
import Derived.Test.YtlkpfhdlfapfhacGreatDoorLVh
namespace Go.G
open Go Go.J
set_option linter.unusedSimpArgs false
set_option linter.unusedVariables false
theorem up_ge {n:Nat} {v:List Int} (hv:RowOK n v) (hn:n≤5) {leap:Int} {p:List Int × Int} (hp:RowOK n p.1 ∧ -1≤p.2∧p.2≤90000) {k:Nat} {s:Int × Int} (hs:-1≤s.1∧s.1≤100000):-1≤(up leap v p k s).1∧(up leap v p k s).1≤100000:=by
 have:=byF_bd hv hp.1 hn leap p.2 hp.2.1
 unfold up
 split
 ·show -1≤byF leap v p.1 p.2∧_≤_
  omega
 ·exact hs
theorem get_one {α : Type} {A X:List α} {a c : α} {i:Nat} (hi:A.length=i):getI (A++a::c::X) ((i:Int)+1)=some c:=getI_of (n:=i+1) (by omega) (by rw [List.getElem?_append_right (by omega),hi,Nat.add_sub_cancel_left]; rfl)
theorem get_at {α : Type} {A X:List α} {a : α} {i:Nat} (hi:A.length=i):getI (A++a::X) (i:Int)=some a:=getI_of (n:=i) rfl (by rw [List.getElem?_append_right (by omega),hi,Nat.sub_self]; rfl)
theorem set_at {α : Type} {A X:List α} {a b : α} {i:Nat} (hi:A.length=i):(A++a::X).set i b=A++b::X:=by
 subst hi
 rw [List.set_append_right _ _ (Nat.le_refl _),Nat.sub_self,List.set_cons_zero]
theorem p_l3 {n:Nat} (hn:n≤5) {leap:Int} {v:List Int} (hv:RowOK n v) {out:List (List Int)} {u:List (List Int)} {i:Nat} (hi:i≤1000) {C1:List Int} (hout:getI out ((i:Int)+1)=some C1):∀ (t:List (List Int)) (ct preC:List Int) (s:Int × Int),t.length=ct.length→C1=preC++ct→(∀ w∈t,RowOK n w)→(∀ c∈ct,-1≤c∧c≤90000) →
  -1≤s.1∧s.1≤100000→rangeM (m_chord_rests_l3 leap v out ((i:Int),u)) preC.length t s.1=some (.brk (bt leap v (t.zip ct) preC.length s).1)
 | [],ct,preC,s,_,_,_,_,_=>by simp [rangeM,bt]
 | w::t,[],preC,s,hl,_,_,_,_=>by simp at hl
 | w::t,c::ct,preC,s,hl,hC,hw,hc,hs=>by
  have hcb:=hc c (List.mem_cons_self ..)
  have hwo:=hw w (List.mem_cons_self ..)
  have hstep:m_chord_rests_l3 leap v out ((i:Int),u) preC.length w s.1=some (.nxt (up leap v (w,c) preC.length s).1):=by
   unfold m_chord_rests_l3
   simp only []
   rw [w64_id (n:=(i:Int)+1) (by omega),hout,Option.bind_some,hC,getPre,Option.bind_some,by_spec hv hwo hn leap c (by omega),Option.bind_some]
   unfold up
   simp only []
   by_cases h1:byF leap v w c = -1
   ·rw [show (byF leap v w c != -1)=false by simpa using h1,if_neg (fun h=>h.1 h1)]; rfl
   ·rw [show (byF leap v w c != -1)=true by simpa using h1,ifB_true]
    by_cases h2:s.1 = -1
    ·rw [show (s.1 == -1)=true by simpa using h2,ifB_true,if_pos ⟨h1,.inl h2⟩]; rfl
    ·rw [show (s.1 == -1)=false by simpa using h2,ifB_false]
     by_cases h3:byF leap v w c<s.1
     ·rw [decide_eq_true h3,if_pos ⟨h1,.inr h3⟩]; rfl
     ·rw [decide_eq_false h3,if_neg (fun h=>by rcases h.2 with h | h <;> contradiction)]; rfl
  rw [rangeM_cons,hstep,Option.bind_some,run_nxt]
  have:=p_l3 hn (leap:=leap) hv (u:=u) hi hout t ct (preC++[c]) (up leap v (w,c) preC.length s) (by simpa using hl) (by rw [hC]; simp) (fun x hx=>hw x (List.mem_cons_of_mem _ hx)) (fun x hx=>hc x (List.mem_cons_of_mem _ hx)) (up_ge hv hn ⟨hwo,hcb⟩ hs)
  rw [List.length_append,List.length_singleton] at this
  rw [this]
  rfl
theorem p_l2 {n:Nat} (hn:n≤5) {leap:Int} {R:List (List (List Int))} {i:Nat} (hi:i≤1000) {R1:List (List Int)} (hR1:R[i+1]? = some R1) {u:List (List Int)} {A X:List (List Int)} (hA:A.length=i) {C1:List Int} (hC:C1.length=R1.length) (hw:∀ w∈R1,RowOK n w) (hc:∀ c∈C1,-1≤c∧c≤90000):∀ (t:List (List Int)) (j:Nat) (acc:List Int),(∀ v∈t,RowOK n v)→acc.length+t.length≤1000000 →
  rangeM (m_chord_rests_l2 R leap ((i:Int),u)) j t (A++acc::C1::X)=some (.brk (A++(acc++t.map fun v=>(bt leap v (R1.zip C1) 0 (-1,-1)).1)::C1::X))
 | [],j,acc,_,_=>by simp [rangeM]
 | v::t,j,acc,hv,hl=>by
  rw [List.length_cons] at hl
  have hstep:m_chord_rests_l2 R leap ((i:Int),u) j v (A++acc::C1::X)=some (.nxt (A++(acc++[(bt leap v (R1.zip C1) 0 (-1,-1)).1])::C1::X)):=by
   unfold m_chord_rests_l2
   simp only []
   have h3:=p_l3 hn (hv v (List.mem_cons_self ..)) (leap:=leap) (u:=u) hi (out:=A++acc::C1::X) (get_one hA) R1 C1 [] (-1,-1) hC.symm rfl hw hc (by simp)
   rw [List.length_nil] at h3
   rw [w64_id (n:=(i:Int)+1) (by omega),getI_of (n:=i+1) (by omega) hR1,Option.bind_some,h3,Option.bind_some,fin_brk,get_at hA,Option.bind_some,appM_of (by simp; omega) (by omega),Option.bind_some,Option.bind_some,show ((i:Int)).toNat=i by omega,set_at hA]
  rw [rangeM_cons,hstep,Option.bind_some,run_nxt,p_l2 hn (leap:=leap) hi hR1 (u:=u) hA hC hw hc t (j+1) _ (fun x hx=>hv x (List.mem_cons_of_mem _ hx)) (by rw [List.length_append,List.length_singleton]; omega),List.map_cons,List.append_assoc]
  rfl
def costs (leap:Int) (R:List (List (List Int))):List (List Int):=(tabs leap R).map fun t=>t.map Prod.fst
def nexts (leap:Int) (R:List (List (List Int))):List (List Int):=(tabs leap R).map fun t=>t.map Prod.snd
structure RsOK (n:Nat) (R:List (List (List Int))):Prop where
 n5:n≤5
 len:R.length≤12
 rows:∀ r∈R,∀ v∈r,RowOK n v
 few:∀ r∈R,r.length≤1000
theorem costs_cons (leap:Int) (R0 R1:List (List Int)) (Rs:List (List (List Int))):∃ C1 X,costs leap (R1::Rs)=C1::X∧C1.length=R1.length∧costs leap (R0::R1::Rs)=(R0.map fun v=>(bt leap v (R1.zip C1) 0 (-1,-1)).1)::C1::X∧nexts leap (R0::R1::Rs)=(R0.map fun v=>(bt leap v (R1.zip C1) 0 (-1,-1)).2)::nexts leap (R1::Rs):=by
 obtain ⟨t,ts,h1,h2,-⟩:=tabs_head leap R1 Rs
 refine ⟨t.map Prod.fst,ts.map fun t=>t.map Prod.fst,?_,by rw [List.length_map]; exact h2,?_,?_⟩
 ·unfold costs; rw [h1]; rfl
 ·unfold costs
  rw [show tabs leap (R0::R1::Rs)=(R0.map fun v=>bt leap v (R1.zip (((tabs leap (R1::Rs)).headD []).map Prod.fst)) 0 (-1,-1))::tabs leap (R1::Rs) from rfl,h1,List.map_cons,List.map_map]
  rfl
 ·unfold nexts
  rw [show tabs leap (R0::R1::Rs)=(R0.map fun v=>bt leap v (R1.zip (((tabs leap (R1::Rs)).headD []).map Prod.fst)) 0 (-1,-1))::tabs leap (R1::Rs) from rfl,h1,List.map_cons,List.map_map]
  rfl
theorem costs_bd {n:Nat} {leap:Int} {R:List (List (List Int))} (hR:RsOK n R):∀ C∈costs leap R,∀ c∈C,-1≤c∧c≤90000:=fun C hC c hc=>by
 unfold costs at hC
 obtain ⟨t,ht,rfl⟩:=List.mem_map.1 hC
 obtain ⟨p,hp,rfl⟩:=List.mem_map.1 hc
 have:=tabs_bd hR.n5 leap R hR.rows t ht p hp
 have:=hR.len
 omega
theorem RsOK.drop {n:Nat} {R:List (List (List Int))} (h:RsOK n R) (k:Nat):RsOK n (R.drop k) :=
 ⟨h.n5,by rw [List.length_drop]; have:=h.len; omega,fun r hr=>h.rows r (List.mem_of_mem_drop hr),fun r hr=>h.few r (List.mem_of_mem_drop hr)⟩
theorem p_loop {n:Nat} {leap:Int} {R:List (List (List Int))} (hR:RsOK n R):∀ (k:Nat),k<R.length→loopM (m_chord_rests_l1 R leap) ((k:Int) - 1,List.replicate k []++costs leap (R.drop k))=some (.brk (-1,costs leap R))
 | 0,hk=>by
  rw [loopM_step (g:=.brk (-1,costs leap R)) (by
   unfold m_chord_rests_l1
   simp only []
   rw [decide_eq_false (by omega),ifB_false]
   rfl),run_brk]
 | k+1,hk=>by
  have hlen:=hR.len
  have hRk:R[k]? = some (R[k]'(by omega)):=List.getElem?_eq_getElem _
  have hRk1:R[k+1]? = some (R[k+1]'hk):=List.getElem?_eq_getElem _
  have hd:R.drop k=R[k]'(by omega)::R.drop (k+1):=List.drop_eq_getElem_cons (by omega)
  have hd1:R.drop (k+1)=R[k+1]'hk::R.drop (k+1+1):=List.drop_eq_getElem_cons hk
  obtain ⟨C1,X,h1,h2,h3,-⟩:=costs_cons leap (R[k]'(by omega)) (R[k+1]'hk) (R.drop (k+1+1))
  have hb:=costs_bd (leap:=leap) (hR.drop (k+1))
  rw [hd1,h1] at hb
  have hstep:m_chord_rests_l1 R leap (((k+1:Nat):Int) - 1,List.replicate (k+1) []++costs leap (R.drop (k+1)))=some (.nxt ((k:Int) - 1,List.replicate k []++costs leap (R.drop k))):=by
   unfold m_chord_rests_l1
   simp only []
   rw [show (((k+1:Nat):Int) - 1)=(k:Int) by omega,decide_eq_true (by omega),ifB_true,getI_of (n:=k) rfl hRk,Option.bind_some,hd1,h1,List.replicate_succ',List.append_assoc]
   have hm:=p_l2 hR.n5 (leap:=leap) (i:=k) (by omega) hRk1 (u:=List.replicate k []++([[]]++C1::X)) (A:=List.replicate k []) (X:=X) (by simp) h2 (hR.rows _ (List.mem_of_getElem? hRk1)) (fun c hc=>hb C1 (List.mem_cons_self ..) c hc) (R[k]'(by omega)) 0 [] (hR.rows _ (List.mem_of_getElem? hRk)) (by have:=hR.few _ (List.mem_of_getElem? hRk); simp; omega)
   rw [List.nil_append] at hm
   have hm':rangeM (m_chord_rests_l2 R leap ((k:Int),List.replicate k []++([[]]++C1::X))) 0 (R[k]'(by omega)) (List.replicate k []++([[]]++C1::X))=_:=hm
   rw [hm',Option.bind_some,fin_brk,w64_id (by omega),hd,hd1,h3]
  rw [loopM_step hstep,run_nxt]
  exact p_loop hR k (by omega)
theorem rests_spec {n:Nat} {leap:Int} {R:List (List (List Int))} (hR:RsOK n R) (h0:0<R.length):m_chord_rests R leap=some (costs leap R):=by
 have hlen:=hR.len
 have hl:R[R.length - 1]? = some (R[R.length - 1]'(by omega)):=List.getElem?_eq_getElem _
 have hfew:=hR.few _ (List.mem_of_getElem? hl)
 have hm1:makeM 24 ([]:List Int) (R.length:Int)=some (List.replicate R.length []):=by
  unfold makeM
  rw [if_pos (by unfold maxLen; omega)]
  simp
 have hm2:makeM 8 (0:Int) ((R[R.length - 1]'(by omega)).length:Int)=some (List.replicate (R[R.length - 1]'(by omega)).length 0):=by
  unfold makeM
  rw [if_pos (by unfold maxLen; omega)]
  simp
 have hrep:(List.replicate R.length ([]:List Int))[R.length - 1]? = some []:=by rw [List.getElem?_replicate,if_pos (by omega)]
 unfold m_chord_rests
 rw [hm1,Option.bind_some,w64_id (n:=(R.length:Int) - 1) (by omega),getI_of (n:=R.length - 1) (by omega) hl,Option.bind_some,hm2,Option.bind_some,getI_of (n:=R.length - 1) (by omega) hrep,Option.bind_some,w64_id (n:=(R.length:Int) - 1 - 1) (by omega),show ((R.length:Int) - 1).toNat=R.length - 1 by omega]
 have hd:R.drop (R.length - 1)=[R[R.length - 1]'(by omega)]:=by
  rw [List.drop_eq_getElem_cons (by omega),List.drop_eq_nil_of_le (by omega)]
 have hset:(List.replicate R.length ([]:List Int)).set (R.length - 1) (List.replicate (R[R.length - 1]'(by omega)).length 0)=List.replicate (R.length - 1) []++costs leap (R.drop (R.length - 1)):=by
  rw [hd]
  unfold costs
  rw [show tabs leap [R[R.length - 1]'(by omega)]=[(R[R.length - 1]'(by omega)).map fun _=>(0,-1)] from rfl,List.map_cons,List.map_nil,List.map_map]
  have e:List.replicate R.length ([]:List Int)=List.replicate (R.length - 1) []++[]::[]:=by rw [← List.replicate_succ',show R.length - 1+1=R.length by omega]
  have e2:(R[R.length - 1]'(by omega)).map (Prod.fst ∘ fun _=>((0:Int),(-1:Int)))=List.replicate (R[R.length - 1]'(by omega)).length 0:=by
   rw [List.eq_replicate_iff]
   refine ⟨by simp,fun b hb=>?_⟩
   obtain ⟨x,-,rfl⟩:=List.mem_map.1 hb
   rfl
  rw [e2,e,set_at (by simp)]
 have:=p_loop (leap:=leap) hR (R.length - 1) (by omega)
 rw [show ((R.length - 1:Nat):Int) - 1=(R.length:Int) - 1 - 1 by omega] at this
 rw [hset,this,Option.bind_some,fin_brk]
structure RsA (R:List (List (List Int))):Prop where
 adj:∀ r∈R,∀ v∈r,adj v
end Go.G
