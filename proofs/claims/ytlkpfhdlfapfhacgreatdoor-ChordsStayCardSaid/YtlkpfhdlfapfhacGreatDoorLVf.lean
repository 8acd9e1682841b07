/- LVf: the rows of notes of a chord: the search with its early ends, and all rows by the reference. In plain Lean, no program in sight. -/
import Derived.Test.YtlkpfhdlfapfhacGreatDoorLVd
namespace Go.G
open Go Go.J
set_option linter.unusedSimpArgs false
set_option linter.unusedVariables false
def ints (a:Int) (d:Nat):List Int:=(List.range d).map fun i:Nat=>a+(i:Int)
theorem ints_succ (a:Int) (d:Nat):ints a (d+1)=a::ints (a+1) d:=by
 unfold ints
 rw [List.range_succ_eq_map,List.map_cons,List.map_map]
 congr 1
 ·simp
 ·apply List.map_congr_left
  intro i _
  simp only [Function.comp]
  omega
theorem mem_ints {a x:Int} {d:Nat}:x∈ints a d↔a≤x∧x<a+d:=by
 unfold ints
 rw [List.mem_map]
 constructor
 ·rintro ⟨i,hi,rfl⟩
  have:=List.mem_range.1 hi
  omega
 ·rintro ⟨h1,h2⟩
  exact ⟨(x - a).toNat,List.mem_range.2 (by omega),by omega⟩
def rng (r:TRange):List Int:=ints r.Low (r.High+1 - r.Low).toNat
theorem mem_rng {r:TRange} {x:Int} (h:x∈rng r):r.Low≤x∧x≤r.High:=by
 have:=mem_ints.1 h
 omega
theorem loop_up {β ρ : Type} (step:Int × β → Option (Flow (Int × β) ρ)) (f:Int → β → β) (lo hi:Int) (I:Int → β → Prop) (h:∀ n s,lo≤n→n≤hi→I n s→step (n,s)=some (.nxt (n+1,f n s))∧I (n+1) (f n s)) (hb:∀ n s,hi<n→step (n,s)=some (.brk (n,s))) :
  ∀ (d:Nat) (n:Int) (s : β),(hi+1 - n).toNat=d→lo≤n→I n s→∃ z,loopM step (n,s)=some (.brk (z,(ints n d).foldl (fun s n=>f n s) s)):=by
 intro d
 induction d with
 | zero =>
  intro n s hd _ _
  exact ⟨n,by rw [loopM_step (hb n s (by omega)),run_brk]; rfl⟩
 | succ d ih =>
  intro n s hd hl hI
  obtain ⟨h1,h2⟩:=h n s hl (by omega) hI
  obtain ⟨z,hz⟩:=ih (n+1) (f n s) (by omega) (by omega) h2
  exact ⟨z,by rw [loopM_step h1,run_nxt,hz,ints_succ,List.foldl_cons]⟩
theorem take_overB {β : Type} (n:Nat) (a b:List β):(a.take n++b).take n=(a++b).take n:=by
 by_cases h:a.length≤n
 ·rw [List.take_of_length_le h]
 ·have h1:(a.take n).length=n:=by rw [List.length_take]; omega
  rw [List.take_append_of_le_length (by omega),List.take_append_of_le_length (by omega),List.take_take,Nat.min_self]
theorem take_fold {β : Type} (G:Int→List β):∀ (l:List Int) (acc:List β),acc.length≤1001→l.foldl (fun s n=>(s++G n).take 1001) acc=(acc++l.flatMap G).take 1001
 | [],acc,h=>by rw [List.foldl_nil,List.flatMap_nil,List.append_nil,List.take_of_length_le h]
 | x::l,acc,h=>by
  rw [List.foldl_cons,take_fold G l _ (by rw [List.length_take]; omega),take_overB,List.flatMap_cons,List.append_assoc]
structure RR (rs:List TRange):Prop where
 len:1≤rs.length∧rs.length≤5
 ok:∀ r∈rs,0≤r.Low∧r.Low≤r.High∧r.High≤127∧r.High - r.Low≤24
structure CT (c:TChord) (T:List Int):Prop where
 tones:m_chord_tones c=some T
 ref:m_gleeref2_TonesOf c=some T
 len:T.length≤4
 pos:0<T.length
def inT (T:List Int) (n:Int):Bool:=T.any fun x=>n.tmod 12==x
def lastN (p:List Int):Int:=nt p (p.length - 1)
def okB (T:List Int) (p:List Int) (n:Int):Bool :=
 inT T n&&((decide (0<p.length)||n.tmod 12==nt T 0)&&(decide (p.length=0)||(decide (lastN p≤n)&&(decide (p.length≤1)||decide (n - lastN p≤12)))))
noncomputable def fitsB (T p:List Int):Bool:=decide ((nt p 0).tmod 12=nt T 0)&&decide (S p=S T)
noncomputable def dfs (T:List Int):List TRange→List Int→List (List Int)
 | [],p=>if fitsB T p=true then [p] else []
 | r::rs,p=>(rng r).flatMap fun n=>if okB T p n=true then dfs T rs (p++[n]) else []
def ext (T:List Int):List TRange→List Int→List (List Int)
 | [],p=>[p]
 | r::rs,p=>(rng r).flatMap fun n=>if inT T n=true then ext T rs (p++[n]) else []
theorem fits_E {c:TChord} {T:List Int} (hc:CT c T) {p:List Int} (h0:0<p.length) (hl:p.length≤1000):m_chord_fits c p=some (fitsB T p):=by
 have h4:=hc.len
 unfold m_chord_fits fitsB
 rw [hc.tones,Option.bind_some,getI_of (i:=0) (n:=0) rfl (nt_get h0),Option.bind_some,getI_of (i:=0) (n:=0) rfl (nt_get hc.pos),Option.bind_some]
 by_cases h:(nt p 0).tmod 12=nt T 0
 ·rw [show ((nt p 0).tmod 12==nt T 0)=true by simpa using h,ifB_true,set_spec p (by omega),Option.bind_some,set_spec T (by omega),Option.bind_some,EqualInt_spec,decide_eq_true h]; rfl
 ·rw [show ((nt p 0).tmod 12==nt T 0)=false by simpa using h,decide_eq_false h]; rfl
theorem CloneI (l:List Int) (h:l.length≤1000):m_slices_Clone_int_int l=some l:=by
 unfold m_slices_Clone_int_int
 rw [appM_of (by simp; omega) (by omega)]
 rfl
theorem find_spec {c:TChord} {T:List Int} (hc:CT c T) {rs:List TRange} (hr:RR rs):∀ (rest:List TRange) (p:List Int) (fuel:Nat) (acc:List (List Int)),rs.drop p.length=rest→p.length≤rs.length→(∀ x∈p,0≤x∧x≤127)→acc.length≤1001 →
  m_chord_finder_find (rest.length+1+fuel) c.Root c.Kind c.Turn rs T acc p=some ((acc++dfs T rest p).take 1001)
 | [],p,fuel,acc,hd,hp,hx,ha=>by
  have hl:=hr.len
  have hpl:p.length=rs.length:=by
   have:=congrArg List.length hd
   rw [List.length_drop,List.length_nil] at this
   omega
  rw [show ([]:List TRange).length+1+fuel=fuel+1 by simp; omega]
  show m_chord_finder_find_b (m_chord_finder_find fuel) c.Root c.Kind c.Turn rs T acc p=_
  unfold m_chord_finder_find_b
  by_cases h1:(acc.length:Int)>1000
  ·rw [decide_eq_true h1,ifB_true,List.take_append_of_le_length (by omega),List.take_of_length_le ha]
  ·rw [decide_eq_false h1,ifB_false,show ((p.length:Int)==(rs.length:Int))=true by simp; omega,ifB_true]
   have hf:m_chord_fits (TChord.mk c.Root c.Kind c.Turn) p=some (fitsB T p):=fits_E hc (by omega) (by omega)
   rw [hf,Option.bind_some]
   unfold dfs
   cases fitsB T p with
   | true =>
    rw [ifB_true,CloneI p (by omega),Option.bind_some,appM_of (by simp; omega) (by omega),Option.bind_some,Option.bind_some,fin_inl,if_pos rfl,List.take_of_length_le (by simp; omega)]
   | false =>
    rw [ifB_false,Option.bind_some,fin_inl,if_neg (by simp),List.append_nil,List.take_of_length_le ha]
 | r::rest,p,fuel,acc,hd,hp,hx,ha=>by
  have hl:=hr.len
  have hlt:p.length<rs.length:=by
   have:=congrArg List.length hd
   rw [List.length_drop,List.length_cons] at this
   omega
  have hget:rs[p.length]? = some r:=by
   have:=congrArg (fun l=>l[0]?) hd
   simpa using this
  have hdr:rs.drop (p.length+1)=rest:=by
   have:=congrArg (List.drop 1) hd
   simpa [List.drop_drop,Nat.add_comm] using this
  have hro:=hr.ok r (List.mem_of_getElem? hget)
  rw [show (r::rest).length+1+fuel=(rest.length+1+fuel)+1 by rw [List.length_cons]; omega]
  show m_chord_finder_find_b (m_chord_finder_find (rest.length+1+fuel)) c.Root c.Kind c.Turn rs T acc p=_
  unfold m_chord_finder_find_b
  by_cases h1:(acc.length:Int)>1000
  ·rw [decide_eq_true h1,ifB_true,List.take_append_of_le_length (by omega),List.take_of_length_le ha]
  ·rw [decide_eq_false h1,ifB_false,show ((p.length:Int)==(rs.length:Int))=false by simp; omega,ifB_false,getI_of (n:=p.length) rfl hget,Option.bind_some]
   obtain ⟨z,hz⟩:=loop_up (m_chord_finder_find_l1 c.Root c.Kind c.Turn rs T p (m_chord_finder_find (rest.length+1+fuel))) (fun n s=>(s++if okB T p n=true then dfs T rest (p++[n]) else []).take 1001) r.Low r.High (fun _ s=>s.length≤1001) (by
    intro n s hlo hhi hs
    refine ⟨?_,by rw [List.length_take]; omega⟩
    have hskip:okB T p n=false→some (Flow.nxt (w64 (n+1),s))=(some (Flow.nxt (n+1,(s++if okB T p n=true then dfs T rest (p++[n]) else []).take 1001)):Option (Flow (Int × List (List Int)) (List (List Int)))):=fun h=>by
     rw [if_neg (by rw [h]; simp),List.append_nil,List.take_of_length_le hs,w64_id (by omega)]
    unfold m_chord_finder_find_l1
    simp only []
    rw [getI_of (n:=p.length) rfl hget,Option.bind_some,decide_eq_true hhi,ifB_true,Contains_spec,Option.bind_some]
    by_cases hT:inT T n=true
    ·have hT':(T.any fun x=>n.tmod 12==x)=true:=hT
     rw [hT',Bool.not_true,ifB_false]
     by_cases hp0:p.length=0
     ·rw [show ((p.length:Int)==0)=true by simp [hp0],ifB_true,getI_of (i:=0) (n:=0) rfl (nt_get hc.pos),Option.bind_some,Option.bind_some,fin_inl]
      by_cases hf:n.tmod 12=nt T 0
      ·have hok:okB T p n=true:=by unfold okB; rw [hT,hp0]; simp [hf]
       rw [show (n.tmod 12 != nt T 0)=false by simpa using hf,ifB_false,decide_eq_false (by omega),ifB_false,Option.bind_some,fin_inl,ifB_false,appM_of (by simp; omega) (by omega),Option.bind_some]
       rw [find_spec hc hr rest (p++[n]) fuel s (by rw [List.length_append,List.length_singleton]; exact hdr) (by rw [List.length_append,List.length_singleton]; omega) (fun x hxm=>by
        rcases List.mem_append.1 hxm with h | h
        ·exact hx x h
        ·rw [List.mem_singleton.1 h]; omega) hs,Option.bind_some,if_pos hok,w64_id (by omega)]
      ·have hok:okB T p n=false:=by unfold okB; rw [hT,hp0]; simp [hf]
       rw [show (n.tmod 12 != nt T 0)=true by simpa using hf,ifB_true]
       exact hskip hok
     ·have hgl:getI p (w64 ((p.length:Int) - 1))=some (lastN p):=by
       rw [w64_id (by omega)]
       exact getI_of (n:=p.length - 1) (by omega) (nt_get (by omega))
      have hlast:0≤lastN p∧lastN p≤127:=hx _ (List.mem_of_getElem? (nt_get (k:=p.length - 1) (by omega)))
      rw [show ((p.length:Int)==0)=false by simpa using hp0,ifB_false,Option.bind_some,fin_inl,ifB_false,decide_eq_true (by omega),ifB_true,hgl,Option.bind_some]
      by_cases hlo2:n<lastN p
      ·have hok:okB T p n=false:=by unfold okB; rw [hT]; simp [hp0]; omega
       rw [decide_eq_true hlo2,ifB_true,Option.bind_some,fin_inl,ifB_true]
       exact hskip hok
      ·rw [decide_eq_false hlo2,ifB_false]
       have hcall:okB T p n=true→((appM 8 p [n]).bind fun q33=>(m_chord_finder_find (rest.length+1+fuel) c.Root c.Kind c.Turn rs T s q33).bind fun y36=>(some (Flow.nxt (w64 (n+1),y36)):Option (Flow (Int × List (List Int)) (List (List Int)))))=some (Flow.nxt (n+1,(s++if okB T p n=true then dfs T rest (p++[n]) else []).take 1001)):=fun hok=>by
        rw [appM_of (by simp; omega) (by omega),Option.bind_some]
        rw [find_spec hc hr rest (p++[n]) fuel s (by rw [List.length_append,List.length_singleton]; exact hdr) (by rw [List.length_append,List.length_singleton]; omega) (fun x hxm=>by
         rcases List.mem_append.1 hxm with h | h
         ·exact hx x h
         ·rw [List.mem_singleton.1 h]; omega) hs,Option.bind_some,if_pos hok,w64_id (by omega)]
       by_cases hp1:p.length>1
       ·rw [decide_eq_true (show (p.length:Int)>1 by omega),ifB_true,Option.bind_some,Option.bind_some,fin_inl,w64_id (n:=n - lastN p) (by omega)]
        by_cases hfar:n - lastN p>12
        ·have hok:okB T p n=false:=by unfold okB; rw [hT]; simp [hp0]; omega
         rw [decide_eq_true hfar,ifB_true]
         exact hskip hok
        ·have hok:okB T p n=true:=by unfold okB; rw [hT]; simp [hp0]; omega
         rw [decide_eq_false hfar,ifB_false]
         exact hcall hok
       ·have hok:okB T p n=true:=by unfold okB; rw [hT]; simp [hp0]; omega
        rw [decide_eq_false (show ¬ (p.length:Int)>1 by omega),ifB_false,Option.bind_some,fin_inl,ifB_false]
        exact hcall hok
    ·rw [Bool.not_eq_true] at hT
     have hT':(T.any fun x=>n.tmod 12==x)=false:=hT
     have hok:okB T p n=false:=by unfold okB; rw [hT]; rfl
     rw [hT',Bool.not_false,ifB_true,Option.bind_some,fin_inl,ifB_true]
     exact hskip hok) (by
    intro n s hn
    unfold m_chord_finder_find_l1
    simp only []
    rw [getI_of (n:=p.length) rfl hget,Option.bind_some,decide_eq_false (by omega),ifB_false]) _ r.Low acc rfl (Int.le_refl _) ha
   rw [hz,Option.bind_some,fin_brk,take_fold _ _ _ ha]
   rfl
end Go.G
