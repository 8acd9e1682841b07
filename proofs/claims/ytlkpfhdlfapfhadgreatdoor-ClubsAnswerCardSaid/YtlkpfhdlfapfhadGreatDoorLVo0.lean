/- LVo0: votes and open motions, the program alone. In plain Lean, no program in sight. -/
import Derived.Test.YtlkpfhdlfapfhadGreatDoorLYo
import Derived.Test.YtlkpfhdlfapfhadGreatDoorLY6n
namespace Go.G
open Go Go.J
set_option linter.unusedSimpArgs false
set_option linter.unusedVariables false
theorem bL9 {n:Nat} {s:Bk} (hb:BOK n s) (hn:n≤2000) (h:∀ k t,lkM s.mo k=some t→t.2.2.length≤2000) (z:Int) (x:TAct):∀ k t,lkM (Y9 s z x).mo k=some t→t.2.2.length≤2000:=by
 unfold Y9
 split
 ·have put:∀ (j:ByteArray) (u:bv2),u.2.2.length≤2000→∀ k t,lkM (q9 s.mo j u) k=some t→t.2.2.length≤2000:=fun j u hu k t ht=>by
   rw [aO0] at ht
   split at ht
   ·cases ht; exact hu
   ·exact h k t ht
  unfold aP8
  cases h1:x.Kind==1
  case true=>exact h
  cases h2:x.Kind==2
  case true=>exact h
  cases h3:x.Kind==3
  case true=>exact h
  cases h4:x.Kind==4
  case true=>exact put _ _ (by simp)
  simp only [cond_false]
  cases hl:lkM s.mo x.Motion with
  | none=>exact h
  | some t =>
   simp only
   cases h5:x.Kind==5
   case true=>exact put _ _ (show t.2.2.length≤2000 from h _ _ hl)
   simp only [cond_false]
   cases h6:x.Kind==6
   case true =>
    refine put _ _ ?_
    simp only
    unfold H7
    have:=hb.len
    refine Nat.le_trans (List.length_filter_le ..) ?_
    rw [an0,List.length_map]; omega
   exact h
 ·exact h
theorem bI9 (l:List TAct) (at_:Int) (hl:l.length≤2000):∀ k t,lkM (j7 l at_).mo k=some t→t.2.2.length≤2000:=by
 have hc:=an9 at_ l 0
 have key:∀ (t:List Int) (s:Bk) (n:Nat),BOK n s→n+t.length≤2000→(∀ k t,lkM s.mo k=some t→t.2.2.length≤2000)→∀ k u,lkM (t.foldl (ab8 l) s).mo k=some u→u.2.2.length≤2000:=by
  intro t
  induction t with
  | nil=>intro s n _ _ h; exact h
  | cons z t ih =>
   intro s n hb hn h
   simp only [List.length_cons] at hn
   rw [List.foldl_cons]
   unfold ab8
   cases hx:l[z.toNat]? with
   | none=>exact ih s (n+1) ⟨fun k=>Nat.le_trans (hb.row k) (by omega),Nat.le_trans hb.len (by omega),Nat.le_trans hb.rf (by omega)⟩ (by omega) h
   | some x=>exact ih _ (n+1) (hb.step _ _) (by omega) (bL9 hb (by omega) h z x)
 exact key (W7 at_ 0 l) ⟨[],[],[],[]⟩ 0 ⟨fun k=>by simp [A5,lkM],by simp,by simp⟩ (by omega) (fun k t h=>by simp [lkM] at h)
theorem bD0 (l:List TAct) (at_:Int):ak6 l at_=some (if aa2 l at_=0 then ((ae1 ((j7 l at_).mo.map Prod.fst)).filter (O0 (j7 l at_).mo),0) else ([],aa2 l at_)):=by
 unfold ak6
 rw [ag3,Option.bind_some]
 by_cases h:aa2 l at_=0
 ·simp only [if_pos h,K4]
  rw [show ((0:Int) != 0)=false from rfl,j4]
  unfold ba0
  simp only
  rw [bd3 _ _ _ _ _ (Nat.le_trans (bh2 l at_ (ay9 h).1.len) (by omega))]; rfl
 ·simp only [if_neg h,ad4]
  rw [show (aa2 l at_ != 0)=true by simpa using h,j9]
theorem bn3:C2 ⟨1,2⟩=some 0:=by
 unfold C2
 rw [o6 (show C7 (1,2)=some (.nxt (2,1)) by kernel_rfl),D8,o6 (show C7 (2,1)=some (.nxt (1,0)) by kernel_rfl),D8,o6 (show C7 (1,0)=some (.brk (1,0)) by kernel_rfl),ag4]
 rfl
theorem bp6 (n o:Nat) (hn:n≤1000000) (ho:o≤1000000):W6 (n:Int) (o:Int) ⟨1,2⟩=some (decide (o≤2*n)):=by
 have wu:∀ m:Nat,m≤1000000→IntKind.wrap .u64 (m:Int)=(m:Int):=fun m hm=>by rw [IntKind.wrap_u64]; omega
 unfold W6 ah0
 rw [wu n hn,wu o ho,show IntKind.wrap .u64 (2:Int)=2 from rfl,show IntKind.wrap .u64 (1:Int)=1 from rfl]
 rw [if_pos (by omega),if_pos (by omega)]
 simp only [Option.bind_some,Int.toNat_natCast,show (2:Int).toNat=2 from rfl,show (1:Int).toNat=1 from rfl]
 rw [show n*2 / 18446744073709551616=0 by omega,show o*1 / 18446744073709551616=0 by omega,show n*2 % 18446744073709551616=n*2 by omega,show o*1 % 18446744073709551616=o by omega]
 rw [show decide (((0:Nat):Int)>((0:Nat):Int))=false from rfl,j4,show (((0:Nat):Int)==((0:Nat):Int))=true from rfl,j9]
 congr 1
 rw [decide_eq_decide]; omega
theorem aT9 (step:Nat→ByteArray→Int × Int→Option (Flow (Int × Int) (TTally × Int))) (v:List (ByteArray × Bool))
  (hs:∀ i x u,step i x u=(ifB (G3 v x) (some (.inl ((lkM v x).getD false))) (some (.inl false)):Option (Bool ⊕ (Flow (Int × Int) (TTally × Int)))).bind fun k50=>Sum.fin k50 fun u48=>ifB u48 (some (.nxt (w64 (u.1+1),u.2))) (ifB (G3 v x) (some (.nxt (u.1,w64 (u.2+1)))) (some (.nxt (u.1,u.2))))) (l:List ByteArray) (hl:l.length≤2000) :
  ∃ a b:Nat,l8 step 0 l (0,0)=some (.brk ((a:Int),(b:Int)))∧a+b=(l.filter fun x=>G3 v x).length:=by
 obtain ⟨s,h1,a,b,rfl,h3⟩:=Q8 step l (fun i s=>∃ a b:Nat,s=((a:Int),(b:Int))∧a+b=((l.take i).filter fun x=>G3 v x).length) (by
  rintro i x s hx ⟨a,b,rfl,hab⟩
  have hi:=(List.getElem?_eq_some_iff.1 hx).1
  have hle:((l.take i).filter fun x=>G3 v x).length≤i:=Nat.le_trans (List.length_filter_le ..) (by simp; omega)
  have e1:(l.take (i+1)).filter (fun x=>G3 v x)=(l.take i).filter (fun x=>G3 v x)++if G3 v x then [x] else []:=by
   rw [List.take_add_one,hx,List.filter_append]
   simp only [Option.toList_some,List.filter_cons,List.filter_nil]
  rw [hs,e1]
  cases hv:G3 v x
  ·exact ⟨_,rfl,a,b,rfl,by simpa using hab⟩
  ·cases hw:(lkM v x).getD false
   ·refine ⟨_,rfl,a,b+1,?_,by simp; omega⟩
    simp only; rw [A0 (by omega)]; rfl
   ·refine ⟨_,rfl,a+1,b,?_,by simp; omega⟩
    simp only; rw [A0 (by omega)]; rfl) (0,0) ⟨0,0,rfl,by simp⟩
 exact ⟨a,b,h1,by rw [List.take_length] at h3; exact h3⟩
end Go.G
