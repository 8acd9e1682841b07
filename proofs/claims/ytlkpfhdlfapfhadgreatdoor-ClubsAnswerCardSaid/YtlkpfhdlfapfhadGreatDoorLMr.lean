/- LMr: MoneyReckoned's law: Due, Balance, Owing and Purse answer as the reference. In plain Lean, no program in sight. -/
import Derived.Test.YtlkpfhdlfapfhadGreatDoorLMd
import Derived.Test.YtlkpfhdlfapfhadGreatDoorLY5
import Derived.Test.YtlkpfhdlfapfhadGreatDoorLY6n
import Derived.Test.YtlkpfhdlfapfhadGreatDoorLYp
import Derived.Test.YtlkpfhdlfapfhadGreatDoorLE1
namespace Go.G
open Go Go.J
set_option linter.unusedSimpArgs false
set_option linter.unusedVariables false
theorem bQ5 (a f t c u m:Int):M5 a ⟨f,t,c⟩ (u,m)=(ifB (decide (m≤a)) (ifB (decide (t<0)) (some (.inl true)) (some (.inl (decide (m<t))))) (some (.inl false)):Option (Bool ⊕ (Flow (Int × Int) (Flow Int Int)))).bind fun k15=>Sum.fin k15 fun u13=>ifB u13 (some (.nxt (w64 (u+c),w64 (m+2592000000)))) (some (.brk (u,m))):=rfl
theorem dueW {a:Int} {y:Tclub_stay} (h:aq9 a y) (ha:a≤345686399999):∀ (d j:Nat) (u:Int),((j:Int)+d=ai9 a y)→0≤u→u+d*y.cents≤4000000000000000000 →
  ∃ m,J2 (M5 a (cS y)) (u,y.since+j*2592000000)=some (.brk (u+d*y.cents,m)):=by
 obtain ⟨m1,m2⟩:=aA2 h ha
 have h':=h
 unfold aq9 at h'
 have hN:ai9 a y=if y.till<0 then (a - y.since) / 2592000000+1 else (y.till - y.since+2591999999) / 2592000000:=rfl
 intro d
 induction d with
 | zero =>
  intro j u hj hu hb
  refine ⟨y.since+j*2592000000,?_⟩
  have hs:M5 a (cS y) (u,y.since+j*2592000000)=some (.brk (u,y.since+j*2592000000)):=by
   rw [show cS y=⟨y.since,y.till,y.cents⟩ from rfl,bQ5]
   by_cases ht:y.till<0
   ·rw [if_pos ht] at hN
    rw [decide_eq_false (by omega),j4]; rfl
   ·rw [if_neg ht] at hN
    rw [decide_eq_false ht,j4,decide_eq_false (show ¬ y.since+j*2592000000<y.till by omega)]
    cases decide (y.since+(j:Int)*2592000000≤a) <;> rfl
  rw [o6 hs]
  simp
 | succ d ih =>
  intro j u hj hu hb
  have hc:=h'.2.2.2
  have e1:(((d+1:Nat):Int))*y.cents=y.cents+d*y.cents:=by rw [Int.natCast_add,Int.add_mul]; omega
  have hdc:0≤(d:Int)*y.cents:=Int.mul_nonneg (by omega) hc.1
  rw [e1] at hb ⊢
  obtain ⟨m,hm⟩:=ih (j+1) (u+y.cents) (by omega) (by omega) (by omega)
  refine ⟨m,?_⟩
  have hs:M5 a (cS y) (u,y.since+j*2592000000)=some (.nxt (u+y.cents,y.since+((j+1:Nat):Int)*2592000000)):=by
   rw [show cS y=⟨y.since,y.till,y.cents⟩ from rfl,bQ5]
   have hle:y.since+(j:Int)*2592000000≤a:=by
    by_cases ht:y.till<0
    ·rw [if_pos ht] at hN; omega
    ·rw [if_neg ht] at hN; omega
   have e2:w64 (y.since+(j:Int)*2592000000+2592000000)=y.since+((j+1:Nat):Int)*2592000000:=by rw [A0 (by omega)]; omega
   rw [decide_eq_true hle,j9,e2,A0 (by omega)]
   by_cases ht:y.till<0
   ·rw [decide_eq_true ht]; rfl
   ·rw [if_neg ht] at hN
    rw [decide_eq_false ht,decide_eq_true (show y.since+(j:Int)*2592000000<y.till by omega)]; rfl
  rw [o6 hs]
  simp only [Flow.run]
  rw [hm,Int.add_assoc]
theorem bZ1 {a:Int} {y:Tclub_stay} (h:aq9 a y) (ha:a≤345686399999) (i:Nat) (u:Int) (hu:0≤u) (hu':u≤3000000000000000000):V7 a i (cS y) u=some (.nxt (u+aP1 a y)):=by
 obtain ⟨m1,m2⟩:=aA2 h ha
 obtain ⟨d1,d2⟩:=aP0 h ha
 obtain ⟨d,hd⟩:=Int.eq_ofNat_of_zero_le m1
 have e:(d:Int)*y.cents=aP1 a y:=by unfold aP1; rw [hd]
 obtain ⟨m,hm⟩:=dueW h ha d 0 u (by rw [hd]; simp) hu (by rw [e]; omega)
 unfold V7
 rw [show (cS y).from_=y.since+((0:Nat):Int)*2592000000 by simp [cS],hm,e]; rfl
theorem bB7 {a:Int} (ha:a≤345686399999):∀ (t:List Tclub_stay) (i:Nat) (u:Int),(∀ y∈t,aq9 a y)→0≤u→u+134000000000*(t.length:Int)≤3000000000000000000 →
  l8 (V7 a) i (t.map cS) u=some (.brk (u+aB2 a t)):=by
 intro t
 induction t with
 | nil=>intro i u _ _ _; simp [aB2]
 | cons y t ih =>
  intro i u h hu hb
  have hy:=h y (List.mem_cons_self ..)
  obtain ⟨d1,d2⟩:=aP0 hy ha
  simp only [List.length_cons] at hb
  have g1:=ih (i+1) (u+aP1 a y) (fun z hz=>h z (List.mem_cons_of_mem _ hz)) (by omega) (by omega)
  rw [List.map_cons,o5,bZ1 hy ha i u hu (by omega),Option.bind_some,D8,g1]
  simp only [aB2]
  rw [Int.add_assoc]
theorem bN9 {a:Int} {s:Bk} (h:PInv a 2000 s) (hb:BOK 2000 s) (ha:a≤345686399999) (pd:List (ByteArray × Int)) (po:List (ByteArray × (Bool × List ByteArray × List (ByteArray × Bool)))) (rf:List Int) (k:ByteArray) :
  U7 (cSt s.st) pd po rf k a=some (aB2 a (A5 s.st k)):=by
 have hr:=hb.row k
 unfold U7
 rw [aM6,bB7 ha (A5 s.st k) 0 0 (h.stays k) (Int.le_refl _) (by omega),Option.bind_some,D5,Int.zero_add]
structure GoodB (a:Int) (s:Bk):Prop where
 p:PInv a 2000 s
 b:BOK 2000 s
 a1:0≤a
 a2:a≤345686399999
def ak2 (a:Int) (s:Bk) (k:ByteArray):Int × Int:=bf0 (aB2 a (A5 s.st k)) (az6 s.pd k)
theorem bJ0 (a:Int) (s:Bk) (k:ByteArray):(ak2 a s k).2=0∨(ak2 a s k).2=12:=by unfold ak2 bf0; split <;> simp
theorem aI0 {a:Int} {s:Bk} (h:GoodB a s) (k:ByteArray):-268000000000000≤(ak2 a s k).1∧(ak2 a s k).1≤2000000000000:=by
 obtain ⟨-,g2,g3⟩:=aZ6 h.p h.b h.a2 k
 obtain ⟨p1,p2⟩:=aX8 h.p k
 unfold ak2 bf0
 split <;> simp only <;> omega
theorem aP5 {a:Int} {s:Bk} (h:GoodB a s) (k:ByteArray):I7 a s.st s.pd s.mo s.rf k=some (ak2 a s k):=bk4 h.p h.b h.a2 k
def bV6 (a:Int) (s:Bk) (k:ByteArray):Int × Int:=if aB2 a (A5 s.st k)>1000000000000 then (0,12) else (aB2 a (A5 s.st k),0)
theorem bv3 {l:List TAct} {a:Int} (hl:ActsOK l) (h:GoodB a (j7 l a)) (k:ByteArray):ab3 l k a=some (bV6 a (j7 l a) k):=by
 unfold ab3
 rw [aa0 l a hl,Option.bind_some]
 simp only
 rw [bN9 h.p h.b h.a2,Option.bind_some,bh8]
 unfold bV6
 split <;> rfl
theorem am5 {l:List TAct} {a:Int} (hl:ActsOK l) (h:GoodB a (j7 l a)) (k:ByteArray):L9 l k a=some (ak2 a (j7 l a) k):=by
 obtain ⟨-,d1,d2⟩:=aZ6 h.p h.b h.a2 k
 obtain ⟨p1,p2⟩:=aX8 h.p k
 unfold L9
 rw [bv3 hl h,Option.bind_some,aa0 l a hl,Option.bind_some]
 simp only
 rw [show (lkM (j7 l a).pd k).getD 0=az6 (j7 l a).pd k from rfl]
 unfold ak2 bf0 bV6
 by_cases h1:aB2 a (A5 (j7 l a).st k)>1000000000000
 ·rw [if_pos h1,if_pos (.inl h1)]; rfl
 ·rw [if_neg h1]
  simp only
  rw [show ((0:Int)==0)=true from rfl,j9,Option.bind_some,C9]
  by_cases h2:az6 (j7 l a).pd k>1000000000000
  ·rw [if_pos (.inr h2),decide_eq_false (by omega),j4]
  ·rw [if_neg (by omega),decide_eq_true (by omega),j9,A0 (by omega)]
def R8 (a m:Int) (s:Bk) (k:ByteArray):Option Tclub_debt:=if -(ak2 a s k).1≥m then some ⟨k,-(ak2 a s k).1⟩ else none
theorem bs8 {a m:Int} {s:Bk} (h:GoodB a s):∀ (L:List ByteArray) (i:Nat) (u:List Tclub_debt),(∀ k∈L,(ak2 a s k).2=0)→u.length+L.length≤1000→l8 (C8 a s.st s.pd s.mo s.rf m) i L u=some (.brk (u++L.filterMap (R8 a m s))):=by
 intro L
 induction L with
 | nil=>intro i u _ _; simp
 | cons k L ih =>
  intro i u hk hu
  simp only [List.length_cons] at hu
  have h0:=hk k (List.mem_cons_self ..)
  obtain ⟨r1,r2⟩:=aI0 h k
  have hs:C8 a s.st s.pd s.mo s.rf m i k u=some (.nxt (u++(R8 a m s k).toList)):=by
   unfold C8 R8
   rw [aP5 h,Option.bind_some,h0,show ((0:Int) != 0)=false from rfl,j4,A0 (by omega)]
   by_cases hd:0 - (ak2 a s k).1≥m
   ·rw [decide_eq_true hd,j9,Q7 (by simp; omega) (by omega),if_pos (by omega)]
    simp only [Option.bind_some,Option.toList_some,Int.zero_sub]
   ·rw [decide_eq_false hd,j4,if_neg (by omega)]; simp
  rw [o5,hs,Option.bind_some,D8,ih (i+1) _ (fun z hz=>hk z (List.mem_cons_of_mem _ hz)) (by cases hdo:R8 a m s k <;> simp <;> omega)]
  cases hdo:R8 a m s k <;> simp [List.filterMap_cons,hdo]
theorem bA6 {a m:Int} {s:Bk} (h:GoodB a s):∀ (L:List ByteArray) (i:Nat) (u:List Tclub_debt),(∃ k∈L,(ak2 a s k).2≠0)→u.length+L.length≤1000→l8 (C8 a s.st s.pd s.mo s.rf m) i L u=some (.ret ([],12)):=by
 intro L
 induction L with
 | nil=>intro i u ⟨k,hk,_⟩ _; cases hk
 | cons k L ih =>
  intro i u hk hu
  simp only [List.length_cons] at hu
  obtain ⟨r1,r2⟩:=aI0 h k
  rcases bJ0 a s k with h0 | h0
  ·have hk':∃ z∈L,(ak2 a s z).2≠0:=by
    obtain ⟨z,hz,hne⟩:=hk
    rcases List.mem_cons.1 hz with rfl | hz
    ·exact (hne h0).elim
    ·exact ⟨z,hz,hne⟩
   have hs:∃ v:List Tclub_debt,C8 a s.st s.pd s.mo s.rf m i k u=some (.nxt v)∧v.length≤u.length+1:=by
    unfold C8
    rw [aP5 h,Option.bind_some,h0,show ((0:Int) != 0)=false from rfl,j4]
    cases decide (w64 (0 - (ak2 a s k).1)≥m)
    ·exact ⟨u,rfl,by omega⟩
    ·rw [j9,Q7 (by simp; omega) (by omega)]; exact ⟨_,rfl,by simp⟩
   obtain ⟨v,hs,hv⟩:=hs
   rw [o5,hs,Option.bind_some,D8,ih (i+1) v hk' (by omega)]
  ·have hs:C8 a s.st s.pd s.mo s.rf m i k u=some (.ret ([],12)):=by
    unfold C8
    rw [aP5 h,Option.bind_some,h0]; rfl
   rw [o5,hs]; rfl
def bD6 (x:Tclub_debt):TPair:=⟨x.who,⟨(Lib.itoa x.cents).toArray⟩⟩
theorem W4 {n:Int} (h:-9223372036854775808≤n∧n≤9223372036854775807):l2 n=some ⟨(Lib.itoa n).toArray⟩:=by unfold l2; rw [if_pos h]
noncomputable def aY0 (a m:Int) (s:Bk):List TPair:=(((s.st.map Prod.fst).filterMap (R8 a m s)).foldl (ins ltS) []).map bD6
theorem aG2 {a m:Int} {s:Bk} {k:ByteArray} {x:Tclub_debt} (h:R8 a m s k=some x):x=⟨k,-(ak2 a s k).1⟩ ∧ -(ak2 a s k).1≥m:=by
 unfold R8 at h
 split at h
 ·rename_i g; cases h; exact ⟨rfl,g⟩
 ·cases h
theorem aG1 (a m:Int) (s:Bk):∀ (L:List ByteArray),L.Nodup→((L.filterMap (R8 a m s)).map (·.who)).Nodup:=by
 intro L
 induction L with
 | nil=>intro _; simp
 | cons k L ih =>
  intro hn
  rw [List.nodup_cons] at hn
  rw [List.filterMap_cons]
  cases hd:R8 a m s k with
  | none=>exact ih hn.2
  | some x =>
   simp only [List.map_cons,List.nodup_cons]
   refine ⟨fun hm=>?_,ih hn.2⟩
   obtain ⟨y,hy,e⟩:=List.mem_map.1 hm
   obtain ⟨j,hj,hd'⟩:=List.mem_filterMap.1 hy
   have e1:=(aG2 hd).1
   have e2:=(aG2 hd').1
   rw [e1,e2] at e
   simp only at e
   exact hn.1 (e ▸ hj)
theorem bf7 {a:Int} {s:Bk} (h:GoodB a s):s.st.length≤3:=by
 have:=List.Nodup.length_le_of_subset h.p.sk (l₂:=aX1) fun k hk=>by
  obtain ⟨p,hp,rfl⟩:=List.mem_map.1 hk
  exact h.p.sm p hp
 simpa [aX1] using this
theorem aZ7 {a m:Int} {s:Bk} (h:GoodB a s) (hm:1≤m) {L:List ByteArray}:∀ x∈L.filterMap (R8 a m s),1≤x.cents∧x.cents≤268000000000000:=fun x hx=>by
 obtain ⟨k,-,hd⟩:=List.mem_filterMap.1 hx
 obtain ⟨rfl,g⟩:=aG2 hd
 have:=aI0 h k
 exact ⟨by simp only; omega,by simp only; omega⟩
open Classical in
noncomputable def aq4 (a m:Int) (s:Bk):List TPair × Int:=if ∀ k∈s.st.map Prod.fst,(ak2 a s k).2=0 then (aY0 a m s,0) else ([],12)
theorem bw7 {a:Int} {s:Bk} (hall:¬ ∀ k∈s.st.map Prod.fst,(ak2 a s k).2=0):∃ k∈s.st.map Prod.fst,(ak2 a s k).2≠0:=by
 refine Classical.byContradiction fun hno=>hall fun k hk=>?_
 exact Classical.byContradiction fun hne=>hno ⟨k,hk,hne⟩
theorem bs7 {a m:Int} {s:Bk} (h:GoodB a s) (hm:1≤m):P9 a s.st s.pd s.mo s.rf m=some (aq4 a m s):=by
 have hlen:=bf7 h
 unfold aq4
 by_cases hall:∀ k∈s.st.map Prod.fst,(ak2 a s k).2=0
 ·rw [if_pos hall]
  unfold P9
  refine ao0 fun L hL=>?_
  have hLl:L.length≤3:=by rw [hL.length_eq,List.length_map]; exact hlen
  rw [bs8 h L 0 [] (fun k hk=>hall k (hL.subset hk)) (by simp; omega),Option.bind_some,D5,List.nil_append]
  have hpf:=hL.filterMap (R8 a m s)
  have hfl:(L.filterMap (R8 a m s)).length≤3:=Nat.le_trans (List.length_filterMap_le ..) hLl
  rw [bX8 _ (by omega),Option.bind_some,be5 hpf (aG1 a m s _ h.p.sk)]
  have hdl:(((s.st.map Prod.fst).filterMap (R8 a m s)).foldl (ins ltS) []).length≤3:=by
   rw [(aB3 _).length_eq,← hpf.length_eq]; exact hfl
  have hc:∀ x∈((s.st.map Prod.fst).filterMap (R8 a m s)).foldl (ins ltS) [],1≤x.cents∧x.cents≤268000000000000:=fun x hx=>aZ7 h hm x ((aB3 _).subset hx)
  unfold aY0
  generalize ((s.st.map Prod.fst).filterMap (R8 a m s)).foldl (ins ltS) []=D at hdl hc ⊢
  obtain ⟨u,g1,g2⟩:=Q8 ad9 D (fun i u=>u=(D.take i).map bD6) (by
   rintro i x u hx rfl
   have hi:=(List.getElem?_eq_some_iff.1 hx).1
   have:=hc x (List.mem_of_getElem? hx)
   unfold ad9
   rw [W4 (by omega),Option.bind_some,Q7 (by simp; omega) (by omega),Option.bind_some]
   exact ⟨_,rfl,by rw [List.take_add_one,hx]; simp [bD6]⟩) [] rfl
  rw [g1,Option.bind_some,D5,g2,List.take_length]
 ·rw [if_neg hall]
  unfold P9
  refine ao0 fun L hL=>?_
  have hLl:L.length≤3:=by rw [hL.length_eq,List.length_map]; exact hlen
  obtain ⟨k,hk,hne⟩:=bw7 hall
  rw [bA6 h L 0 [] ⟨k,hL.symm.subset hk,hne⟩ (by simp; omega)]; rfl
theorem bM6 {α β : Type} (f : α → β) (lt : α → α → Bool) (lt' : β → β → Bool) (h:∀ x y,lt' (f x) (f y)=lt x y) (p:List α) (x : α):(ins lt p x).map f=ins lt' (p.map f) (f x):=by
 have hr:∀ q:List α,(at6 lt q x).map f=at6 lt' (q.map f) (f x):=by
  intro q
  induction q with
  | nil=>rfl
  | cons y q ih =>
   rw [ak8,List.map_cons,ak8,h]
   cases lt x y
   ·simp
   ·simp [ih]
 unfold ins
 rw [List.map_reverse,hr,List.map_reverse]
theorem aO5 {α β : Type} (f : α → β) (lt : α → α → Bool) (lt' : β → β → Bool) (h:∀ x y,lt' (f x) (f y)=lt x y):∀ (q p:List α),(q.foldl (ins lt) p).map f=(q.map f).foldl (ins lt') (p.map f)
 | [],p=>rfl
 | x::q,p=>by rw [List.foldl_cons,List.map_cons,List.foldl_cons,aO5 f lt lt' h q,bM6 f lt lt' h]
abbrev MS:=List (ByteArray × Int)
def dbt (M:MS) (k:ByteArray):Tclub_debt:=⟨k,(lkM M k).getD 0⟩
def ltN (M:MS) (x y:ByteArray):Bool:=ltS (dbt M x) (dbt M y)
theorem bB8 (M:MS) (hM:∀ k,0≤(lkM M k).getD 0∧(lkM M k).getD 0≤268000000000000) (x y:ByteArray):∃ c,I5 x y M=some c∧decide (c<0)=ltN M x y:=by
 have hx:=hM x; have hy:=hM y
 unfold I5 ltN ltS dbt
 simp only
 generalize (lkM M x).getD 0=p at hx ⊢
 generalize (lkM M y).getD 0=q at hy ⊢
 by_cases h:p=q
 ·subst h
  rw [show (p != p)=false by simp,j4]
  unfold D9
  refine ⟨_,rfl,?_⟩
  rw [decide_eq_false (show ¬ p<p by omega),decide_eq_true (rfl:p=p),Bool.true_and,Bool.false_or]
  show decide (Lib.compareBytes (D6 x) (D6 y)<0)=_
  rcases aP4 (D6 x) (D6 y) with ⟨h3,-⟩ | ⟨h3,-⟩ | ⟨h3,-⟩ <;> rw [h3] <;> rfl
 ·rw [show (p != q)=true by simpa using h,j9,aX4 (by omega) (by omega),Option.bind_some]
  refine ⟨_,rfl,?_⟩
  rw [decide_eq_false (show ¬ q=p by omega),Bool.false_and,Bool.or_false]
  unfold cI
  by_cases h2:q<p
  ·rw [decide_eq_true h2]; rfl
  ·rw [decide_eq_false h2,decide_eq_true (show p<q by omega)]; rfl
theorem insN (M:MS) (u:List ByteArray) (a b:Int):r5 u a b M=isM (fun x y=>I5 x y M) u a b:=rfl
theorem bX7 (M:MS) (hM:∀ k,0≤(lkM M k).getD 0∧(lkM M k).getD 0≤268000000000000) (u:List ByteArray) (h:u.length≤12):p6 u M=some (u.foldl (ins (ltN M)) []):=by
 have hs:isM (fun x y=>I5 x y M) u 0 (u.length:Int)=some (u.foldl (ins (ltN M)) []):=bx0 (ltN M) _ u (by omega) fun x _ y _=>bB8 M hM x y
 unfold p6 an6 al6
 rw [bl4 (by omega),if_pos (by omega)]
 simp only [Option.bind_some]
 unfold w3
 have h1:∀ k,B6 u 0 (u.length:Int) k M ()=some (.ret (u.foldl (ins (ltN M)) [])):=fun k=>by
  unfold B6
  rw [A0 (by omega),decide_eq_true (by omega),j9,insN,hs]; rfl
 rw [o6 (h1 _)]; rfl
def mk2 (D:List Tclub_debt):MS × List ByteArray:=(D.map fun x=>(x.who,x.cents),D.map (·.who))
theorem bo5 (D:List Tclub_debt):(mk2 D).1.map Prod.fst=D.map (·.who):=by unfold mk2; simp [List.map_map,Function.comp]
theorem bn9 {l:List TAct} {a m:Int} (hl:ActsOK l) (h:GoodB a (j7 l a)):∀ (L:List ByteArray) (i:Nat) (D:List Tclub_debt),(∀ k∈L,(ak2 a (j7 l a) k).2=0)→L.Nodup→(∀ k∈L,k∉D.map (·.who))→D.length+L.length≤1000 →
  l8 (C5 l m a) i L (mk2 D)=some (.brk (mk2 (D++L.filterMap (R8 a m (j7 l a))))):=by
 intro L
 induction L with
 | nil=>intro i D _ _ _ _; simp
 | cons k L ih =>
  intro i D hk hn hd hu
  simp only [List.length_cons] at hu
  rw [List.nodup_cons] at hn
  have h0:=hk k (List.mem_cons_self ..)
  obtain ⟨r1,r2⟩:=aI0 h k
  have hs:C5 l m a i k (mk2 D)=some (.nxt (mk2 (D++(R8 a m (j7 l a) k).toList))):=by
   unfold C5 R8
   rw [am5 hl h,Option.bind_some,h0,show ((0:Int) != 0)=false from rfl,j4,A0 (by omega)]
   by_cases hd':0 - (ak2 a (j7 l a) k).1≥m
   ·rw [decide_eq_true hd',j9,Q7 (by simp [mk2]; omega) (by omega),if_pos (by omega)]
    have hput:q9 (mk2 D).1 k (0 - (ak2 a (j7 l a) k).1)=(mk2 D).1++[(k,0 - (ak2 a (j7 l a) k).1)]:=by
     unfold q9
     rw [if_neg]
     rw [bM7,bM1 (by rw [bo5]; exact hd k (List.mem_cons_self ..))]; simp
    simp only [Option.bind_some,Option.toList_some,hput]
    simp [mk2]
   ·rw [decide_eq_false hd',j4,if_neg (by omega)]; simp
  rw [o5,hs,Option.bind_some,D8,ih (i+1) _ (fun z hz=>hk z (List.mem_cons_of_mem _ hz)) hn.2 (fun z hz hm=>?_) (by cases hdo:R8 a m (j7 l a) k <;> simp <;> omega)]
  ·cases hdo:R8 a m (j7 l a) k <;> simp [List.filterMap_cons,hdo]
  ·rw [List.map_append,List.mem_append] at hm
   rcases hm with hm | hm
   ·exact hd z (List.mem_cons_of_mem _ hz) hm
   ·cases hdo:R8 a m (j7 l a) k with
    | none=>rw [hdo] at hm; simp at hm
    | some x =>
     rw [hdo] at hm
     simp only [Option.toList_some,List.map_cons,List.map_nil,List.mem_singleton] at hm
     rw [(aG2 hdo).1] at hm
     simp only at hm
     exact hn.1 (hm ▸ hz)
theorem bs9 {l:List TAct} {a m:Int} (hl:ActsOK l) (h:GoodB a (j7 l a)):∀ (L:List ByteArray) (i:Nat) (u:MS × List ByteArray),(∃ k∈L,(ak2 a (j7 l a) k).2≠0)→u.2.length+L.length≤1000→l8 (C5 l m a) i L u=some (.ret ([],12)):=by
 intro L
 induction L with
 | nil=>intro i u ⟨k,hk,_⟩ _; cases hk
 | cons k L ih =>
  intro i u hk hu
  simp only [List.length_cons] at hu
  obtain ⟨r1,r2⟩:=aI0 h k
  rcases bJ0 a (j7 l a) k with h0 | h0
  ·have hk':∃ z∈L,(ak2 a (j7 l a) z).2≠0:=by
    obtain ⟨z,hz,hne⟩:=hk
    rcases List.mem_cons.1 hz with rfl | hz
    ·exact (hne h0).elim
    ·exact ⟨z,hz,hne⟩
   have hs:∃ v:MS × List ByteArray,C5 l m a i k u=some (.nxt v)∧v.2.length≤u.2.length+1:=by
    unfold C5
    rw [am5 hl h,Option.bind_some,h0,show ((0:Int) != 0)=false from rfl,j4]
    cases decide (w64 (0 - (ak2 a (j7 l a) k).1)≥m)
    ·exact ⟨u,rfl,by omega⟩
    ·rw [j9,Q7 (by simp; omega) (by omega)]; exact ⟨_,rfl,by simp⟩
   obtain ⟨v,hs,hv⟩:=hs
   rw [o5,hs,Option.bind_some,D8,ih (i+1) v hk' (by omega)]
  ·have hs:C5 l m a i k u=some (.ret ([],12)):=by
    unfold C5
    rw [am5 hl h,Option.bind_some,h0]; rfl
   rw [o5,hs]; rfl
theorem bV9 {D:List Tclub_debt} (hn:(D.map (·.who)).Nodup):∀ x∈D,dbt (mk2 D).1 x.who=x:=fun x hx=>by
 obtain ⟨i,hi,he⟩:=List.getElem_of_mem hx
 have hk:((mk2 D).1.map Prod.fst).Nodup:=by rw [bo5]; exact hn
 have:=aF8 (l:=(mk2 D).1) hk i (k:=x.who) (v:=x.cents) (by
  unfold mk2
  rw [List.getElem?_map,List.getElem?_eq_getElem hi,he]; rfl)
 unfold dbt
 rw [this]; rfl
theorem bl1 {l:List TAct} {a m:Int} (hl:ActsOK l) (h:GoodB a (j7 l a)) (hm:1≤m):P7 l m a=some (aq4 a m (j7 l a)):=by
 have hlen:=bf7 h
 unfold aq4 P7
 rw [aa0 l a hl,Option.bind_some]
 simp only
 refine ao0 fun L hL=>?_
 rw [bd7] at hL
 have hLl:L.length≤3:=by rw [hL.length_eq,List.length_map]; exact hlen
 have hLn:L.Nodup:=hL.nodup_iff.2 h.p.sk
 by_cases hall:∀ k∈(j7 l a).st.map Prod.fst,(ak2 a (j7 l a) k).2=0
 ·rw [if_pos hall]
  have g0:=bn9 (m:=m) hl h L 0 [] (fun k hk=>hall k (hL.subset hk)) hLn (by simp) (by simp; omega)
  rw [show (([],[]):MS × List ByteArray)=mk2 [] from rfl,g0,Option.bind_some,D5,List.nil_append]
  have hpf:=hL.filterMap (R8 a m (j7 l a))
  have hfl:(L.filterMap (R8 a m (j7 l a))).length≤3:=Nat.le_trans (List.length_filterMap_le ..) hLl
  have hdn:=aG1 a m (j7 l a) L hLn
  have hrg:∀ x∈L.filterMap (R8 a m (j7 l a)),1≤x.cents∧x.cents≤268000000000000:=aZ7 h hm
  unfold aY0
  rw [← be5 hpf (aG1 a m (j7 l a) _ h.p.sk)]
  generalize L.filterMap (R8 a m (j7 l a))=D at hfl hdn hrg ⊢
  have hM:∀ k,0≤(lkM (mk2 D).1 k).getD 0∧(lkM (mk2 D).1 k).getD 0≤268000000000000:=fun k=>by
   cases hk:lkM (mk2 D).1 k with
   | none=>simp
   | some v =>
    have:=av3 hk
    unfold mk2 at this
    obtain ⟨x,hx,e⟩:=List.mem_map.1 this
    have hr:=hrg x hx
    cases e
    simp only [Option.getD_some]
    omega
  have hnames:(mk2 D).2.length=D.length:=by simp [mk2]
  rw [bX7 _ hM _ (by omega),Option.bind_some]
  have hmap:((mk2 D).2.foldl (ins (ltN (mk2 D).1)) []).map (dbt (mk2 D).1)=D.foldl (ins ltS) []:=by
   rw [aO5 (dbt (mk2 D).1) (ltN (mk2 D).1) ltS (fun _ _=>rfl)]
   congr 1
   show (D.map (·.who)).map (dbt (mk2 D).1)=D
   rw [List.map_map]
   exact (List.map_congr_left fun x hx=>bV9 hdn x hx).trans (List.map_id D)
  have hsl:((mk2 D).2.foldl (ins (ltN (mk2 D).1)) []).length≤3:=by
   have:=aR7 (ltN (mk2 D).1) (mk2 D).2 []
   rw [List.nil_append] at this
   rw [this.length_eq,hnames]; exact hfl
  rw [← hmap]
  generalize (mk2 D).2.foldl (ins (ltN (mk2 D).1)) []=S at hsl ⊢
  obtain ⟨u,g1,g2⟩:=Q8 (ad8 (mk2 D)) S (fun i u=>u=((S.take i).map (dbt (mk2 D).1)).map bD6) (by
   rintro i x u hx rfl
   have hi:=(List.getElem?_eq_some_iff.1 hx).1
   have:=hM x
   unfold ad8
   rw [W4 (by omega),Option.bind_some,Q7 (by simp; omega) (by omega),Option.bind_some]
   exact ⟨_,rfl,by rw [List.take_add_one,hx]; simp [bD6,dbt]⟩) [] rfl
  rw [g1,Option.bind_some,D5,g2,List.take_length]
 ·rw [if_neg hall]
  obtain ⟨k,hk,hne⟩:=bw7 hall
  rw [bs9 hl h L 0 ([],[]) ⟨k,hL.symm.subset hk,hne⟩ (by simp; omega)]; rfl
theorem bn6:∀ (t:List (ByteArray × Int)) (i:Nat) (n:Int),l8 Y4 i t (w64 n)=some (.brk (w64 (n+aR5 t))):=by
 intro t
 induction t with
 | nil=>intro i n; simp [aR5]
 | cons x t ih =>
  intro i n
  rw [o5]
  unfold Y4
  rw [Option.bind_some,D8,bv4]
  have:=ih (i+1) (n+x.2)
  unfold Y4 at this
  rw [this]
  simp only [aR5]
  rw [Int.add_assoc]
theorem bl0 {l:List TAct} {a:Int} (hl:ActsOK l):P6 l a=some (az5 (j7 l a).pd):=by
 unfold P6
 rw [aa0 l a hl,Option.bind_some]
 simp only
 refine ao0 fun L hL=>?_
 have h:=bn6 L 0 0
 rw [show w64 0=0 from rfl,Int.zero_add,bd8 hL] at h
 rw [h,Option.bind_some,D5,bh8]
 unfold az5
 split <;> rfl
theorem aS4 (n:Int):M8 n=some (bif an7 n then 0 else 1):=by
 unfold M8
 rw [bq7,Option.bind_some]
 cases an7 n <;> rfl
theorem ba1 (l:List TAct) (at_:Int):R2 l at_=some (aa2 l at_):=by
 unfold R2 aa2
 rw [aG6,Option.bind_some,aS4,Option.bind_some,be3,Option.bind_some]
 unfold bb7 bb7 bb7
 by_cases h:ae6 l=0
 ·rw [h]; cases an7 at_ <;> rfl
 ·rw [show (ae6 l != 0)=true by simpa using h]
  simp [h]
theorem aY5 (s:ByteArray):R1 s=some (bif T5 s then 0 else 5):=by
 unfold R1
 rw [be0,Option.bind_some,bz2,Option.bind_some]
 cases T5 s <;> rfl
theorem bB5 (l:List TAct) (who:ByteArray) (at_:Int):U3 [aa2 l at_,bif T5 who then 0 else 5]=some (aa7 l who at_):=by
 rw [be3]
 unfold aa7 bb7 bb7 bb7
 by_cases h:aa2 l at_=0
 ·rw [h]; cases T5 who <;> rfl
 ·rw [show (aa2 l at_ != 0)=true by simpa using h]
  simp [h]
theorem bj6:P8=some true:=by
 unfold P8
 rw [show N5 [(TAct.mk (ByteArray.mk [97].toArray) 1 0 1 (ByteArray.mk [97,110,110].toArray) ByteArray.empty 0 false ByteArray.empty 0)] 0=some ([bk6],0) from bt0,Option.bind_some]
 show ifB ((0:Int)==0) ((x6 [bk6] [bk6]).bind fun y5=>some y5) (some false)=some true
 rw [aU1]; rfl
def aL2 (x:List TAct) (m a:Int):Int:=bif aa2 x a != 0 then aa2 x a else bif decide (m<1∨m>1000000000) then 1 else 0
theorem ba6 (x:List TAct) (m a:Int) (hg:aa2 x a=0→GoodB a (j7 x a)):ac6 x m a=some (if aL2 x m a=0 then aq4 a m (j7 x a) else ([],aL2 x m a)):=by
 unfold ac6 aL2
 rw [ag3,Option.bind_some]
 have hout:D3 m 1 1000000000=some (decide (m<1∨m>1000000000)):=by
  unfold D3
  by_cases h1:m<1
  ·rw [decide_eq_true h1,j9,decide_eq_true (.inl h1)]
  ·rw [decide_eq_false h1,j4]; congr 1; simp [h1]
 by_cases h:aa2 x a=0
 ·simp only [if_pos h,K4,show (aa2 x a != 0)=false by simpa using h,cond_false]
  rw [show ((0:Int) != 0)=false from rfl,j4,hout,Option.bind_some]
  by_cases hb:m<1∨m>1000000000
  ·rw [decide_eq_true hb,j9,cond_true,if_neg (by decide)]
  ·rw [decide_eq_false hb,j4,cond_false,if_pos rfl]
   unfold ba0
   simp only
   rw [bs7 (hg h) (by omega)]; rfl
 ·simp only [if_neg h,ad4,show (aa2 x a != 0)=true by simpa using h,cond_true,j9]
theorem bM9 {x:List TAct} {a:Int} (hw:∀ y∈x,y.Who∈ax1) (h:aa2 x a=0):GoodB a (j7 x a):=by
 obtain ⟨hok,hat⟩:=ay9 h
 have ha:0≤a∧a≤345686399999:=by
  unfold an7 at hat
  have:=of_decide_eq_true hat
  omega
 exact ⟨bu9 x a hok hw ha.1,(am3 x a hok.len).2,ha.1,ha.2⟩
end Go.G
