/- Plain laws of the models; no condition beyond what each theorem says. -/
import Derived.Test.YtlkpfhdlfapfhadGreatDoorLT1
import Derived.Test.YtlkpfhdlfapfhadGreatDoorLCo2
import Derived.Lib.ItoaLen
/- LTd: LT2 without what LCs has;  words, lines, texts cut and joined: what the models of the library and of both sides give. In plain Lean, no program in sight. -/
namespace Go.G
open Go Go.J
set_option linter.unusedSimpArgs false
set_option linter.unusedVariables false
set_option linter.unusedSectionVars false
theorem aG4 {a b:ByteArray} (h:a.data.toList=b.data.toList):a=b:=by rw [← aM2 a,← aM2 b,h]
theorem bR9 (a b:ByteArray):(a.toList==b.toList)=decide (a.data.toList=b.data.toList):=by
 rw [ByteArray.toList_eq,ByteArray.toList_eq,Bool.eq_iff_iff]; simp
theorem bJ2 (a:ByteArray):(a.toList==ByteArray.empty.toList)=decide (a.data.toList=[]):=bR9 a ByteArray.empty
theorem ad2 (a b:ByteArray):(a++b).data.toList=a.data.toList++b.data.toList:=by simp
theorem bG8 (s:ByteArray) (a b:Nat):(s.extract a b).data.toList=(s.data.toList.drop a).take (b - a):=by
 rw [ByteArray.data_extract,Array.toList_extract]
theorem bw1 {s:ByteArray} {a b:Nat} (h:a≤b) (hb:b≤s.data.toList.length):az1 s (a:Int) (b:Int)=some (toB ((s.data.toList.drop a).take (b - a))):=by
 unfold az1
 rw [if_pos ⟨by omega,by omega,by rw [N6]; omega⟩]
 congr 1
 refine aG4 ?_
 rw [Int.toNat_natCast,Int.toNat_natCast,bG8]; rfl
theorem bc8 {s:ByteArray} {a b:BL} (h:s.data.toList=a++b):az1 s (a.length:Int) (s.size:Int)=some (toB b):=by
 have hl:s.size=s.data.toList.length:=N6 s
 rw [hl,bw1 (by rw [h]; simp) (Nat.le_refl _),h]
 congr 2
 simp
theorem bw0 {s:ByteArray} {a b:BL} (h:s.data.toList=a++b):az1 s 0 (a.length:Int)=some (toB a):=by
 have:=bw1 (s:=s) (a:=0) (b:=a.length) (Nat.zero_le _) (by rw [h]; simp)
 rw [show ((0:Nat):Int)=0 from rfl] at this
 rw [this,h]
 congr 2
 simp
abbrev aQ8 (c:UInt8):ByteArray:=ByteArray.mk [c].toArray
theorem ba4 (c:UInt8) (s:ByteArray) (h:s.size<4294967281):E6 s (aQ8 c)=some ((spl c s.data.toList).map toB):=by
 unfold E6
 rw [if_pos ⟨h,by show 1≤(ByteArray.mk [c].toArray).size; exact Nat.le_refl _⟩]
 exact congrArg some (bm2 c s)
theorem bB3 (c:UInt8) (L:List ByteArray):Lib.join (L.map (·.data.toList)) (aQ8 c).data.toList=jn c (L.map (·.data.toList)):=bw9 c _
theorem bf2 (c:UInt8) (L:List ByteArray) (h:L.length≤1000000) (hl:(jn c (L.map (·.data.toList))).length≤1000000000):af2 L (aQ8 c)=some (toB (jn c (L.map (·.data.toList)))):=by
 unfold af2
 rw [bB3,if_pos ⟨by omega,by omega⟩]; rfl
theorem aO3 (c:UInt8):∀ (a r:BL),c∉a→Lib.indexByte (a++c::r) c=(a.length:Int)
 | [],r,_=>by simp [Lib.indexByte]
 | x::a,r,h=>by
  have hx:(x==c)=false:=by
   rw [beq_eq_false_iff_ne]
   exact fun e=>h (by rw [e]; exact List.mem_cons_self ..)
  have ih:=aO3 c a r fun hm=>h (List.mem_cons_of_mem _ hm)
  rw [List.cons_append,Lib.indexByte,hx,ih]
  simp
theorem am4 (c:UInt8) (s:ByteArray) (hs:s.size≤4000000000):E8 s (aQ8 c)=some (decide (s.data.toList.getLast? = some c)):=by
  unfold E8
  rw [show (((aQ8 c).size:Nat):Int)=1 from rfl]
  by_cases h0:s.data.toList=[]
  · have:s.size=0:=by rw [N6,h0]; rfl
    rw [this,h0]; rfl
  · have hdl:=List.dropLast_concat_getLast h0
    have hl:s.size=s.data.toList.dropLast.length+1:=by rw [N6]; exact (congrArg List.length hdl).symm.trans (by rw [List.length_append]; rfl)
    have h1:=bc8 (s:=s) (a:=s.data.toList.dropLast) (b:=[s.data.toList.getLast h0]) hdl.symm
    rw [decide_eq_true (by omega),j9,A0 (by omega),show (s.size:Int) - 1=(s.data.toList.dropLast.length:Int) by omega,h1,Option.bind_some,List.getLast?_eq_some_getLast h0,bR9]
    congr 1
    rw [Y2,Bool.eq_iff_iff]
    simp
theorem bc3 {c:UInt8} {s:ByteArray} {a:BL} (h:s.data.toList=a++[c]) (hs:s.size≤4000000000):K1 s (aQ8 c)=some (toB a,true):=by
 unfold K1 L6
 have hl:s.size=a.length+1:=by rw [N6,h]; simp
 rw [am4 c s hs,h,decide_eq_true (by simp),Option.bind_some,Bool.not_true,j4,show (((aQ8 c).size:Nat):Int)=1 from rfl,A0 (by omega),show (s.size:Int) - 1=(a.length:Int) by omega,bw0 h]; rfl
theorem ba8 {c:UInt8} {s:ByteArray} (h:s.data.toList.getLast? ≠ some c) (hs:s.size≤4000000000):K1 s (aQ8 c)=some (s,false):=by
 unfold K1 L6
 rw [am4 c s hs,decide_eq_false h]; rfl
theorem bm4 (c:UInt8) (s:BL) (h0:s≠[]) (h:s.getLast? ≠ some c):∃ P l,spl c s=P++[l]∧l≠[]:=by
 induction s with
 | nil=>exact (h0 rfl).elim
 | cons b t ih =>
  cases t with
  | nil =>
   have hb:b≠c:=fun e=>h (by rw [e]; rfl)
   exact ⟨[],[b],by simp [spl,hb],by simp⟩
  | cons d u =>
   obtain ⟨P,l,h1,h2⟩:=ih (by simp) (by simpa using h)
   rw [spl,h1]
   by_cases hb:b=c
   ·rw [if_pos hb]; exact ⟨[]::P,l,rfl,h2⟩
   ·rw [if_neg hb]
    cases P with
    | nil=>exact ⟨[],b::l,rfl,by simp⟩
    | cons q Q=>exact ⟨(b::q)::Q,l,rfl,h2⟩
def aH2 (s:BL):List BL:=(spl 10 s).dropLast
def aF9 (s:BL):BL:=(spl 10 s).getLast (br4 10 s)
theorem aT5 (s:BL):spl 10 s=aH2 s++[aF9 s]:=(List.dropLast_concat_getLast (br4 10 s)).symm
theorem bb6 (t:ByteArray) (ht:t.size≤4000000000):ap4 t=some (if t.data.toList=[] then ([],true) else if aF9 t.data.toList=[] then ((aH2 t.data.toList).map toB,true) else ((aH2 t.data.toList++[aF9 t.data.toList]).map toB,false)):=by
 unfold ap4
 rw [bJ2]
 by_cases h0:t.data.toList=[]
 ·rw [decide_eq_true h0,if_pos h0]; rfl
 ·rw [decide_eq_false h0,j4,if_neg h0,show (ByteArray.mk [10].toArray)=aQ8 10 from rfl]
  by_cases hl:t.data.toList.getLast? = some 10
  ·obtain ⟨a,ha⟩:∃ a,t.data.toList=a++[10]:=by
    refine ⟨t.data.toList.dropLast,?_⟩
    have:=List.dropLast_concat_getLast h0
    rw [List.getLast?_eq_some_getLast h0] at hl
    rw [← this]
    simp [Option.some.inj hl]
   have hsz:(toB a).size≤t.size:=by rw [ap2,N6,ha]; simp
   have hs:spl 10 t.data.toList=spl 10 a++[[]]:=by rw [ha]; exact bK9 10 a
   have e1:aH2 t.data.toList=spl 10 a:=by unfold aH2; rw [hs]; simp
   have e2:aF9 t.data.toList=[]:=by unfold aF9; simp only [hs]; simp
   have hsz':(toB a).size<4294967281:=by omega
   rw [bc3 ha ht,Option.bind_some,ba4 10 _ hsz',if_pos e2,e1,Y2]; rfl
  ·obtain ⟨P,l,h1,h2⟩:=bm4 10 t.data.toList h0 hl
   have e2:aF9 t.data.toList≠[]:=by unfold aF9; simp only [h1]; simpa using h2
   have ht':t.size<4294967281:=by omega
   rw [ba8 hl ht,Option.bind_some,ba4 10 _ ht',if_neg e2,← aT5]; rfl
end Go.G

/- LCo3: one order of the console, as the reference answers it. In plain Lean, no program in sight. -/
namespace Go.G
open Go Go.J
set_option linter.unusedSimpArgs false
set_option linter.unusedVariables false
set_option linter.unusedSectionVars false
def nlB:ByteArray:=ByteArray.mk [10].toArray
def outD (ls:List ByteArray):BL:=ls.flatMap fun s=>s.data.toList++[10]
def az8 (ls:List ByteArray):ByteArray:=toB (outD ls)
theorem aN2:az8 []=ByteArray.empty:=rfl
theorem ax5 (s:ByteArray) (ls:List ByteArray):az8 (s::ls)=(s++nlB)++az8 ls:=by
 refine aG4 ?_
 rw [ad2,ad2]
 unfold az8 outD
 rw [Y2,Y2,List.flatMap_cons]; rfl
theorem aQ7:∀ (ls:List ByteArray),(∀ s∈ls,s.size≤100)→(az8 ls).size≤101*ls.length
 | [],_=>Nat.zero_le _
 | s::t,h=>by
  have:=aQ7 t fun x hx=>h x (List.mem_cons_of_mem _ hx)
  have h1:=h s (List.mem_cons_self ..)
  rw [ax5,A9,A9,show nlB.size=1 from rfl,List.length_cons]
  omega
theorem bJ3 (a b c:ByteArray):(a++b)++c=a++(b++c):=by
 refine aG4 ?_
 rw [ad2,ad2,ad2,ad2,List.append_assoc]
theorem aW3 (a:ByteArray):a++ByteArray.empty=a:=by
 refine aG4 ?_
 rw [ad2]; exact List.append_nil _
theorem bz0 (a:ByteArray):ByteArray.empty++a=a:=by
 refine aG4 ?_
 rw [ad2]; rfl
theorem aA7 {α β : Type} (f : α → ByteArray) (step:Nat → α → ByteArray→Option (Flow ByteArray β)) (hs:∀ i x u,(f x).size≤100→u.size≤20000000→step i x u=some (.nxt (u++(f x++nlB)))):∀ (L:List α) (i:Nat) (u:ByteArray),(∀ x∈L,(f x).size≤100)→u.size+101*L.length≤20000000→l8 step i L u=some (.brk (u++az8 (L.map f)))
 | [],i,u,_,_=>by rw [br7,List.map_nil,aN2,aW3]
 | x::t,i,u,hx,hu=>by
  have h1:=hx x (List.mem_cons_self ..)
  rw [List.length_cons] at hu
  rw [o5,hs i x u h1 (by omega),Option.bind_some,D8,aA7 f step hs t (i+1) _ (fun y hy=>hx y (List.mem_cons_of_mem _ hy)) (by rw [A9,A9,show nlB.size=1 from rfl]; omega),List.map_cons,ax5,bJ3]
theorem bo7 (x:ByteArray) (h:x.size≤1000):I4 [x]=some (x++nlB):=by
 unfold I4
 rw [show (ByteArray.mk [32].toArray)=aQ8 32 from rfl,bf2 32 [x] (by simp) (by show (x.data.toList).length≤_; rw [← N6]; omega),Option.bind_some]
 rw [show toB (jn 32 ([x].map (·.data.toList)))=x from aM2 x,E4 (by rw [show (ByteArray.mk [10].toArray).size=1 from rfl]; omega)]; rfl
theorem aZ0 (x y:ByteArray) (h:x.size≤1000) (h2:y.size≤1000):I4 [x,y]=some (((x++spB)++y)++nlB):=by
 have e:toB (jn 32 ([x,y].map (·.data.toList)))=(x++spB)++y:=by
  refine aG4 ?_
  rw [Y2,ad2,ad2]
  show x.data.toList++32::y.data.toList=_
  rw [List.append_assoc]; rfl
 unfold I4
 rw [show (ByteArray.mk [32].toArray)=aQ8 32 from rfl,bf2 32 [x,y] (by simp) (by show (x.data.toList++32::y.data.toList).length≤_; rw [List.length_append,List.length_cons,← N6,← N6]; omega),Option.bind_some]
 rw [e,E4 (by rw [A9,A9,show spB.size=1 from rfl,show (ByteArray.mk [10].toArray).size=1 from rfl]; omega)]; rfl
theorem aq7 (ls:List ByteArray) (h:ls.length≤2002) (hs:∀ s∈ls,s.size≤100):N4 ls=some (az8 ls):=by
 unfold N4
 rw [aA7 (fun x:ByteArray=>x) aq6 (fun i x u hx hu=>by
  unfold aq6
  have hx:x.size≤100:=hx
  rw [bo7 x (by omega),Option.bind_some,E4 (by rw [A9,show nlB.size=1 from rfl]; omega)]; rfl) ls 0 _ hs (by rw [show ByteArray.empty.size=0 from rfl]; omega),Option.bind_some,D5,bz0,List.map_id']
def bV4 (e:Int):ByteArray:=ByteArray.mk [101,114,114,111,114,32].toArray++⟨(Lib.itoa e).toArray⟩
def aV0 (e:Int) (ls:List ByteArray):List ByteArray:=if e=0 then ls else [bV4 e]
theorem be4 {e:Int} (h:0≤e∧e≤20):(bV4 e).size≤30:=by
 have:=aa3 (n:=e) (by omega)
 unfold bV4
 rw [A9,show (ByteArray.mk [101,114,114,111,114,32].toArray).size=6 from rfl]; omega
theorem bX5 (o:ByteArray) (ls:List ByteArray) (e t:Int) (h:0≤e∧e≤20) (ho:e=0→o=az8 ls) :
  (ifB (e != 0) ((l2 e).bind fun y7=>(I4 [(ByteArray.mk [101,114,114,111,114].toArray),y7]).bind fun y9=>some (y9,t)) (some (o,t)):Option (ByteArray × Int))=some (az8 (aV0 e ls),t):=by
 unfold aV0
 by_cases h0:e=0
 ·rw [show (e != 0)=false by simpa using h0,j4,if_pos h0,ho h0]
 ·have hz:=aa3 (n:=e) (by omega)
  rw [show (e != 0)=true by simpa using h0,j9,if_neg h0,W4 (by omega),Option.bind_some,aZ0 _ _ (by decide) (by omega),Option.bind_some,ax5,aN2,aW3]
  rfl
theorem bw8 (ls:List ByteArray) (out:ByteArray) (hl:ls.length≤2002) (hs:∀ s∈ls,s.size≤100) (ho:out.size≤10000000):l8 H8 0 ls out=some (.brk (out++az8 ls)):=by
 rw [aA7 (fun x:ByteArray=>x) H8 (fun i x u hx hu=>by
  unfold H8
  have hx:x.size≤100:=hx
  rw [E4 (by rw [show (ByteArray.mk [10].toArray).size=1 from rfl]; omega),Option.bind_some,E4 (by rw [A9,show (ByteArray.mk [10].toArray).size=1 from rfl]; omega)]; rfl) _ 0 _ hs (by omega),List.map_id']
theorem bX4 (out:ByteArray) (ls:List ByteArray) (e t:Int) (h:0≤e∧e≤20) (hl:ls.length≤2002) (hs:∀ s∈ls,s.size≤100) (ho:out.size≤10000000) :
  ((ifB (e != 0) ((l2 e).bind fun y41=>(F8 (ByteArray.mk [101,114,114,111,114,32].toArray) y41).bind fun c42=>some (.inl [c42])) (some (.inl ls)):Option ((List ByteArray) ⊕ (Flow (ByteArray × Int) (ByteArray × Int)))).bind fun k40=>Sum.fin k40 fun u37=>(l8 H8 0 u37 out).bind fun f50=>Flow.fin f50 fun u47=>some (.nxt (u47,t)))=some (.nxt (out++az8 (aV0 e ls),t)):=by
 have hm:(ifB (e != 0) ((l2 e).bind fun y41=>(F8 (ByteArray.mk [101,114,114,111,114,32].toArray) y41).bind fun c42=>some (.inl [c42])) (some (.inl ls)):Option ((List ByteArray) ⊕ (Flow (ByteArray × Int) (ByteArray × Int))))=some (.inl (aV0 e ls)):=by
  unfold aV0
  by_cases h0:e=0
  ·rw [show (e != 0)=false by simpa using h0,j4,if_pos h0]
  ·have hz:=aa3 (n:=e) (by omega)
   rw [show (e != 0)=true by simpa using h0,j9,if_neg h0,W4 (by omega),Option.bind_some,E4 (by rw [show (ByteArray.mk [101,114,114,111,114,32].toArray).size=6 from rfl]; omega)]; rfl
 have hf:(aV0 e ls).length≤2002∧∀ s∈aV0 e ls,s.size≤100:=by
  unfold aV0
  split
  ·exact ⟨hl,hs⟩
  ·exact ⟨by simp,fun s hs=>by rw [List.mem_singleton.1 hs]; have:=be4 h; omega⟩
 rw [hm,Option.bind_some,C9,bw8 _ out hf.1 hf.2 ho,Option.bind_some,D5]
def K8 (l:List TAct) (w:BL):Prop:=∀ t,an7 t=true→∃ o t',N9 l t (toB w)=some (o,t')∧an7 t'=true∧o.size≤300000∧∀ i out,out.size≤10000000→L7 l i (toB (w++[10])) (out,t)=some (.nxt (out++o,t'))
theorem ac7 {l:List TAct} {w:BL} (s:ByteArray) (f:Int→Int) (hf:∀ t,an7 t=true→an7 (f t)=true) (hs:s.size≤30) (h1:∀ t,N9 l t (toB w)=some (az8 [s],f t)) (h2:∀ t i out,L7 l i (toB (w++[10])) (out,t)=(l8 H8 0 [s] out).bind fun f50=>Flow.fin f50 fun u47=>some (.nxt (u47,f t))):K8 l w:=by
 intro t ht
 have hs1:∀ x∈[s],x.size≤100:=fun x hx=>by rw [List.mem_singleton.1 hx]; omega
 refine ⟨az8 [s],f t,h1 t,hf t ht,by have:=aQ7 _ hs1; simp at this; omega,fun i out ho=>?_⟩
 rw [h2,bw8 [s] out (by simp) hs1 ho]; rfl
theorem ao1 {l:List TAct} {w:BL} (ws:List ByteArray) (hw:af3 (toB w)=some (ws,true)) (hsp:((I2 (toB (w++[10])) (ByteArray.mk [10].toArray)).bind fun y20=>E6 y20 (ByteArray.mk [32].toArray))=some ws)
  (hc:(ifB ((ws.length:Int)==2) ((v8 ws 0).bind fun e28=>some (.inl (e28.toList==(ByteArray.mk [97,116].toArray).toList))) (some (.inl false)):Option (Bool ⊕ (Flow (ByteArray × Int) (ByteArray × Int))))=some (.inl false))
  (h:∀ t,an7 t=true→∃ o ls e,p9 l t ws=some (o,e,t)∧E0 l ws t=some (ls,e)∧(e=0→o=az8 ls)∧0≤e∧e≤20∧ls.length≤2002∧∀ s∈ls,s.size≤100):K8 l w:=by
 intro t ht
 obtain ⟨o,ls,e,h1,h2,h3,h4,h5,h6,h7⟩:=h t ht
 have hf:(aV0 e ls).length≤2002∧∀ s∈aV0 e ls,s.size≤100:=by
  unfold aV0
  split
  ·exact ⟨h6,h7⟩
  ·exact ⟨by simp,fun s hs=>by rw [List.mem_singleton.1 hs]; have:=be4 ⟨h4,h5⟩; omega⟩
 refine ⟨az8 (aV0 e ls),t,?_,ht,by have:=aQ7 _ hf.2; omega,fun i out ho=>?_⟩
 ·unfold N9
  rw [hw,Option.bind_some]
  simp only
  rw [j9,h1,Option.bind_some,Option.bind_some,C9]
  simp only
  exact bX5 o ls e t ⟨h4,h5⟩ h3
 ·unfold L7
  obtain ⟨y,hy1,hy2⟩:=Option.bind_eq_some_iff.1 hsp
  rw [hy1,Option.bind_some,hy2,Option.bind_some]
  simp only
  rw [h2,Option.bind_some,hc,Option.bind_some,C9,j4,Option.bind_some,C9]
  simp only
  exact bX4 out ls e t ⟨h4,h5⟩ h6 h7 ho
end Go.G

/- LCo4: every order of the console. In plain Lean, no program in sight. -/
namespace Go.G
open Go Go.J
set_option linter.unusedSimpArgs false
set_option linter.unusedVariables false
set_option linter.unusedSectionVars false
def e9B:ByteArray:=ByteArray.mk [101,114,114,111,114,32,57].toArray
def e1B:ByteArray:=ByteArray.mk [101,114,114,111,114,32,49].toArray
def okB:ByteArray:=ByteArray.mk [111,107].toArray
theorem bT1 (l:List TAct):K8 l [104,101,121]:=ac7 e9B (fun t=>t) (fun _ h=>h) (by decide) (fun t=>by kernel_rfl) (fun t i out=>by kernel_rfl)
theorem bz8 (l:List TAct):K8 l [112,117,114,115,101,32,49]:=ac7 e9B (fun t=>t) (fun _ h=>h) (by decide) (fun t=>by kernel_rfl) (fun t i out=>by kernel_rfl)
theorem bK7 (l:List TAct):K8 l []:=ac7 e9B (fun t=>t) (fun _ h=>h) (by decide) (fun t=>by kernel_rfl) (fun t i out=>by kernel_rfl)
theorem bT6 (l:List TAct):K8 l [97,116,32,32,53]:=ac7 e9B (fun t=>t) (fun _ h=>h) (by decide) (fun t=>by kernel_rfl) (fun t i out=>by kernel_rfl)
theorem bS7 (l:List TAct):K8 l [111,119,105,110,103,32,120]:=ac7 e9B (fun t=>t) (fun _ h=>h) (by decide) (fun t=>by kernel_rfl) (fun t i out=>by kernel_rfl)
theorem bT3 (l:List TAct):K8 l [97,116,32,120]:=ac7 e9B (fun t=>t) (fun _ h=>h) (by decide) (fun t=>by kernel_rfl) (fun t i out=>by kernel_rfl)
theorem bD8 (l:List TAct):K8 l [118,111,116,101,32,104,97,116,115,32,49]:=ac7 e9B (fun t=>t) (fun _ h=>h) (by decide) (fun t=>by kernel_rfl) (fun t i out=>by kernel_rfl)
theorem bT8 (l:List TAct):K8 l [97,116,32,48]:=ac7 okB (fun t=>0) (fun _ h=>by kernel_rfl) (by decide) (fun t=>by kernel_rfl) (fun t i out=>by kernel_rfl)
theorem bK8 (l:List TAct):K8 l [97,116,32,52,48]:=ac7 okB (fun t=>40) (fun _ h=>by kernel_rfl) (by decide) (fun t=>by kernel_rfl) (fun t i out=>by kernel_rfl)
theorem bT7 (l:List TAct):K8 l [97,116,32,50,53,57,50,48,48,48,48,48,48]:=ac7 okB (fun t=>2592000000) (fun _ h=>by kernel_rfl) (by decide) (fun t=>by kernel_rfl) (fun t i out=>by kernel_rfl)
theorem bT5 (l:List TAct):K8 l [97,116,32,57,48,48,48,48,48,48,48,48,48]:=ac7 okB (fun t=>9000000000) (fun _ h=>by kernel_rfl) (by decide) (fun t=>by kernel_rfl) (fun t i out=>by kernel_rfl)
theorem bT4 (l:List TAct):K8 l [97,116,32,45,49]:=ac7 e1B (fun t=>t) (fun _ h=>h) (by decide) (fun t=>by kernel_rfl) (fun t i out=>by kernel_rfl)
section
variable {l:List TAct} (hl:ActsOK l) (hw:∀ y∈l,y.Who∈ax1)
include hl hw
theorem be2 {t:Int} (ht:an7 t=true):GoodB t (j7 l t):=bM9 hw (aj2 hl ht)
theorem bF5 {t:Int} (ht:an7 t=true) {k:ByteArray} (h:k∈(j7 l t).st.map Prod.fst):k.size≤3:=by
 obtain ⟨p,hp,rfl⟩:=List.mem_map.1 h
 have:=(be2 hl hw ht).p.sm p hp
 simp only [aX1,List.mem_cons,List.not_mem_nil,or_false] at this
 rcases this with h | h | h <;> (rw [h]; decide)
theorem br2:K8 l [109,101,109,98,101,114,115]:=ao1 [ByteArray.mk [109,101,109,98,101,114,115].toArray] (by kernel_rfl) (by kernel_rfl) (by kernel_rfl) fun t ht=>by
 have hk:=aj2 hl ht
 have hg:=be2 hl hw ht
 have hsl:=bf7 hg
 have hrow:=fun k=>hg.b.rows (by omega) k
 have h1:(H7 (j7 l t).st).length≤2002:=by
  unfold H7
  refine Nat.le_trans (List.length_filter_le ..) ?_
  rw [an0,List.length_map]; omega
 have h2:∀ s∈H7 (j7 l t).st,s.size≤100:=fun s hs=>by
  have:=bF5 hl hw ht ((aX3 _).subset (List.mem_filter.1 hs).1)
  omega
 refine ⟨az8 (H7 (j7 l t).st),H7 (j7 l t).st,0,?_,?_,fun _=>rfl,by omega,by omega,h1,h2⟩
 ·rw [show p9 l t [ByteArray.mk [109,101,109,98,101,114,115].toArray]=(N5 l t).bind fun y11=>(N4 y11.1).bind fun y13=>some (y13,y11.2,t) by kernel_rfl]
  rw [aQ0,if_pos hk,Option.bind_some]
  simp only
  rw [aq7 _ h1 h2]; rfl
 ·rw [show E0 l [ByteArray.mk [109,101,109,98,101,114,115].toArray] t=(R0 l t).bind fun y6=>some (y6,0) by kernel_rfl]
  unfold R0
  rw [aa0 l t hl,Option.bind_some]
  simp only
  rw [aF7 _ _ _ _ hrow (by omega)]; rfl
theorem bK6:K8 l [111,112,101,110]:=ao1 [ByteArray.mk [111,112,101,110].toArray] (by kernel_rfl) (by kernel_rfl) (by kernel_rfl) fun t ht=>by
 have hk:=aj2 hl ht
 have hi:=be9 l t hl
 have hmo:=bh2 l t hl.len
 have h1:((ae1 ((j7 l t).mo.map Prod.fst)).filter (O0 (j7 l t).mo)).length≤2002:=by
  refine Nat.le_trans (List.length_filter_le ..) ?_
  rw [an0,List.length_map]; omega
 have h2:∀ s∈(ae1 ((j7 l t).mo.map Prod.fst)).filter (O0 (j7 l t).mo),s.size≤100:=fun s hs=>by
  obtain ⟨p,hp,rfl⟩:=List.mem_map.1 ((aX3 _).subset (List.mem_filter.1 hs).1)
  have:=hi.mo p hp
  omega
 refine ⟨az8 ((ae1 ((j7 l t).mo.map Prod.fst)).filter (O0 (j7 l t).mo)),(ae1 ((j7 l t).mo.map Prod.fst)).filter (O0 (j7 l t).mo),0,?_,?_,fun _=>rfl,by omega,by omega,h1,h2⟩
 ·rw [show p9 l t [ByteArray.mk [111,112,101,110].toArray]=(ak6 l t).bind fun y34=>(N4 y34.1).bind fun y36=>some (y36,y34.2,t) by kernel_rfl]
  rw [bD0,if_pos hk,Option.bind_some]
  simp only
  rw [aq7 _ h1 h2]; rfl
 ·rw [show E0 l [ByteArray.mk [111,112,101,110].toArray] t=(M7 l t).bind fun y12=>some (y12,0) by kernel_rfl]
  rw [aG5 hl]; rfl
theorem bD9:K8 l [112,117,114,115,101]:=ao1 [ByteArray.mk [112,117,114,115,101].toArray] (by kernel_rfl) (by kernel_rfl) (by kernel_rfl) fun t ht=>by
 have hk:=aj2 hl ht
 obtain ⟨n,e,hp,hn,he⟩:∃ n e,az5 (j7 l t).pd=(n,e)∧(-9223372036854775808≤n∧n≤9223372036854775807)∧0≤e∧e≤20:=by
  unfold az5
  split
  ·exact ⟨_,_,rfl,by omega,by omega,by omega⟩
  ·refine ⟨_,_,rfl,?_,by omega,by omega⟩
   exact bK2 _
 have hz:=aa3 hn
 refine ⟨(⟨(Lib.itoa n).toArray⟩:ByteArray)++nlB,[⟨(Lib.itoa n).toArray⟩],e,?_,?_,fun _=>?_,he.1,he.2,by simp,fun s hs=>by rw [List.mem_singleton.1 hs]; omega⟩
 ·rw [show p9 l t [ByteArray.mk [112,117,114,115,101].toArray]=(ag9 l t).bind fun y26=>(l2 y26.1).bind fun y27=>(I4 [y27]).bind fun y29=>some (y29,y26.2,t) by kernel_rfl]
  rw [bv1,if_pos hk,Option.bind_some,hp]
  simp only
  rw [W4 hn,Option.bind_some,bo7 _ (by omega)]; rfl
 ·rw [show E0 l [ByteArray.mk [112,117,114,115,101].toArray] t=(P6 l t).bind fun y18=>(l2 y18.1).bind fun y19=>some ([y19],y18.2) by kernel_rfl]
  rw [bl0 hl,Option.bind_some,hp]
  simp only
  rw [W4 hn]; rfl
 ·rw [ax5,aN2,aW3]
def aN0 (p:TPair):ByteArray:=(p.Name++spB)++p.Value
theorem bL5 {t m:Int} (ht:an7 t=true) (hm:1≤m):(aq4 t m (j7 l t)).1.length≤3∧(∀ p∈(aq4 t m (j7 l t)).1,p.Name.size≤3∧p.Value.size≤21)∧0≤(aq4 t m (j7 l t)).2∧(aq4 t m (j7 l t)).2≤20:=by
 have hg:=be2 hl hw ht
 have hsl:=bf7 hg
 unfold aq4
 split
 ·refine ⟨?_,?_,by simp only; omega,by simp only; omega⟩
  ·simp only
   unfold aY0
   rw [List.length_map,(aB3 _).length_eq]
   refine Nat.le_trans (List.length_filterMap_le ..) ?_
   rw [List.length_map]; omega
  ·intro p hp
   simp only at hp
   unfold aY0 at hp
   obtain ⟨x,hx,rfl⟩:=List.mem_map.1 hp
   have hx':=(aB3 _).subset hx
   obtain ⟨k,hk,hd⟩:=List.mem_filterMap.1 hx'
   have hr:=aZ7 hg hm x hx'
   obtain ⟨rfl,-⟩:=aG2 hd
   exact ⟨bF5 hl hw ht hk,aa3 (by simp only at hr ⊢; omega)⟩
 ·exact ⟨by simp,by simp,by simp only; omega,by simp only; omega⟩
end
theorem bs4 (ps:List TPair) (hl:ps.length≤3) (hs:∀ p∈ps,p.Name.size≤3∧p.Value.size≤21):N8 ps []=some (ps.map aN0):=by
 unfold N8
 obtain ⟨u,h1,h2⟩:=Q8 ac4 ps (fun i u=>u=(ps.take i).map aN0) (by
  rintro i x u hx rfl
  have hil:=(List.getElem?_eq_some_iff.1 hx).1
  have:=hs x (List.mem_of_getElem? hx)
  unfold ac4
  have h1:(ByteArray.mk [32].toArray).size=1:=rfl
  rw [E4 (by omega),Option.bind_some,E4 (by rw [A9]; omega),Option.bind_some,Q7 (by simp; omega) (by omega),Option.bind_some]
  refine ⟨_,rfl,?_⟩
  rw [List.take_add_one,hx,List.map_append]; rfl) [] rfl
 rw [h1,Option.bind_some,D5,h2,List.take_length]
theorem bs3 (ps:List TPair) (hl:ps.length≤3) (hs:∀ p∈ps,p.Name.size≤3∧p.Value.size≤21):l8 H9 0 ps ByteArray.empty=some (.brk (az8 (ps.map aN0))):=by
 have hp:∀ p∈ps,(aN0 p).size≤100:=fun p h=>by
  have:=hs p h
  unfold aN0
  rw [A9,A9,show spB.size=1 from rfl]; omega
 rw [aA7 aN0 H9 (fun i x u hx hu=>by
  unfold H9
  unfold aN0 at hx
  rw [A9,A9,show spB.size=1 from rfl] at hx
  rw [aZ0 _ _ (by omega) (by omega),Option.bind_some,E4 (by rw [A9,A9,A9,show nlB.size=1 from rfl,show spB.size=1 from rfl]; omega)]; rfl) ps 0 _ hp (by rw [show ByteArray.empty.size=0 from rfl]; omega),bz0]
section
variable {l:List TAct} (hl:ActsOK l) (hw:∀ y∈l,y.Who∈ax1)
include hl hw
theorem bw6 {w:BL} (m:Int) (hm:1≤m∧m≤1000000000) (v:ByteArray) (h1:af3 (toB w)=some ([ByteArray.mk [111,119,105,110,103].toArray,v],true))
  (h2:((I2 (toB (w++[10])) (ByteArray.mk [10].toArray)).bind fun y20=>E6 y20 (ByteArray.mk [32].toArray))=some [ByteArray.mk [111,119,105,110,103].toArray,v])
  (h3:∀ t,p9 l t [ByteArray.mk [111,119,105,110,103].toArray,v]=((ac6 l m t).bind fun y5=>(l8 H9 0 y5.1 ByteArray.empty).bind fun f13=>Flow.fin f13 fun u10=>some (u10,y5.2)).bind fun y21=>some (y21.1,y21.2,t))
  (h4:∀ t,E0 l [ByteArray.mk [111,119,105,110,103].toArray,v] t=(P7 l m t).bind fun y30=>(N8 y30.1 []).bind fun y33=>some (y33,y30.2)):K8 l w:=ao1 _ h1 h2 (by kernel_rfl) fun t ht=>by
 have hk:=aj2 hl ht
 have hg:=be2 hl hw ht
 obtain ⟨g1,g2,g3,g4⟩:=bL5 hl hw ht hm.1
 have hlf:aL2 l m t=0:=by
  unfold aL2
  rw [hk,decide_eq_false (by omega)]; rfl
 refine ⟨_,(aq4 t m (j7 l t)).1.map aN0,(aq4 t m (j7 l t)).2,?_,?_,fun _=>rfl,g3,g4,by rw [List.length_map]; omega,fun s hs=>?_⟩
 ·rw [h3,ba6 l m t fun _=>hg,if_pos hlf,Option.bind_some,bs3 _ g1 g2]; rfl
 ·rw [h4,bl1 hl hg hm.1,Option.bind_some,bs4 _ g1 g2]; rfl
 ·obtain ⟨p,hp,rfl⟩:=List.mem_map.1 hs
  have:=g2 p hp
  unfold aN0
  rw [A9,A9,show spB.size=1 from rfl]; omega
theorem bS9:K8 l [111,119,105,110,103,32,49]:=bw6 hl hw 1 (by omega) (ByteArray.mk [49].toArray) (by kernel_rfl) (by kernel_rfl) (fun t=>by kernel_rfl) (fun t=>by kernel_rfl)
theorem bS8:K8 l [111,119,105,110,103,32,54,48,48]:=bw6 hl hw 600 (by omega) (ByteArray.mk [54,48,48].toArray) (by kernel_rfl) (by kernel_rfl) (fun t=>by kernel_rfl) (fun t=>by kernel_rfl)
theorem bT0:K8 l [111,119,105,110,103,32,48]:=ao1 [ByteArray.mk [111,119,105,110,103].toArray,ByteArray.mk [48].toArray] (by kernel_rfl) (by kernel_rfl) (by kernel_rfl) fun t ht=>by
 have hk:=aj2 hl ht
 have hlf:aL2 l 0 t=1:=by
  unfold aL2
  rw [hk]; rfl
 refine ⟨ByteArray.empty,[],1,?_,by kernel_rfl,fun h=>absurd h (by decide),by omega,by omega,by simp,by simp⟩
 rw [show p9 l t [ByteArray.mk [111,119,105,110,103].toArray,ByteArray.mk [48].toArray]=((ac6 l 0 t).bind fun y5=>(l8 H9 0 y5.1 ByteArray.empty).bind fun f13=>Flow.fin f13 fun u10=>some (u10,y5.2)).bind fun y21=>some (y21.1,y21.2,t) by kernel_rfl]
 rw [ba6 l 0 t fun _=>be2 hl hw ht,if_neg (by rw [hlf]; decide),hlf]; rfl
theorem bf1 (t:Int) (ht:an7 t=true) (k:ByteArray) (hk:T5 k=true):∃ r e,R6 l k t=some (r,e)∧F3 l k t=some (r,e)∧r.length≤2002∧(∀ s∈r,s.size≤60)∧0≤e∧e≤20:=by
 have ha:=aj2 hl ht
 obtain ⟨r,e,h1,h2,h3⟩:=bz6 hl (be2 hl hw ht) k
 refine ⟨r,e,?_,h2,h3⟩
 unfold R6
 have hn:aa7 l k t=0:=by unfold aa7; rw [ha,hk]; rfl
 rw [an5,if_pos hn,Option.bind_some,K4]
 unfold ba0
 simp only
 rw [show ((0:Int) != 0)=false from rfl,j4,h1]; rfl
theorem bl7 {w:BL} (k:ByteArray) (hk:T5 k=true) (h1:af3 (toB w)=some ([ByteArray.mk [119,104,111].toArray,k],true))
  (h2:((I2 (toB (w++[10])) (ByteArray.mk [10].toArray)).bind fun y20=>E6 y20 (ByteArray.mk [32].toArray))=some [ByteArray.mk [119,104,111].toArray,k])
  (h4:∀ t,E0 l [ByteArray.mk [119,104,111].toArray,k] t=(F3 l k t).bind fun y43=>some (y43.1,y43.2)):K8 l w:=ao1 _ h1 h2 (by kernel_rfl) fun t ht=>by
 obtain ⟨r,e,g1,g2,g3,g4,g5,g6⟩:=bf1 hl hw t ht k hk
 have hs:∀ s∈r,s.size≤100:=fun s h=>by have:=g4 s h; omega
 refine ⟨az8 r,r,e,?_,by rw [h4,g2]; rfl,fun _=>rfl,g5,g6,g3,hs⟩
 rw [show p9 l t [ByteArray.mk [119,104,111].toArray,k]=(R6 l k t).bind fun y51=>(N4 y51.1).bind fun y53=>some (y53,y51.2,t) by kernel_rfl,g1,Option.bind_some]
 simp only
 rw [aq7 _ g3 hs]; rfl
theorem bT9:K8 l [119,104,111,32,97,110,110]:=bl7 hl hw (ByteArray.mk [97,110,110].toArray) (by kernel_rfl) (by kernel_rfl) (by kernel_rfl) (fun t=>by kernel_rfl)
theorem bT2:K8 l [119,104,111,32,98,111,98]:=bl7 hl hw (ByteArray.mk [98,111,98].toArray) (by kernel_rfl) (by kernel_rfl) (by kernel_rfl) (fun t=>by kernel_rfl)
theorem bK5:K8 l [119,104,111,32,65]:=ao1 [ByteArray.mk [119,104,111].toArray,ByteArray.mk [65].toArray] (by kernel_rfl) (by kernel_rfl) (by kernel_rfl) fun t ht=>by
 have ha:=aj2 hl ht
 refine ⟨ByteArray.empty,[],5,?_,by kernel_rfl,fun h=>absurd h (by decide),by omega,by omega,by simp,by simp⟩
 rw [show p9 l t [ByteArray.mk [119,104,111].toArray,ByteArray.mk [65].toArray]=(R6 l (ByteArray.mk [65].toArray) t).bind fun y51=>(N4 y51.1).bind fun y53=>some (y53,y51.2,t) by kernel_rfl]
 have hn:aa7 l (ByteArray.mk [65].toArray) t=5:=by unfold aa7; rw [ha]; rfl
 unfold R6
 rw [an5,if_neg (by rw [hn]; decide),hn]; rfl
end
end Go.G

/- LCo5: votes asked on the console, the texts that are made, and the law. In plain Lean, no program in sight. -/
namespace Go.G
open Go Go.J
set_option linter.unusedSimpArgs false
set_option linter.unusedVariables false
set_option linter.unusedSectionVars false
def slB:ByteArray:=ByteArray.mk [47].toArray
def aX0 (t:TTally):ByteArray:=if t.Over=false then ByteArray.mk [111,112,101,110].toArray else if t.Accepted=true then ByteArray.mk [121,101,115].toArray else ByteArray.mk [110,111].toArray
def itB (n:Int):ByteArray:=⟨(Lib.itoa n).toArray⟩
def bo2 (t:TTally):ByteArray:=(((itB t.Yes++slB)++itB t.No)++slB)++itB t.Of
def aL9 (t:TTally):ByteArray:=(bo2 t++spB)++aX0 t
theorem bl5 (t:TTally):(aX0 t).size≤4:=by
 unfold aX0
 split
 ·decide
 ·split <;> decide
structure TalOK (t:TTally):Prop where
 y:0≤t.Yes∧t.Yes≤2000
 n:0≤t.No∧t.No≤2000
 o:0≤t.Of∧t.Of≤2000
theorem bo1 {t:TTally} (h:TalOK t):(bo2 t).size≤65:=by
 have h1:=aa3 (n:=t.Yes) (by have:=h.y; omega)
 have h2:=aa3 (n:=t.No) (by have:=h.n; omega)
 have h3:=aa3 (n:=t.Of) (by have:=h.o; omega)
 unfold bo2 itB
 rw [A9,A9,A9,A9,show slB.size=1 from rfl]; omega
theorem bD5 {t:TTally} (h:TalOK t):(aL9 t).size≤100:=by
 have:=bo1 h
 have:=bl5 t
 unfold aL9
 rw [A9,A9,show spB.size=1 from rfl]; omega
def pV (r:Option (TTally × Int)):Option (ByteArray × Int):=(r.bind fun y14=>some (.inl (y14.1.Motion,y14.1.Yes,y14.1.No,y14.1.Of,y14.1.Over,y14.1.Accepted,y14.2)):Option ((ByteArray × Int × Int × Int × Bool × Bool × Int) ⊕ (ByteArray × Int))).bind fun k11=>Sum.fin k11 fun u8=>(N3 u8.2.2.2.2.2.1).bind fun y18=>(ifB (!u8.2.2.2.2.1) (some (.inl (ByteArray.mk [111,112,101,110].toArray))) (some (.inl y18)):Option (ByteArray ⊕ (ByteArray × Int))).bind fun k21=>Sum.fin k21 fun u19=>(l2 u8.2.1).bind fun y22=>(F8 y22 (ByteArray.mk [47].toArray)).bind fun c23=>(l2 u8.2.2.1).bind fun y24=>(F8 c23 y24).bind fun c25=>(F8 c25 (ByteArray.mk [47].toArray)).bind fun c26=>(l2 u8.2.2.2.1).bind fun y27=>(F8 c26 y27).bind fun c28=>(I4 [c28,u19]).bind fun y30=>some (y30,u8.2.2.2.2.2.2)
theorem bg5 {t:TTally} (h:TalOK t) (e:Int):pV (some (t,e))=some (aL9 t++nlB,e):=by
 have r1:-9223372036854775808≤t.Yes∧t.Yes≤9223372036854775807:=by have:=h.y; omega
 have r2:-9223372036854775808≤t.No∧t.No≤9223372036854775807:=by have:=h.n; omega
 have r3:-9223372036854775808≤t.Of∧t.Of≤9223372036854775807:=by have:=h.o; omega
 have h1:=aa3 r1
 have h2:=aa3 r2
 have h3:=aa3 r3
 have hn:=bo1 h
 have hsl:(ByteArray.mk [47].toArray).size=1:=rfl
 have hwz:=bl5 t
 unfold pV
 rw [Option.bind_some,Option.bind_some,C9]
 simp only
 have hy:N3 t.Accepted=some (if t.Accepted=true then ByteArray.mk [121,101,115].toArray else ByteArray.mk [110,111].toArray):=by unfold N3; cases t.Accepted <;> rfl
 have hw:(ifB (!t.Over) (some (.inl (ByteArray.mk [111,112,101,110].toArray))) (some (.inl (if t.Accepted=true then ByteArray.mk [121,101,115].toArray else ByteArray.mk [110,111].toArray))):Option (ByteArray ⊕ (ByteArray × Int)))=some (.inl (aX0 t)):=by unfold aX0; cases t.Over <;> rfl
 rw [hy,Option.bind_some,hw,Option.bind_some,C9,W4 r1,Option.bind_some,E4 (by omega),Option.bind_some,W4 r2,Option.bind_some,E4 (by rw [A9]; omega),Option.bind_some,E4 (by rw [A9,A9]; omega),Option.bind_some,W4 r3,Option.bind_some,E4 (by rw [A9,A9,A9]; omega),Option.bind_some]
 show (I4 [bo2 t,aX0 t]).bind _=_
 rw [aZ0 _ _ (by omega) (by omega)]; rfl
def rV (r:Option (TTally × Int)):Option ((List ByteArray) × Int):=r.bind fun y16=>ifB (!y16.1.Over) ((l2 y16.1.Yes).bind fun y18=>(F8 y18 (ByteArray.mk [47].toArray)).bind fun c19=>(l2 y16.1.No).bind fun y20=>(F8 c19 y20).bind fun c21=>(F8 c21 (ByteArray.mk [47].toArray)).bind fun c22=>(l2 y16.1.Of).bind fun y23=>(F8 c22 y23).bind fun c24=>(F8 c24 (ByteArray.mk [32].toArray)).bind fun c25=>(F8 c25 (ByteArray.mk [111,112,101,110].toArray)).bind fun c26=>some ([c26],y16.2)) (ifB y16.1.Accepted ((l2 y16.1.Yes).bind fun y29=>(F8 y29 (ByteArray.mk [47].toArray)).bind fun c30=>(l2 y16.1.No).bind fun y31=>(F8 c30 y31).bind fun c32=>(F8 c32 (ByteArray.mk [47].toArray)).bind fun c33=>(l2 y16.1.Of).bind fun y34=>(F8 c33 y34).bind fun c35=>(F8 c35 (ByteArray.mk [32].toArray)).bind fun c36=>(F8 c36 (ByteArray.mk [121,101,115].toArray)).bind fun c37=>some ([c37],y16.2)) ((l2 y16.1.Yes).bind fun y40=>(F8 y40 (ByteArray.mk [47].toArray)).bind fun c41=>(l2 y16.1.No).bind fun y42=>(F8 c41 y42).bind fun c43=>(F8 c43 (ByteArray.mk [47].toArray)).bind fun c44=>(l2 y16.1.Of).bind fun y45=>(F8 c44 y45).bind fun c46=>(F8 c46 (ByteArray.mk [32].toArray)).bind fun c47=>(F8 c47 (ByteArray.mk [110,111].toArray)).bind fun c48=>some ([c48],y16.2)))
theorem bL1 {t:TTally} (h:TalOK t) (e:Int):rV (some (t,e))=some ([aL9 t],e):=by
 have r1:-9223372036854775808≤t.Yes∧t.Yes≤9223372036854775807:=by have:=h.y; omega
 have r2:-9223372036854775808≤t.No∧t.No≤9223372036854775807:=by have:=h.n; omega
 have r3:-9223372036854775808≤t.Of∧t.Of≤9223372036854775807:=by have:=h.o; omega
 have h1:=aa3 r1
 have h2:=aa3 r2
 have h3:=aa3 r3
 have hsl:(ByteArray.mk [47].toArray).size=1:=rfl
 have hsp:(ByteArray.mk [32].toArray).size=1:=rfl
 have key:∀ w:ByteArray,w.size≤4→((l2 t.Yes).bind fun y18=>(F8 y18 (ByteArray.mk [47].toArray)).bind fun c19=>(l2 t.No).bind fun y20=>(F8 c19 y20).bind fun c21=>(F8 c21 (ByteArray.mk [47].toArray)).bind fun c22=>(l2 t.Of).bind fun y23=>(F8 c22 y23).bind fun c24=>(F8 c24 (ByteArray.mk [32].toArray)).bind fun c25=>(F8 c25 w).bind fun c26=>some ([c26],e))=some ([(bo2 t++spB)++w],e):=fun w hw=>by
  rw [W4 r1,Option.bind_some,E4 (by omega),Option.bind_some,W4 r2,Option.bind_some,E4 (by rw [A9]; omega),Option.bind_some,E4 (by rw [A9,A9]; omega),Option.bind_some,W4 r3,Option.bind_some,E4 (by rw [A9,A9,A9]; omega),Option.bind_some,E4 (by rw [A9,A9,A9,A9]; omega),Option.bind_some,E4 (by rw [A9,A9,A9,A9,A9]; omega)]; rfl
 unfold rV
 rw [Option.bind_some]
 simp only
 unfold aL9 aX0
 cases t.Over
 ·rw [Bool.not_false,j9,key _ (by decide)]; rfl
 ·rw [Bool.not_true,j4]
  cases t.Accepted
  ·rw [j4,key _ (by decide)]; rfl
  ·rw [j9,key _ (by decide)]; rfl
theorem bn2:C2 ⟨0,1⟩=some 0:=by
 unfold C2
 rw [o6 (show C7 (0,1)=some (.nxt (1,0)) by kernel_rfl),D8,o6 (show C7 (1,0)=some (.brk (1,0)) by kernel_rfl),ag4]
 rfl
theorem bA4:C2 ⟨2,4⟩=some 3:=by
 unfold C2
 rw [o6 (show C7 (2,4)=some (.nxt (4,2)) by kernel_rfl),D8,o6 (show C7 (4,2)=some (.nxt (2,0)) by kernel_rfl),D8,o6 (show C7 (2,0)=some (.brk (2,0)) by kernel_rfl),ag4]
 rfl
theorem bH5:G1 1 2=some 1:=by
 unfold G1
 rw [o6 (show C4 (1,2)=some (.nxt (2,1)) by kernel_rfl),D8,o6 (show C4 (2,1)=some (.nxt (1,0)) by kernel_rfl),D8,o6 (show C4 (1,0)=some (.brk (1,0)) by kernel_rfl),ag4]
 rfl
theorem bH4:G1 0 1=some 1:=by
 unfold G1
 rw [o6 (show C4 (0,1)=some (.nxt (1,0)) by kernel_rfl),D8,o6 (show C4 (1,0)=some (.brk (1,0)) by kernel_rfl),ag4]
 rfl
theorem bV8:G1 2 4=some 2:=by
 unfold G1
 rw [o6 (show C4 (2,4)=some (.nxt (4,2)) by kernel_rfl),D8,o6 (show C4 (4,2)=some (.nxt (2,0)) by kernel_rfl),D8,o6 (show C4 (2,0)=some (.brk (2,0)) by kernel_rfl),ag4]
 rfl
theorem bq5:t8 ⟨1,2⟩=some 0:=by
 unfold t8
 simp only
 rw [bH5]; kernel_rfl
theorem bq4:t8 ⟨0,1⟩=some 0:=by
 unfold t8
 simp only
 rw [bH4]; kernel_rfl
theorem bC9:t8 ⟨2,4⟩=some 3:=by
 unfold t8
 simp only
 rw [bV8]; kernel_rfl
section
variable {l:List TAct} (hl:ActsOK l)
include hl
theorem bc6 {w:BL} {q:TFraction} {E:Nat→Nat→Bool} (hE:EnOK q E) (hq:C2 q=some 0) (hQ:t8 q=some 0) (k v:ByteArray) (hk:T5 k=true) (h1:af3 (toB w)=some ([ByteArray.mk [118,111,116,101].toArray,k,v],true))
  (h2:((I2 (toB (w++[10])) (ByteArray.mk [10].toArray)).bind fun y20=>E6 y20 (ByteArray.mk [32].toArray))=some [ByteArray.mk [118,111,116,101].toArray,k,v])
  (h3:∀ t,p9 l t [ByteArray.mk [118,111,116,101].toArray,k,v]=(pV (O2 l k q t)).bind fun y45=>some (y45.1,y45.2,t))
  (h4:∀ t,E0 l [ByteArray.mk [118,111,116,101].toArray,k,v] t=((t8 q).bind fun y14=>ifB (y14 != 0) (some ([],y14)) (rV (M6 l k q t))).bind fun y51=>some (y51.1,y51.2)):K8 l w:=ao1 _ h1 h2 (by kernel_rfl) fun t ht=>by
 have ha:=aj2 hl ht
 have hn:aa7 l k t=0:=by unfold aa7; rw [ha,hk]; rfl
 obtain ⟨tl,e,g1,g2,g3,g4⟩:=bz3 (a:=t) hE hl k
 have htl:TalOK tl∧0≤e∧e≤20:=by
  by_cases he:e=0
  ·obtain ⟨y,n,o,e1,e2,e3,e4,e5,e6⟩:=g3 he
   exact ⟨⟨by omega,by omega,by omega⟩,by omega,by omega⟩
  ·obtain ⟨e0,e1,e2,e3⟩:=g4 he
   exact ⟨⟨by omega,by omega,by omega⟩,by omega,by omega⟩
 have hv:O2 l k q t=some (tl,e):=by
  unfold O2
  rw [an5,if_pos hn,Option.bind_some,K4]
  unfold ba0
  simp only
  rw [show ((0:Int) != 0)=false from rfl,j4,hq,Option.bind_some,show ((0:Int) != 0)=false from rfl,j4,g1]; rfl
 refine ⟨aL9 tl++nlB,[aL9 tl],e,?_,?_,fun _=>?_,htl.2.1,htl.2.2,by simp,fun s hs=>by rw [List.mem_singleton.1 hs]; exact bD5 htl.1⟩
 ·rw [h3,hv,bg5 htl.1]; rfl
 ·rw [h4,hQ,Option.bind_some,show ((0:Int) != 0)=false from rfl,j4,g2,bL1 htl.1]; rfl
 ·rw [ax5,aN2,aW3]
theorem bS5:K8 l [118,111,116,101,32,104,97,116,115,32,49,47,50]:=bc6 hl bM8 bn3 bq5 (ByteArray.mk [104,97,116,115].toArray) (ByteArray.mk [49,47,50].toArray) (by kernel_rfl) (by kernel_rfl) (by kernel_rfl) (fun t=>by kernel_rfl) (fun t=>by kernel_rfl)
theorem bS6:K8 l [118,111,116,101,32,116,111,117,114,32,48,47,49]:=bc6 hl bL8 bn2 bq4 (ByteArray.mk [116,111,117,114].toArray) (ByteArray.mk [48,47,49].toArray) (by kernel_rfl) (by kernel_rfl) (by kernel_rfl) (fun t=>by kernel_rfl) (fun t=>by kernel_rfl)
def bo4:TTally:=⟨ByteArray.empty,0,0,0,false,false⟩
omit hl in
theorem bo3:TalOK bo4:=⟨by decide,by decide,by decide⟩
theorem bS4:K8 l [118,111,116,101,32,104,97,116,115,32,50,47,52]:=ao1 [ByteArray.mk [118,111,116,101].toArray,ByteArray.mk [104,97,116,115].toArray,ByteArray.mk [50,47,52].toArray] (by kernel_rfl) (by kernel_rfl) (by kernel_rfl) fun t ht=>by
 have ha:=aj2 hl ht
 have hn:aa7 l (ByteArray.mk [104,97,116,115].toArray) t=0:=by unfold aa7; rw [ha]; rfl
 refine ⟨aL9 bo4++nlB,[],3,?_,?_,fun h=>absurd h (by decide),by omega,by omega,by simp,by simp⟩
 ·rw [show p9 l t [ByteArray.mk [118,111,116,101].toArray,ByteArray.mk [104,97,116,115].toArray,ByteArray.mk [50,47,52].toArray]=(pV (O2 l (ByteArray.mk [104,97,116,115].toArray) ⟨2,4⟩ t)).bind fun y45=>some (y45.1,y45.2,t) by kernel_rfl]
  have hv:O2 l (ByteArray.mk [104,97,116,115].toArray) ⟨2,4⟩ t=some (bo4,3):=by
   unfold O2
   rw [an5,if_pos hn,Option.bind_some,K4]
   simp only
   rw [show ((0:Int) != 0)=false from rfl,j4,bA4,Option.bind_some]; rfl
  rw [hv,bg5 bo3]; rfl
 ·rw [show E0 l [ByteArray.mk [118,111,116,101].toArray,ByteArray.mk [104,97,116,115].toArray,ByteArray.mk [50,47,52].toArray] t=((t8 ⟨2,4⟩).bind fun y14=>ifB (y14 != 0) (some ([],y14)) (rV (M6 l (ByteArray.mk [104,97,116,115].toArray) ⟨2,4⟩ t))).bind fun y51=>some (y51.1,y51.2) by kernel_rfl]
  rw [bC9]; rfl
theorem bX6:K8 l [118,111,116,101,32,65,32,49,47,50]:=ao1 [ByteArray.mk [118,111,116,101].toArray,ByteArray.mk [65].toArray,ByteArray.mk [49,47,50].toArray] (by kernel_rfl) (by kernel_rfl) (by kernel_rfl) fun t ht=>by
 have ha:=aj2 hl ht
 have hn:aa7 l (ByteArray.mk [65].toArray) t=5:=by unfold aa7; rw [ha]; rfl
 refine ⟨aL9 bo4++nlB,[],5,?_,by kernel_rfl,fun h=>absurd h (by decide),by omega,by omega,by simp,by simp⟩
 rw [show p9 l t [ByteArray.mk [118,111,116,101].toArray,ByteArray.mk [65].toArray,ByteArray.mk [49,47,50].toArray]=(pV (O2 l (ByteArray.mk [65].toArray) ⟨1,2⟩ t)).bind fun y45=>some (y45.1,y45.2,t) by kernel_rfl]
 have hv:O2 l (ByteArray.mk [65].toArray) ⟨1,2⟩ t=some (bo4,5):=by
  unfold O2
  rw [an5,if_neg (by rw [hn]; decide),hn]; rfl
 rw [hv,bg5 bo3]; rfl
end
def bg7:List BL:=[[109,101,109,98,101,114,115],[111,119,105,110,103,32,49],[111,119,105,110,103,32,54,48,48],[112,117,114,115,101],[111,112,101,110],[118,111,116,101,32,104,97,116,115,32,49,47,50],[118,111,116,101,32,116,111,117,114,32,48,47,49],[118,111,116,101,32,104,97,116,115,32,50,47,52],[118,111,116,101,32,65,32,49,47,50],[118,111,116,101,32,104,97,116,115,32,49],[119,104,111,32,97,110,110],[119,104,111,32,98,111,98],[119,104,111,32,65],[111,119,105,110,103,32,48],[111,119,105,110,103,32,120],[97,116,32,48],[97,116,32,52,48],[97,116,32,50,53,57,50,48,48,48,48,48,48],[97,116,32,57,48,48,48,48,48,48,48,48,48],[97,116,32,45,49],[97,116,32,120],[104,101,121],[112,117,114,115,101,32,49],[],[97,116,32,32,53]]
theorem bU6 {l:List TAct} (hl:ActsOK l) (hw:∀ y∈l,y.Who∈ax1):∀ w∈bg7,K8 l w:=by
 intro w h
 simp only [bg7,List.mem_cons,List.not_mem_nil,or_false] at h
 rcases h with rfl | rfl | rfl | rfl | rfl | rfl | rfl | rfl | rfl | rfl | rfl | rfl | rfl | rfl | rfl | rfl | rfl | rfl | rfl | rfl | rfl | rfl | rfl | rfl | rfl
 ·exact br2 hl hw
 ·exact bS9 hl hw
 ·exact bS8 hl hw
 ·exact bD9 hl hw
 ·exact bK6 hl hw
 ·exact bS5 hl
 ·exact bS6 hl
 ·exact bS4 hl
 ·exact bX6 hl
 ·exact bD8 l
 ·exact bT9 hl hw
 ·exact bT2 hl hw
 ·exact bK5 hl hw
 ·exact bT0 hl hw
 ·exact bS7 l
 ·exact bT8 l
 ·exact bK8 l
 ·exact bT7 l
 ·exact bT5 l
 ·exact bT4 l
 ·exact bT3 l
 ·exact bT1 l
 ·exact bz8 l
 ·exact bK7 l
 ·exact bT6 l
theorem bU7:∀ w∈bg7,(10:UInt8)∉w:=by decide
theorem aV4:∀ w∈bg7,w.length≤13:=by decide
end Go.G

/- LCo6: the console's texts, and the law. In plain Lean, no program in sight. -/
namespace Go.G
open Go Go.J
set_option linter.unusedSimpArgs false
set_option linter.unusedVariables false
set_option linter.unusedSectionVars false
def aa1 (ws:List BL):BL:=ws.flatMap fun w=>w++[10]
theorem aA9 (w:BL) (t:List BL):aa1 (w::t)=w++10::aa1 t:=by
 unfold aa1
 rw [List.flatMap_cons,List.append_assoc]; rfl
theorem aZ3 (ws:List BL) (w:BL):aa1 (ws++[w])=aa1 ws++(w++[10]):=by
 unfold aa1
 rw [List.flatMap_append]; simp
theorem aH4:∀ (ws:List BL),(∀ w∈ws,w.length≤13)→(aa1 ws).length≤14*ws.length
 | [],_=>Nat.zero_le _
 | w::t,h=>by
  have:=aH4 t fun x hx=>h x (List.mem_cons_of_mem _ hx)
  have h1:=h w (List.mem_cons_self ..)
  rw [aA9,List.length_append,List.length_cons,List.length_cons]; omega
theorem bm5 (tail:BL) (ht:(10:UInt8)∉tail):∀ (ws:List BL),(∀ w∈ws,(10:UInt8)∉w)→spl 10 (aa1 ws++tail)=ws++[tail]
 | [],_=>bm3 10 tail ht
 | w::t,h=>by
  rw [aA9,List.append_assoc]
  show spl 10 (w++10::(aa1 t++tail))=_
  rw [bw3 10 _ _ (h w (List.mem_cons_self ..)),bm5 tail ht t fun x hx=>h x (List.mem_cons_of_mem _ hx)]; rfl
theorem bt7 {s tail:BL} {ws:List BL} (h:spl 10 s=ws++[tail]):aH2 s=ws∧aF9 s=tail:=by
 have h2:=aT5 s
 rw [h] at h2
 have h3:=List.append_inj' h2 rfl
 exact ⟨h3.1.symm,by have:=h3.2; simpa using this.symm⟩
theorem bA8 (w r:BL) (hw:(10:UInt8)∉w) (hl:w.length≤1000):I3 (toB (w++10::r))=some (toB (w++[10]),toB r):=by
 have hd:(toB (w++10::r)).data.toList=w++10::r:=rfl
 have hd2:(toB (w++10::r)).data.toList=(w++[10])++r:=by rw [hd,List.append_assoc]; rfl
 have hix:H1 (toB (w++10::r)) 10=some (w.length:Int):=by
  unfold H1
  rw [hd]
  exact congrArg some (aO3 10 w r hw)
 have hwl:w64 ((w.length:Int)+1)=(((w++[10]).length:Nat):Int):=by rw [A0 (by omega),List.length_append]; simp
 unfold I3
 rw [hix,Option.bind_some,decide_eq_true (by omega),j9,hwl,bw0 hd2,Option.bind_some,bc8 hd2]; rfl
theorem aT6:∀ (ws:List BL) (n:Nat),(∀ w∈ws,(10:UInt8)∉w∧w.length≤13)→(aa1 ws).length≤n→aA8 I3 n (toB (aa1 ws))=some (ws.map fun w=>toB (w++[10]))
 | [],n,_,_=>by cases n <;> rfl
 | w::t,n,h,hn=>by
  have h1:=h w (List.mem_cons_self ..)
  rw [aA9] at hn ⊢
  rw [List.length_append,List.length_cons] at hn
  obtain ⟨m,rfl⟩:∃ m,n=m+1:=⟨n - 1,by omega⟩
  unfold aA8
  rw [if_neg (by rw [ap2,List.length_append,List.length_cons]; omega),bA8 w _ h1.1 (by omega),Option.bind_some]
  simp only
  rw [aT6 t m (fun x hx=>h x (List.mem_cons_of_mem _ hx)) (by omega)]; rfl
theorem bo6 (ws:List BL) (h:∀ w∈ws,(10:UInt8)∉w∧w.length≤13):bh5 I3 (toB (aa1 ws))=some (ws.map fun w=>toB (w++[10])):=aT6 ws _ h (by rw [ap2]; exact Nat.le_refl _)
theorem be8 (l:List TAct):∀ (ws:List BL) (i:Nat) (t:Int) (out:ByteArray),(∀ w∈ws,K8 l w)→an7 t=true→out.size+300000*ws.length≤10000000 →
  ∃ o t',l8 (ae4 l) i (ws.map toB) (t,out)=some (.brk (t',o))∧l8 (L7 l) i (ws.map fun w=>toB (w++[10])) (out,t)=some (.brk (o,t'))
 | [],i,t,out,_,_,_=>⟨out,t,rfl,rfl⟩
 | w::r,i,t,out,h,ht,hs=>by
  rw [List.length_cons] at hs
  obtain ⟨o,t',h1,h2,h3,h4⟩:=h w (List.mem_cons_self ..) t ht
  obtain ⟨o2,t2,g1,g2⟩:=be8 l r (i+1) t' (out++o) (fun x hx=>h x (List.mem_cons_of_mem _ hx)) h2 (by rw [A9]; omega)
  refine ⟨o2,t2,?_,?_⟩
  ·rw [List.map_cons,o5]
   have hst:ae4 l i (toB w) (t,out)=some (.nxt (t',out++o)):=by
    unfold ae4
    simp only
    rw [h1,Option.bind_some]
    have hb:af9 out o=some (out++o):=by unfold af9; rw [if_pos (by omega)]
    simp only
    rw [hb]; rfl
   rw [hst,Option.bind_some,D8,g1]
  ·rw [List.map_cons,o5,h4 i out (by omega),Option.bind_some,D8,g2]
theorem bl3 {l:List TAct} (hl:ActsOK l) (hw:∀ y∈l,y.Who∈ax1) (ws:List BL) (hws:∀ w∈ws,w∈bg7) (hlen:ws.length≤6) (tail:BL) (ht:(10:UInt8)∉tail) (htl:tail.length≤4) :
  ∃ o e,Y0 l (toB (aa1 ws++tail))=some (o,e)∧L8 l (toB (aa1 ws++tail))=some (o,e):=by
 have hwn:∀ w∈ws,(10:UInt8)∉w∧w.length≤13:=fun w h=>⟨bU7 w (hws w h),aV4 w (hws w h)⟩
 have hfl:=aH4 ws fun w h=>(hwn w h).2
 have hsz:(toB (aa1 ws++tail)).size≤2000:=by rw [ap2,List.length_append]; omega
 have hspl:=bm5 tail ht ws fun w h=>(hwn w h).1
 obtain ⟨e1,e2⟩:=bt7 hspl
 unfold Y0 L8
 rw [au1,Option.bind_some,(aB4 l).2 hl,show ((0:Int) != 0)=false from rfl,j4,decide_eq_false (by omega),j4,j4,bb6 _ (by omega),Option.bind_some,Y2,e1,e2,bJ2,Y2]
 by_cases hta:tail=[]
 ·subst hta
  rw [List.append_nil] at *
  have hk:(if aa1 ws=[] then (([]:List ByteArray),true) else if ([]:BL)=[] then (ws.map toB,true) else ((ws++[([]:BL)]).map toB,false))=(ws.map toB,true):=by
   cases ws with
   | nil=>rfl
   | cons w t=>rw [if_neg (by rw [aA9]; simp),if_pos rfl]
  rw [hk]
  simp only
  rw [Bool.not_true,j4]
  obtain ⟨o,t',g1,g2⟩:=be8 l ws 0 0 ByteArray.empty (fun w h=>bU6 hl hw w (hws w h)) (by kernel_rfl) (by rw [show ByteArray.empty.size=0 from rfl]; omega)
  have hcond:(ifB (!(decide (aa1 ws=[]))) ((N7 (toB (aa1 ws)) (ByteArray.mk [10].toArray)).bind fun y5=>some (.inl (!y5))) (some (.inl false)):Option (Bool ⊕ (ByteArray × Int)))=some (.inl false):=by
   by_cases hne:aa1 ws=[]
   ·rw [decide_eq_true hne]; rfl
   ·rw [decide_eq_false hne,Bool.not_false,j9]
    have hlast:(toB (aa1 ws)).data.toList.getLast? = some 10:=by
     rw [Y2]
     rcases List.eq_nil_or_concat ws with h0 | ⟨p,x,h0⟩
     ·exact absurd (by rw [h0]; rfl) hne
     ·rw [h0,List.concat_eq_append,aZ3,← List.append_assoc]; simp
    unfold N7
    rw [show (ByteArray.mk [10].toArray)=aQ8 10 from rfl,am4 10 _ (by omega),decide_eq_true hlast]; rfl
  rw [g1,Option.bind_some,D5,hcond,Option.bind_some,C9,j4,bo6 ws hwn,Option.bind_some,g2]
  exact ⟨o,0,rfl,rfl⟩
 ·have hne:aa1 ws++tail≠[]:=fun h=>hta (List.append_eq_nil_iff.1 h).2
  rw [if_neg hne,if_neg hta]
  simp only
  rw [Bool.not_false,j9,decide_eq_false hne,Bool.not_false,j9]
  have hlast:(toB (aa1 ws++tail)).data.toList.getLast? ≠ some 10:=by
   have hg:(aa1 ws++tail).getLast? = tail.getLast?:=by
    rw [List.getLast?_append]
    cases h:tail.getLast? with
    | none=>exact absurd (List.getLast?_eq_none_iff.1 h) hta
    | some x=>rfl
   rw [Y2,hg]
   intro h
   exact ht (List.mem_of_getLast? h)
  unfold N7
  rw [show (ByteArray.mk [10].toArray)=aQ8 10 from rfl,am4 10 _ (by omega),decide_eq_false hlast]
  exact ⟨_,_,rfl,rfl⟩
theorem bq6 (L:List Int) {p:Int} (hp:0≤p) (hp':p≤1000000):∃ ws tail q,K7 L p=some (toB (aa1 ws++tail),q)∧(∀ w∈ws,w∈bg7)∧ws.length≤6∧(10:UInt8)∉tail∧tail.length≤4:=by
 unfold K7
 obtain ⟨n,h1,hn1,hn2⟩:=aB5 L (p:=p) (a:=0) (b:=6) hp (by omega) (by omega) (by omega) (by omega)
 rw [h1,Option.bind_some]
 simp only
 rw [ax2 (by omega),Option.bind_some]
 obtain ⟨s,g1,ws,k1,k2,k3,k4⟩:=Q8 (V8 L) (List.range n.toNat) (fun i s=>∃ ws:List BL,(∀ w∈ws,w∈bg7)∧ws.length=i∧s.1=toB (aa1 ws)∧s.2=p+1+i) (by
  rintro i x ⟨u,q⟩ hx ⟨ws,k1,k2,k3,k4⟩
  simp only at k3 k4
  subst k3 k4
  have hi:i<n.toNat:=by simpa using (List.getElem?_eq_some_iff.1 hx).1
  unfold V8
  simp only
  rw [show [(ByteArray.mk [109,101,109,98,101,114,115,10].toArray),(ByteArray.mk [111,119,105,110,103,32,49,10].toArray),(ByteArray.mk [111,119,105,110,103,32,54,48,48,10].toArray),(ByteArray.mk [112,117,114,115,101,10].toArray),(ByteArray.mk [111,112,101,110,10].toArray),(ByteArray.mk [118,111,116,101,32,104,97,116,115,32,49,47,50,10].toArray),(ByteArray.mk [118,111,116,101,32,116,111,117,114,32,48,47,49,10].toArray),(ByteArray.mk [118,111,116,101,32,104,97,116,115,32,50,47,52,10].toArray),(ByteArray.mk [118,111,116,101,32,65,32,49,47,50,10].toArray),(ByteArray.mk [118,111,116,101,32,104,97,116,115,32,49,10].toArray),(ByteArray.mk [119,104,111,32,97,110,110,10].toArray),(ByteArray.mk [119,104,111,32,98,111,98,10].toArray),(ByteArray.mk [119,104,111,32,65,10].toArray),(ByteArray.mk [111,119,105,110,103,32,48,10].toArray),(ByteArray.mk [111,119,105,110,103,32,120,10].toArray),(ByteArray.mk [97,116,32,48,10].toArray),(ByteArray.mk [97,116,32,52,48,10].toArray),(ByteArray.mk [97,116,32,50,53,57,50,48,48,48,48,48,48,10].toArray),(ByteArray.mk [97,116,32,57,48,48,48,48,48,48,48,48,48,10].toArray),(ByteArray.mk [97,116,32,45,49,10].toArray),(ByteArray.mk [97,116,32,120,10].toArray),(ByteArray.mk [104,101,121,10].toArray),(ByteArray.mk [112,117,114,115,101,32,49,10].toArray),(ByteArray.mk [10].toArray),(ByteArray.mk [97,116,32,32,53,10].toArray)]=bg7.map fun w=>toB (w++[10]) by kernel_rfl]
  obtain ⟨v,hv,hm⟩:=aI2 L (p:=p+1+i) (bg7.map fun w=>toB (w++[10])) (by omega) (by omega) (by decide) (by decide)
  obtain ⟨w,hw,rfl⟩:=List.mem_map.1 hm
  have hwl:=aV4 w hw
  have hfl:=aH4 ws fun w h=>aV4 w (k1 w h)
  rw [hv,Option.bind_some]
  simp only
  rw [E4 (by rw [ap2,ap2,List.length_append]; simp; omega),Option.bind_some]
  refine ⟨_,rfl,ws++[w],fun x hx=>?_,by rw [List.length_append,k2]; rfl,?_,by show p+1+(i:Int)+1=p+1+((i+1:Nat):Int); omega⟩
  ·rcases List.mem_append.1 hx with hx | hx
   ·exact k1 x hx
   ·rw [List.mem_singleton.1 hx]; exact hw
  ·refine aG4 ?_
   show (toB (aa1 ws)++toB (w++[10])).data.toList=_
   rw [ad2,Y2,Y2,Y2,aZ3]) (ByteArray.empty,p+1) ⟨[],by simp,rfl,rfl,by show p+1=p+1+((0:Nat):Int); omega⟩
 obtain ⟨u,q⟩:=s
 simp only at k3 k4
 subst k3 k4
 rw [List.length_range] at k2 g1
 obtain ⟨b,hb⟩:=aS5 L (p:=p+1+(n.toNat:Int)) (n:=20) (by omega) (by omega) (by omega)
 rw [g1,Option.bind_some,D5]
 simp only
 rw [hb,Option.bind_some]
 cases b
 ·rw [j4]
  exact ⟨ws,[],_,by rw [List.append_nil],k1,by omega,by simp,by simp⟩
 ·rw [j9]
  obtain ⟨v,hv,hm⟩:=aI2 L (p:=p+1+(n.toNat:Int)+1) [(ByteArray.mk [111,112,101,110].toArray),(ByteArray.mk [120].toArray)] (by omega) (by omega) (by simp) (by simp)
  simp only
  rw [hv,Option.bind_some]
  have hfl:=aH4 ws fun w h=>aV4 w (k1 w h)
  have hv2:∃ tail:BL,v=toB tail∧(10:UInt8)∉tail∧tail.length≤4:=by
   simp only [List.mem_cons,List.not_mem_nil,or_false] at hm
   rcases hm with rfl | rfl
   ·exact ⟨[111,112,101,110],rfl,by decide,by decide⟩
   ·exact ⟨[120],rfl,by decide,by decide⟩
  obtain ⟨tail,rfl,t1,t2⟩:=hv2
  simp only
  rw [E4 (by rw [ap2,ap2]; omega),Option.bind_some]
  have he:toB (aa1 ws)++toB tail=toB (aa1 ws++tail):=aG4 (by rw [ad2,Y2,Y2,Y2])
  rw [he]
  exact ⟨ws,tail,_,rfl,k1,by omega,t1,t2⟩
theorem bJ6 {l:List TAct} (hw:∀ y∈l,y.Who∈ax1) (k:ByteArray) (t:Int):∃ r e,R6 l k t=some (r,e)∧(aa7 l k t=0→F3 l k t=some (r,e))∧(aa7 l k t≠0→r=[]∧e=aa7 l k t):=by
 by_cases hn:aa7 l k t=0
 ·obtain ⟨ha,hk⟩:=bt5 hn
  obtain ⟨hl,ht⟩:=ay9 ha
  obtain ⟨r,e,h1,h2,-⟩:=bf1 hl hw t ht k hk
  exact ⟨r,e,h1,fun _=>h2,fun h=>absurd hn h⟩
 ·refine ⟨[],aa7 l k t,?_,fun h=>absurd h hn,fun _=>⟨rfl,rfl⟩⟩
  unfold R6
  rw [an5,if_neg hn,Option.bind_some,ad4]
  simp only
  rw [show (aa7 l k t != 0)=true by simpa using hn,j9]
theorem aS6 (L:List Int):V9 L=some true:=by
 unfold V9
 obtain ⟨n,h1,hn1,hn2⟩:=aB5 L (p:=0) (a:=0) (b:=16) (by omega) (by omega) (by omega) (by omega) (by omega)
 rw [h1,Option.bind_some]
 obtain ⟨x,q,h2,hq1,hq2,hlen,hxw⟩:=bD1 L (p:=0+1) (n:=n) (by omega) (by omega) hn1 (by omega)
 have hw:∀ y∈x,y.Who∈ax1:=fun y hy=>(hxw y hy).2.2
 simp only
 rw [h2,Option.bind_some]
 obtain ⟨who,h3,-⟩:=aI2 L (p:=q) [(ByteArray.mk [97,110,110].toArray),(ByteArray.mk [98,111,98].toArray),(ByteArray.mk [122,101,100].toArray),(ByteArray.mk [65].toArray)] hq1 (by omega) (by simp) (by simp)
 simp only
 rw [h3,Option.bind_some]
 obtain ⟨a,h5,-⟩:=aS3 L (p:=q+1) [0,5,20,40,2592000000,2592000010,7776000000,7776000020,(-1)] (by omega) (by omega) (by simp) (by simp)
 unfold O6
 simp only
 rw [h5,Option.bind_some,Option.bind_some]
 obtain ⟨ws,tail,q2,h6,k1,k2,k3,k4⟩:=bq6 L (p:=q+1+1) (by omega) (by omega)
 simp only
 rw [h6,Option.bind_some]
 obtain ⟨r,e,g1,g2,g3⟩:=bJ6 hw who a
 simp only
 rw [g1,Option.bind_some]
 generalize htxt:toB (aa1 ws++tail)=txt
 obtain ⟨co,ce,c1,c2⟩:∃ co ce,Y0 x txt=some (co,ce)∧((ae6 x=0∧L8 x txt=some (co,ce))∨(ae6 x≠0∧co=ByteArray.empty∧ce=ae6 x)):=by
  by_cases hz:ae6 x=0
  ·obtain ⟨o,e2,d1,d2⟩:=bl3 ((aB4 x).1 hz) hw ws k1 k2 tail k3 k4
   rw [htxt] at d1 d2
   exact ⟨o,e2,d1,.inl ⟨hz,d2⟩⟩
  ·refine ⟨ByteArray.empty,ae6 x,?_,.inr ⟨hz,rfl,rfl⟩⟩
   unfold Y0
   rw [au1,Option.bind_some,show (ae6 x != 0)=true by simpa using hz,j9]
 rw [c1,Option.bind_some,ba1,Option.bind_some,aY5,Option.bind_some,bB5,Option.bind_some]
 have hmid:(ifB (aa7 x who a==0) ((F3 x who a).bind fun y20=>some (.inl (y20.2,y20.1))) (some (.inl (aa7 x who a,[]))):Option ((Int × (List ByteArray)) ⊕ Bool))=some (.inl (e,r)):=by
  by_cases h:aa7 x who a=0
  ·rw [show (aa7 x who a==0)=true by simpa using h,j9,g2 h]; rfl
  ·obtain ⟨rfl,rfl⟩:=g3 h
   rw [show (aa7 x who a==0)=false by simpa using h,j4]
 rw [hmid,Option.bind_some,C9]
 simp only
 rw [show (e != e)=false by simp,j4,aU1,Option.bind_some,Option.bind_some,C9,Bool.not_true,j4,aG6,Option.bind_some,bj6]
 rcases c2 with ⟨hz,c2⟩ | ⟨hz,rfl,rfl⟩
 ·rw [show (ae6 x != 0)=false by simpa using hz,j4,c2,Option.bind_some]
  simp only
  rw [show (ce==ce)=true by simp,j9,show (co.toList==co.toList)=true by simp,j9]; rfl
 ·rw [show (ae6 x != 0)=true by simpa using hz,j9,show (ae6 x==ae6 x)=true by simp,j9,show (ByteArray.empty.toList==ByteArray.empty.toList)=true by simp,j9]; rfl
end Go.G

