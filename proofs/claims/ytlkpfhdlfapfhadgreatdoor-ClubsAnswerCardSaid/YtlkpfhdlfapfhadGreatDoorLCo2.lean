/- LCo2: Told as the reference has it. In plain Lean, no program in sight. -/
import Derived.Test.YtlkpfhdlfapfhadGreatDoorLCo1
import Derived.Test.YtlkpfhdlfapfhadGreatDoorLMr
import Derived.Test.YtlkpfhdlfapfhadGreatDoorLY6s
import Derived.Test.YtlkpfhdlfapfhadGreatDoorLCs
namespace Go.G
open Go Go.J
set_option linter.unusedSimpArgs false
set_option linter.unusedVariables false
theorem bk8 {x:List TAct} {a:Int} (hok:ActsOK x) (who:ByteArray):X8 x who a=some (az2 (j7 x a).st who):=by
 have hb:=(am3 x a hok.len).2
 have hrow:=fun k=>hb.rows (by omega) k
 unfold X8
 rw [aa0 x a hok,Option.bind_some]
 simp only
 rw [aL1 _ _ _ _ _ (hrow who),Option.bind_some,aM6]
 unfold az2
 cases hmk:am6 (j7 x a).st who
 ·unfold am6 at hmk
  rw [Bool.not_false,j9]
  cases hl:(A5 (j7 x a).st who).getLast? with
  | none=>rfl
  | some s =>
   rw [hl] at hmk
   simp only at hmk
   simp only [if_neg (of_decide_eq_false hmk)]
 ·obtain ⟨s,e1,e2,-,e4⟩:=aN9 hmk
  obtain ⟨s',f1,f2,-⟩:=aR4 e4 (hrow who)
  rw [e1] at f1; cases f1
  rw [Bool.not_true,j4,f2,Option.bind_some,e1]
  simp only [if_pos e2]
  rfl
theorem bm8 {st:ab7} {who:ByteArray} {s:Tclub_stay} (h:(A5 st who).getLast? = some s) (h2:s.till<0):az2 st who=(s.since,true):=by unfold az2; rw [h]; simp only [if_pos h2]
theorem bm7 {st:ab7} {who:ByteArray} (h:am6 st who=false):(az2 st who).2=false:=by
 unfold am6 at h
 unfold az2
 cases hl:(A5 st who).getLast? with
 | none=>rfl
 | some s=>rw [hl] at h; simp only at h; simp only [if_neg (of_decide_eq_false h)]
def spB:ByteArray:=ByteArray.mk [32].toArray
def aS7 (t:bv2) (who:ByteArray):ByteArray:=if G3 t.2.1 who=true then (if (lkM t.2.1 who).getD false=true then ByteArray.mk [121,101,115].toArray else ByteArray.mk [110,111].toArray) else ByteArray.mk [118,111,116,101].toArray
theorem bl6 (t:bv2) (who:ByteArray):(aS7 t who).size≤4:=by
 unfold aS7
 split
 ·split <;> decide
 ·decide
def ay8 (mo:aB6) (who x:ByteArray):ByteArray:=match lkM mo x with | some t=>(aS7 t who++spB)++x | none=>ByteArray.empty
theorem bz7 {mo:aB6} (hi:∀ p∈mo,p.1.size≤40) (who:ByteArray) (L:List ByteArray) (hL:∀ x∈L,O0 mo x=true) (hlen:L.length≤2000) (u0:List ByteArray) (h0:u0.length≤2) :
  l8 (Z7 mo who) 0 L u0=some (.brk (u0++L.map (ay8 mo who))):=by
 obtain ⟨u,h1,h2⟩:=Q8 (Z7 mo who) L (fun i u=>u=u0++(L.take i).map (ay8 mo who)) (by
  rintro i x u hx rfl
  have hil:=(List.getElem?_eq_some_iff.1 hx).1
  obtain ⟨t,ht,-⟩:=as7 (hL x (List.mem_of_getElem? hx))
  have hsz:=hi _ (av3 ht)
  simp only at hsz
  unfold Z7
  rw [ht,K4]
  have f5:(ifB (G3 t.2.1 who) ((N3 ((lkM t.2.1 who).getD false)).bind fun y43=>some (.inl y43)) (some (.inl (ByteArray.mk [118,111,116,101].toArray))):Option (ByteArray ⊕ (Flow (List ByteArray) ((List ByteArray) × Int))))=some (.inl (aS7 t who)):=by
   unfold N3 aS7
   cases G3 t.2.1 who
   ·rfl
   ·cases (lkM t.2.1 who).getD false <;> rfl
  have hw:=bl6 t who
  have hs1:(ByteArray.mk [32].toArray).size=1:=rfl
  rw [f5,Option.bind_some,C9,E4 (by omega),Option.bind_some,E4 (by rw [A9]; omega),Option.bind_some,Q7 (by simp; omega) (by omega),Option.bind_some]
  refine ⟨_,rfl,?_⟩
  rw [List.take_add_one,hx,List.map_append,← List.append_assoc]
  simp only [Option.toList_some,List.map_cons,List.map_nil]
  unfold ay8
  rw [ht]; rfl) u0 (by simp)
 rw [h1,h2,List.take_length]
theorem bm0 {s:Bk} (hi:∀ p∈s.mo,p.1.size≤40) (who:ByteArray) (n:Int) (is:Bool) (L:List ByteArray) (hL:∀ x∈L,O0 s.mo x=true) (hlen:L.length≤2000) (u0:List ByteArray) (h0:u0.length≤2) :
  l8 (Z3 who (cSt s.st,s.pd,cMo s.mo,s.rf) (n,is)) 0 L u0=some (.brk (if is=true then u0++L.map (ay8 s.mo who) else u0)):=by
 obtain ⟨u,h1,h2⟩:=Q8 (Z3 who (cSt s.st,s.pd,cMo s.mo,s.rf) (n,is)) L (fun i u=>u=if is=true then u0++(L.take i).map (ay8 s.mo who) else u0) (by
  rintro i x u hx rfl
  have hil:=(List.getElem?_eq_some_iff.1 hx).1
  unfold Z3
  cases is with
  | false=>exact ⟨_,rfl,rfl⟩
  | true =>
   obtain ⟨t,ht,-⟩:=as7 (hL x (List.mem_of_getElem? hx))
   have hsz:=hi _ (av3 ht)
   simp only at hsz
   have hc:lkM (cMo s.mo) x=some (cM t):=by unfold cMo; rw [ao6,ht]; rfl
   simp only [Bool.not_true,j4,if_true]
   rw [hc,K4,show (cM t).2.2=t.2.1 from rfl]
   have e1:(ByteArray.mk [118,111,116,101,32].toArray).size=5:=rfl
   have e2:(ByteArray.mk [121,101,115,32].toArray).size=4:=rfl
   have e3:(ByteArray.mk [110,111,32].toArray).size=3:=rfl
   have hfin:∀ c:ByteArray,c=ay8 s.mo who x→∃ s',((ah3 16 (u0++List.map (ay8 s.mo who) (List.take i L)) [c]).bind fun q58=>(some (.nxt q58):Option (Flow (List ByteArray) ((List ByteArray) × Int))))=some (.nxt s')∧s'=u0++List.map (ay8 s.mo who) (List.take (i+1) L):=by
    rintro c rfl
    rw [Q7 (by simp; omega) (by omega),Option.bind_some]
    refine ⟨_,rfl,?_⟩
    rw [List.take_add_one,hx,List.map_append,← List.append_assoc]
    simp only [Option.toList_some,List.map_cons,List.map_nil]
   cases hv:G3 t.2.1 who
   ·rw [Bool.not_false,j9,E4 (by omega),Option.bind_some]
    refine hfin _ ?_
    unfold ay8 aS7
    rw [ht]
    simp only [hv,Bool.false_eq_true,if_false]
    rw [show ByteArray.mk [118,111,116,101,32].toArray=ByteArray.mk [118,111,116,101].toArray++spB from by decide +kernel]
   ·rw [Bool.not_true,j4]
    cases hw:(lkM t.2.1 who).getD false
    ·rw [j4,E4 (by omega),Option.bind_some]
     refine hfin _ ?_
     unfold ay8 aS7
     rw [ht]
     simp only [hv,hw,if_true,Bool.false_eq_true,if_false]
     rw [show ByteArray.mk [110,111,32].toArray=ByteArray.mk [110,111].toArray++spB from by decide +kernel]
    ·rw [j9,E4 (by omega),Option.bind_some]
     refine hfin _ ?_
     unfold ay8 aS7
     rw [ht]
     simp only [hv,hw,if_true]
     rw [show ByteArray.mk [121,101,115,32].toArray=ByteArray.mk [121,101,115].toArray++spB from by decide +kernel]) u0 (by simp)
 rw [h1,h2,List.take_length]
theorem aa3 {n:Int} (h:-9223372036854775808≤n∧n≤9223372036854775807):(⟨(Lib.itoa n).toArray⟩:ByteArray).size≤21:=by
 obtain ⟨y,h1,h2⟩:=bJ9 h
 rw [W4 h] at h1
 cases h1; exact h2
theorem bz6 {l:List TAct} {a:Int} (hl:ActsOK l) (hg:GoodB a (j7 l a)) (who:ByteArray) :
  ∃ r e,Z8 a (j7 l a).st (j7 l a).pd (j7 l a).mo (j7 l a).rf who=some (r,e)∧F3 l who a=some (r,e)∧r.length≤2002∧(∀ s∈r,s.size≤60)∧0≤e∧e≤20:=by
 have hb:=hg.b
 have hrow:=fun k=>hb.rows (by omega) k
 have hi:=be9 l a hl
 have hmo:=bh2 l a hl.len
 have hbr:=aI0 hg who
 unfold Z8 F3
 rw [aa0 l a hl,Option.bind_some,aP5 hg who,Option.bind_some,am5 hl hg who,Option.bind_some]
 rcases bJ0 a (j7 l a) who with he | he
 ·rw [he,show ((0:Int) != 0)=false from rfl,j4,j4,bk8 hl,aw8 _ _ _ _ _ _ (hrow who),Option.bind_some]
  generalize hn:(ak2 a (j7 l a) who).1=n at hbr
  have hol:((ae1 ((j7 l a).mo.map Prod.fst)).filter (O0 (j7 l a).mo)).length≤2000:=by
   refine Nat.le_trans (List.length_filter_le ..) ?_
   rw [an0,List.length_map]; exact hmo
  have hop:∀ x∈(ae1 ((j7 l a).mo.map Prod.fst)).filter (O0 (j7 l a).mo),O0 (j7 l a).mo x=true:=fun x hx=>(List.mem_filter.1 hx).2
  generalize hL:(ae1 ((j7 l a).mo.map Prod.fst)).filter (O0 (j7 l a).mo)=L at hol hop
  have c4:(ByteArray.mk [104,97,115,32].toArray).size=4:=rfl
  have c5:(ByteArray.mk [111,119,101,115,32].toArray).size=5:=rfl
  have c13:(ByteArray.mk [109,101,109,98,101,114,32,115,105,110,99,101,32].toArray).size=13:=rfl
  have c9:(ByteArray.mk [110,111,32,109,101,109,98,101,114].toArray).size=9:=rfl
  have z1:=aa3 (n:=n) (by omega)
  have z2:=aa3 (n:=-n) (by omega)
  have hw:w64 (0 - n) = -n:=by rw [A0 (by omega)]; omega
  have hline:∀ s∈L.map (ay8 (j7 l a).mo who),s.size≤60:=fun s hs=>by
   obtain ⟨x,hx,rfl⟩:=List.mem_map.1 hs
   obtain ⟨t,ht,-⟩:=as7 (hop x hx)
   have hsz:=hi.mo _ (av3 ht)
   simp only at hsz
   unfold ay8
   rw [ht]
   simp only
   have:=bl6 t who
   rw [A9,A9,show spB.size=1 from rfl]; omega
  -- the second line
  obtain ⟨B,hB1,hB2⟩:∃ B:ByteArray,B.size≤30∧(if n<0 then ByteArray.mk [111,119,101,115,32].toArray++⟨(Lib.itoa (-n)).toArray⟩ else ByteArray.mk [104,97,115,32].toArray++⟨(Lib.itoa n).toArray⟩)=B:=by
   refine ⟨_,?_,rfl⟩
   split <;> (rw [A9]; omega)
  have hsec:(ifB (decide (n<0)) ((l2 (w64 (0 - n))).bind fun y15=>(F8 (ByteArray.mk [111,119,101,115,32].toArray) y15).bind fun c16=>some (.inl c16)) (some (.inl (ByteArray.mk [104,97,115,32].toArray++⟨(Lib.itoa n).toArray⟩))):Option (ByteArray ⊕ ((List ByteArray) × Int)))=some (.inl B):=by
   rw [← hB2,hw]
   by_cases h:n<0
   ·rw [decide_eq_true h,j9,W4 (by omega),Option.bind_some,E4 (by omega),Option.bind_some,if_pos h]
   ·rw [decide_eq_false h,j4,if_neg h]
  have hsecR:∀ A:ByteArray,(ifB (decide (n<0)) ((l2 (w64 (0 - n))).bind fun y32=>(F8 (ByteArray.mk [111,119,101,115,32].toArray) y32).bind fun c33=>(v8 [A,ByteArray.mk [104,97,115,32].toArray++⟨(Lib.itoa n).toArray⟩] 1).bind fun e34=>some (.inl ([A,ByteArray.mk [104,97,115,32].toArray++⟨(Lib.itoa n).toArray⟩].set ((1:Int).toNat) c33))) (some (.inl [A,ByteArray.mk [104,97,115,32].toArray++⟨(Lib.itoa n).toArray⟩])):Option ((List ByteArray) ⊕ ((List ByteArray) × Int)))=some (.inl [A,B]):=fun A=>by
   rw [← hB2,hw]
   by_cases h:n<0
   ·rw [decide_eq_true h,j9,W4 (by omega),Option.bind_some,E4 (by omega),Option.bind_some,if_pos h]; rfl
   ·rw [decide_eq_false h,j4,if_neg h]
  cases hmk:am6 (j7 l a).st who
  ·
   have hs2:=bm7 hmk
   generalize az2 (j7 l a).st who=sn at hs2
   obtain ⟨sn1,sn2⟩:=sn
   simp only at hs2
   subst hs2
   rw [j4,Option.bind_some,C9,W4 (n:=n) (by omega),Option.bind_some,E4 (by omega),Option.bind_some,hsec,Option.bind_some,C9,Option.bind_some,Bool.not_false,j9]
   repeat rw [Option.bind_some]
   rw [E4 (by omega)]
   repeat rw [Option.bind_some]
   simp only
   rw [j4,Option.bind_some,C9,hsecR,Option.bind_some,C9,aG5 hl,hL,Option.bind_some,bm0 hi.mo who sn1 false L hop hol _ (by simp),Option.bind_some,D5]
   refine ⟨_,_,rfl,rfl,by simp,?_,by omega,by omega⟩
   intro s hs
   rcases List.mem_cons.1 hs with rfl | hs
   ·omega
   ·rw [List.mem_singleton.1 hs]; omega
  ·obtain ⟨y,e1,e2,-,e4⟩:=aN9 hmk
   obtain ⟨y',f1,f2,-⟩:=aO1 e4 (hrow who)
   rw [e1] at f1; cases f1
   have hy:=hi.st who y (List.mem_of_getLast? e1)
   rw [bm8 e1 e2]
   have z3:=aa3 (n:=y.since) (by omega)
   rw [j9,show (lkM (j7 l a).st who).getD []=A5 (j7 l a).st who from rfl,f2,Option.bind_some,W4 (n:=y.since) (by omega),Option.bind_some,E4 (by omega),Option.bind_some,Option.bind_some,C9,W4 (n:=n) (by omega),Option.bind_some,E4 (by omega),Option.bind_some,hsec,Option.bind_some,C9,Option.bind_some,Bool.not_true,j4,bd3 _ _ _ _ _ (by omega),hL,Option.bind_some,bz7 hi.mo who L hop hol _ (by simp),Option.bind_some,D5]
   repeat rw [Option.bind_some]
   rw [E4 (by omega)]
   repeat rw [Option.bind_some]
   simp only
   rw [j9,W4 (n:=y.since) (by omega),Option.bind_some,E4 (by omega),Option.bind_some,show v8 [ByteArray.mk [110,111,32,109,101,109,98,101,114].toArray,ByteArray.mk [104,97,115,32].toArray++⟨(Lib.itoa n).toArray⟩] 0=some (ByteArray.mk [110,111,32,109,101,109,98,101,114].toArray) from rfl,Option.bind_some,Option.bind_some,C9]
   rw [show ([ByteArray.mk [110,111,32,109,101,109,98,101,114].toArray,ByteArray.mk [104,97,115,32].toArray++⟨(Lib.itoa n).toArray⟩].set ((0:Int).toNat) (ByteArray.mk [109,101,109,98,101,114,32,115,105,110,99,101,32].toArray++⟨(Lib.itoa y.since).toArray⟩))=[ByteArray.mk [109,101,109,98,101,114,32,115,105,110,99,101,32].toArray++⟨(Lib.itoa y.since).toArray⟩,ByteArray.mk [104,97,115,32].toArray++⟨(Lib.itoa n).toArray⟩] from rfl]
   rw [hsecR,Option.bind_some,C9,aG5 hl,hL,Option.bind_some,bm0 hi.mo who y.since true L hop hol _ (by simp),Option.bind_some,D5]
   refine ⟨_,_,rfl,rfl,by simp; omega,?_,by omega,by omega⟩
   intro s hs
   rcases List.mem_append.1 hs with hs | hs
   ·rcases List.mem_cons.1 hs with rfl | hs
    ·rw [A9]; omega
    ·rw [List.mem_singleton.1 hs]; omega
   ·exact hline s hs
 ·rw [he,show ((12:Int) != 0)=true from rfl,j9,j9]
  exact ⟨[],12,rfl,rfl,by simp,(by intro s hs; exact absurd hs (by simp)),by omega,by omega⟩
end Go.G
