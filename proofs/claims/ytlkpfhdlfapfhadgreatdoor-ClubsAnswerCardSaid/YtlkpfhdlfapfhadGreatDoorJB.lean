/- JB: the rules (J17..J49), in one text. No program in sight. -/
import Derived.Test.YtlkpfhdlfapfhadGreatDoorJA
import Derived.RangeFuncRecord
import Derived.RangeFuncIn
import Derived.Lib.AppendStr
import Derived.Lib.UnsafeStr
import Derived.Lib.Builder
import Derived.MapKept
import Derived.Lib.Bytealg
import Derived.Lib.SlicesCompact
import Derived.Lib.AppendZeros
import Derived.Laws.MakeOwn
namespace Go.J
open Go Go.RowKit
section
variable {P:Program} {N:NN} {l:Fr} {H:World→Prop} {dd:Option Nat} {ty:Nat} {pos:String} {af:Array Edge} {g:Option (Nat × Bool)} {x:Operand} {T T':TypeId} {m:Int} {k k':IntKind} {dS:TypeDesc}
theorem bd2 (hS:P.underlying T=some dS) (hT:P.underlying T'=some (.int k)) (hx:ev l x=some (.int k' m)):r4 P N ⟨dd,.convert T T' x,ty,pos,af,g⟩ l H (.int k (k.wrap m)):=fun a w hf _=>by
 simp [execOp,hf.ev hx,convert,run_underlying hS,run_underlying hT,Conv.intToInt]
theorem bs6 {ms:Array (String × TypeId)} (hT:P.underlying T=some (.interface ms)) (hm:P.methodsAt T=ms) (hx:ev l x=some .nilIface):r4 P N ⟨dd,.binOp .eql T x (.const .nilIface) T',ty,pos,af,g⟩ l H (.bool true):=al0 hx rfl fun w=>by
 have h:=run_eql_nil_nil (P:=P) w T (by rw [hm]; exact hT)
 have e:(eqGuard .eql T x (.const .nilIface) .nilIface .nilIface).run P w = .ok () w:=by simp [eqGuard]
 simp [Sem.run_bind,e,h]
end
end Go.J
namespace Go.J
open Go Go.RowKit
def aH1 (o:Oper):Bool:=match o.op with | .defer _=>false | _=>true
def as3:Code→Bool
 | .seq x y=>as3 x&&as3 y
 | .region _ ops _=>ops.toList.all aH1
 | .cond _ x y=>as3 x&&as3 y
 | .block _ c=>as3 c
 | .loop c=>as3 c
 | .exit _ | .ret | .skip=>true
 | _=>false
theorem bt4 {o:Oper} (h:aH1 o=true):∀ c,o.op ≠ .defer c:=by
 intro c e
 unfold aH1 at h
 rw [e] at h
 cases h
theorem bc1 {P:Program} {f:FuncId} {args:Array Value} {w:World} {R:Ending→World→Prop} (l n:Nat) (h:Calls P f args w R):CallsIn (Fence.wide.inRound l) n P f args w R :=
 (callsIn_wide (n:=n)).2 h
theorem bq9 {P:Program} {o:Oper} {a:Act} {w:World} {K K':Act→World→Prop} {Q:Post} (l n:Nat) (hd:aH1 o=true) (hK:∀ a w,K a w→K' a w) (hQ:¬ LetsOut Q) (h:o.wp P a w K Q) :
  o.wpIn (Fence.wide.inRound l) n P a w K' Q:=by
 refine ⟨fun _ _=>trivial,?_⟩
 rw [show (Fence.wide.inRound l).round=some l from rfl,Oper.semAt_eq _ _ _ (bt4 hd)]
 unfold Oper.wp at h
 generalize (execOp a.eval o).run P w=r at *
 cases r with
 | ok x w' =>
  cases x with
  | value v=>exact hK _ _ h
  | skip=>exact hK _ _ h
  | defer d=>exact hK _ _ h
  | enter f args =>
   refine ⟨fun h=>by simp [Fence.wide,Fence.inRound] at h,bc1 l _ (Calls.mono h fun e w'' he=>?_)⟩
   cases e with
   | returned v=>exact hK _ _ he
   | panicked c=>exact he
   | outgrown=>exact (hQ he).elim
  | row row args =>
   refine ⟨fun h=>by simp [Fence.wide,Fence.inRound] at h,fun c cs _=>?_⟩
   obtain ⟨v,w1,h1,h2⟩:=h c cs
   exact ⟨v,w1,hK _ _ h1,stepsIn_wide.2 h2⟩
  | round l f tmps x y=>exact h.elim
  | _=>exact h.elim
 | halt x w'=>cases x <;> first | exact h | exact h.elim
theorem ao9 {P:Program} {ops:Array Oper} {Q:Post} (l n:Nat) (hd:ops.toList.all aH1=true) (hQ:¬ LetsOut Q):∀ (is:List Nat) (a:Act) (w:World),wpOps P ops Q is a w→wpOpsIn (Fence.wide.inRound l) n P ops Q is a w
 | [],_,_,h=>h
 | i::is,a,w,h=>by
  unfold wpOps at h
  unfold wpOpsIn
  cases ho:ops[i]? with
  | none =>
   rw [ho] at h
   exact ao9 l n hd hQ is a w h
  | some o =>
   rw [ho] at h
   simp only at h ⊢
   have hm:aH1 o=true:=List.all_eq_true.1 hd o (by simpa using Array.mem_of_getElem? ho)
   by_cases hw:Region.wanted o (yielded ops a.tmps)=true
   ·rw [if_pos hw] at h ⊢
    rcases h with h | ⟨_,h⟩
    ·exact bq9 l n hm (fun a w=>ao9 l n hd hQ is a w) hQ h
    ·exact (hQ h).elim
   ·rw [if_neg hw] at h ⊢
    exact ⟨fun _ _=>trivial,ao9 l n hd hQ is _ w h⟩
theorem ar6 {P:Program} {c:Code} (l n:Nat) (hc:as3 c=true) {Q:Post} (hQ:∀ a w,¬ Q .outgrown a w) {a:Act} {w:World} (h:Code.wpS P c Q a w):c.wpIn (Fence.wide.inRound l) n P Q a w:=by
 have lo:∀ {Q:Post},(∀ a w,¬ Q .outgrown a w)→¬ LetsOut Q:=fun hQ ⟨a,w,h⟩=>hQ a w h
 induction c generalizing Q a w with
 | seq x y hx hy =>
  simp only [as3,Bool.and_eq_true] at hc
  refine wpIn_seq (wpIn_mono (hx hc.1 (Q:=Exit.then (Code.wpS P y Q) Q) hQ h) ?_)
  intro e a w h
  cases e <;> first | exact hy hc.2 hQ h | exact h
 | region id ops d =>
  cases d with
  | false=>exact wpIn_region (ao9 l n hc (lo hQ) _ _ _ (h.1 rfl))
  | true=>exact wpIn_region_draw fun t=>ao9 l n hc (lo hQ) _ _ _ (h.2 rfl t)
 | cond c x y hx hy =>
  simp only [as3,Bool.and_eq_true] at hc
  obtain ⟨t,h0,h1,h2⟩:=h
  exact wpIn_cond_split h0 (fun e=>hx hc.1 hQ (h1 e)) (fun e=>hy hc.2 hQ (h2 e))
 | block id c ih=>exact wpIn_block (ih hc (Q:=Exit.inBlock id Q) hQ h)
 | loop c ih =>
  obtain ⟨I,n0,h0,h1⟩:=h
  refine wpIn_loop (fun a w=>∃ k,I k a w) (fun a w=>leastOf (fun k=>I k a w)) ⟨n0,h0⟩ ?_
  intro a w hI
  refine wpIn_mono (ih hc (Q:=Exit.then _ Q) (by exact hQ) (h1 _ a w (leastOf_spec hI).1)) ?_
  intro e a' w' hq
  cases e with
  | normal =>
   obtain ⟨k',hlt,hI'⟩:=hq
   exact show (∃ k,I k a' w')∧leastOf (fun k=>I k a' w')<leastOf (fun k=>I k a w) from ⟨⟨k',hI'⟩,Nat.lt_of_le_of_lt ((leastOf_spec ⟨k',hI'⟩).2 k' hI') hlt⟩
  | exit id=>exact hq
  | goto l=>exact hq
  | ret=>exact hq
  | panic c=>exact hq
  | outgrown=>exact hq
 | exit id=>exact wpIn_exit h
 | ret=>exact wpIn_ret h
 | skip=>exact wpIn_skip h
 | goto l=>cases hc
 | label l=>cases hc
 | scope c _=>cases hc
 | rangeFunc f p x y _ _=>cases hc
 | refuse s=>cases hc
def D4 (b:Nat) (o:Obj):OW:=⟨[b],fun w=>w.heap[b]? = some o,fun h hk=>(h b (by simp)).trans hk,fun h k hk=>by simp at hk; subst hk; exact (Array.getElem?_eq_some_iff.1 h).1⟩
section
variable {w0 w:World} {M:List Nat} {A:Nat→Prop} {es:List Ent} {b k:Nat} {o o':Obj}
theorem Sat.allocO (h:Sat w0 M A es w) (o:Obj):Sat w0 M A (.obj (D4 w.heap.size o)::es) (w.alloc o):=by
 have:=h.step (w':=w.alloc o) [] (by simp) ⟨rfl,rfl,rfl,by simp,fun b hb _=>Below.heap_alloc w _ b hb⟩ es [.obj (D4 w.heap.size o)] (List.Sublist.refl _) (by simp)
  (by simp [l3,Ent.kl,D4]) (by intro k hk; simp [l3,Ent.kl,D4] at hk; subst hk; exact ⟨by simp,.inl (Nat.le_refl _)⟩)
  (by intro e he; simp at he; subst he; exact Go.heap_alloc_new w _) (by intro e he; simp at he; subst he; intros; trivial)
 exact this.perm List.perm_append_comm
theorem Sat.objAt (h:Sat w0 M A es w) {q:OW} (hk:nth es k=some (.obj q)):q.ok w:=h.okx _ (aV5 hk)
theorem Sat.putO (h:Sat w0 M A es w) (hk:nth es k=some (.obj (D4 b o))):Sat w0 M A (aC6 es k (.obj (D4 b o'))) (w.putObj b o'):=by
 have hb:w.heap[b]? = some o:=h.objAt hk
 have hlt:=(Array.getElem?_eq_some_iff.1 hb).1
 refine h.swap' hk ⟨rfl,rfl,rfl,by simp,fun x _ hx=>World.putObj_heap_other (fun e=>hx (by simp [Ent.kl,D4,e]))⟩ (World.putObj_heap_same hlt) (by simp [Ent.kl,D4]) ?_ (fun F hF=>by cases hF)
 intro x hx
 simp [Ent.kl,D4] at hx
 subst hx
 exact ⟨by simpa using hlt,.inr (by simp [Ent.kl,D4])⟩
end
def aA4 (D:Nat):Deferred:={ target:=.collected D,args:=#[] }
def am1 (D:Nat):OW:=D4 D (.deferred (some []))
def markPost (P:Program) (fn:Func) (R:Ending→World→Prop):Post:=fun e a w=>match e with
 | .normal | .ret=>LeavesInM Fence.wide 0 P fn a.tmps R a.defers .returning w
 | _=>False
instance {P:Program} {fn:Func} {R:Ending→World→Prop}:PanicOk (markPost P fn R):=⟨fun _ _ _ _ _ h=>h⟩
section
variable {P:Program} {K:List Lay} {l:Fr} {w0:World} {M:List Nat} {A:Nat→Prop} {es r:List Ent} {rs:List ResultVar} {vs:List Value} {fn:Func} {X:Type} {V:X→Value} {post:X→List Ent}
theorem bM3 {n:Nat} {a:Act} {w:World} (x:X) (ks:List Nat) (hres:fn.results=rs.toArray) (h:ResOK P l es rs vs) (hv:aT1 vs=V x) (hp:picks ks es=some (post x,r)) (hf:Frm ⟨n,[]⟩ l a) (hw:Sat w0 M A es w) :
  LeavesInM Fence.wide 0 P fn a.tmps (fun e w'=>∃ x,e = .returned (V x)∧Sat w0 M A (post x) w') a.defers .returning w:=by
 rw [show a.defers=[] from hf.defers]
 exact ⟨_,az3 hres h hf hw,x,by rw [hv],hw.picks ks hp⟩
theorem bM2 {n D kD:Nat} {a:Act} {w:World} (x:X) (ks:List Nat) (hres:fn.results=rs.toArray) (hD:nth es kD=some (.obj (am1 D))) (h:ResOK P l (aC6 es kD (.obj (D4 D (.deferred none)))) rs vs) (hv:aT1 vs=V x)
  (hp:picks ks (aC6 es kD (.obj (D4 D (.deferred none))))=some (post x,r)) (hf:Frm ⟨n,[aA4 D]⟩ l a) (hw:Sat w0 M A es w) :
  LeavesInM Fence.wide 0 P fn a.tmps (fun e w'=>∃ x,e = .returned (V x)∧Sat w0 M A (post x) w') a.defers .returning w:=by
 rw [show a.defers=[aA4 D] from hf.defers]
 have hb:w.heap[D]? = some (.deferred (some [])):=hw.objAt hD
 have hw2:=hw.putO (o':=.deferred none) hD
 exact ⟨by simp,.inl ⟨D,_,rfl,run_takeDeferred hb,_,az3 hres h hf hw2,x,by rw [hv],hw2.picks ks hp⟩⟩
theorem by3 {n:Nat} (x:X) (ks:List Nat) (hres:fn.results=rs.toArray) (h:ResOK P l es rs vs) (hv:aT1 vs=V x) (hp:picks ks es=some (post x,r)) :
  CJ P (markPost P fn fun e w'=>∃ x,e = .returned (V x)∧Sat w0 M A (post x) w') .ret K ⟨n,[]⟩ l (Sat w0 M A es):=bu3 fun _ _ hf hw=>bM3 x ks hres h hv hp hf hw
theorem bj7 {n D:Nat} (kD:Nat) (x:X) (ks:List Nat) (hres:fn.results=rs.toArray) (hD:nth es kD=some (.obj (am1 D))) (h:ResOK P l (aC6 es kD (.obj (D4 D (.deferred none)))) rs vs) (hv:aT1 vs=V x)
  (hp:picks ks (aC6 es kD (.obj (D4 D (.deferred none))))=some (post x,r)) :
  CJ P (markPost P fn fun e w'=>∃ x,e = .returned (V x)∧Sat w0 M A (post x) w') .ret K ⟨n,[aA4 D]⟩ l (Sat w0 M A es):=bu3 fun _ _ hf hw=>bM2 x ks hres hD h hv hp hf hw
end
theorem aH3 {n:Nat} {fn:Func} {args:List Value} {vs:Fr} (hn:fn.ntmps=n) (hlen:Nat.ble args.length n=true) (hvs:SubA vs args) :
  Frm ⟨n,[]⟩ vs { tmps:=args.toArray++Array.replicate (fn.ntmps - args.toArray.size) undef,defers:=[] }:=by
 have hle:args.length≤n:=by simpa [Nat.ble_eq] using hlen
 refine ⟨rfl,by simp [hn]; omega,fun i v hv=>?_⟩
 have h1:=hvs.look i v hv
 have h2:i<args.length:=(List.getElem?_eq_some_iff.1 h1).1
 rw [Array.getD_eq_getD_getElem?,Array.getElem?_append_left (by simpa using h2)]
 simp [h1]
theorem aW1 {P:Program} {n:Nat} {f:FuncId} {fn:Func} {c:Code} {args:List Value} {xs:List Ent} {fs:List (World→Prop)} {X:Type} {V:X→Value} {post:X→List Ent} {vs:Fr} (hf:P.funcs[f]? = some fn) (hb:fn.body=some c) (hn:fn.ntmps=n)
  (hlen:Nat.ble args.length n=true) (hvs:SubA vs args)
  (h:∀ w0 A,CJ P (markPost P fn fun e w'=>∃ x,e = .returned (V x)∧Sat w0 (l3 xs) A (post x) w') c [] ⟨n,[]⟩ vs (Sat w0 (l3 xs) A (xs++fs.map Ent.ro))) :
  Ctr P f args.toArray xs fs V post:=by
 intro w A hs
 refine callsIn_wide.1 (callsIn_of_wp_marks (F:=Fence.wide) (n:=0) hf hb trivial (wpIn_mono (wpIn_wide.2 (bf3 (h w A _ w ?_ hs))) ?_))
 ·exact aH3 hn hlen hvs
 ·intro e a w h
  cases e <;> first | exact h | exact h.elim
end Go.J
namespace Go.J
open Go Go.RowKit
def bf9 {α σ ρ : Type} (step:Nat → α → σ → Option (Flow σ ρ)) (xs:List α) (s : σ):Option (Flow σ ρ):=l8 (fun j x s=>step (xs.length - 1 - j) x s) 0 xs.reverse s
def bq0 (TS TE TF TI TB:Nat) (p q:String):Code :=
 .seq (.region 0 #[⟨some 4,.load TS (.tmp 1),TS,p,#[],none⟩,⟨some 5,.call { callee:=.builtin .len,args:=#[.tmp 4],argTypes:=#[TS] },TI,p,#[⟨0,.data⟩],none⟩,
   ⟨some 6,.binOp .sub TI (.tmp 5) (.const (.int .i64 1)) TI,TI,p,#[⟨1,.data⟩],none⟩,⟨some 3,.assign (.tmp 6),TI,p,#[⟨2,.data⟩,⟨0,.phase⟩,⟨1,.phase⟩,⟨2,.phase⟩],none⟩] false)
  (.block 0 (.loop (.seq (.seq (.region 1 #[⟨some 7,.move (.tmp 3),TI,p,#[],none⟩,⟨some 8,.binOp .geq TI (.tmp 7) (.const (.int .i64 0)) TI,TB,p,#[⟨0,.data⟩],none⟩] false) (.cond (.tmp 8) .skip (.exit 0)))
   (.seq (.block 1 (.seq (.region 3 #[⟨some 11,.move (.tmp 0),TF,q,#[],none⟩,⟨some 12,.move (.tmp 3),TI,q,#[],none⟩,⟨some 13,.load TS (.tmp 1),TS,q,#[],none⟩,⟨some 14,.move (.tmp 3),TI,q,#[],none⟩,
     ⟨some 15,.indexAddr TS (.tmp 13) (.tmp 14),0,q,#[⟨2,.data⟩,⟨3,.data⟩],none⟩,⟨some 16,.load TE (.tmp 15),TE,q,#[⟨4,.data⟩],none⟩,
     ⟨some 17,.call { callee:=.value (.tmp 11),args:=#[.tmp 12,.tmp 16],argTypes:=#[TI,TE] },TB,q,#[⟨0,.data⟩,⟨1,.data⟩,⟨5,.data⟩],none⟩,⟨some 18,.unOp .not TB (.tmp 17),TB,q,#[⟨6,.data⟩],none⟩] false) (.cond (.tmp 18) .ret .skip)))
    (.region 2 #[⟨some 9,.move (.tmp 3),TI,p,#[],none⟩,⟨some 10,.binOp .sub TI (.tmp 9) (.const (.int .i64 1)) TI,TI,p,#[⟨0,.data⟩],none⟩,
     ⟨some 3,.assign (.tmp 10),TI,p,#[⟨1,.data⟩,⟨0,.phase⟩,⟨1,.phase⟩],none⟩] false)))))
theorem aJ7 {F:Fence} {n:Nat} {P:Program} {Q:Post} {a:Act} {w:World} {c:Code} (I:Nat→Act→World→Prop) (n₀ : Nat) (h₀ : I n₀ a w)
  (round:∀ k a w,I k a w→c.wpIn F n P (Exit.then (fun a' w'=>∃ k',k'<k∧I k' a' w') Q) a w):(Code.loop c).wpIn F n P Q a w:=by
 refine wpIn_loop (fun a w=>∃ k,I k a w) (fun a w=>leastOf (fun k=>I k a w)) ⟨n₀,h₀⟩ fun a w hI=>wpIn_mono (round _ a w (leastOf_spec hI).1) ?_
 intro e a' w' hq
 cases e <;> first | exact hq | (obtain ⟨k',hlt,hI'⟩:=hq; exact show (∃ k,I k a' w')∧leastOf (fun k=>I k a' w')<leastOf (fun k=>I k a w) from ⟨⟨k',hI'⟩,Nat.lt_of_le_of_lt ((leastOf_spec ⟨k',hI'⟩).2 k' hI') hlt⟩)
section
variable {P:Program} {N:NN} {l:Fr} {H:World→Prop} {Q:Post} {a:Act} {w:World} {ops:Array Oper}
theorem au8 {c:Code} (h:CJ P Q c [] N l H) (hf:Frm N l a) (hw:H w):c.wpIn Fence.wide 0 P Q a w:=wpIn_wide.2 (bf3 (h a w hf hw))
theorem ah1 {i d:Nat} {rest:List Nat} {o:Oper} {v:Value} (ho:ops[i]? = some o) (hg:o.guard=none) (hd:o.dst=some d) (hdb:Nat.blt d N.n=true) (hp:r4 P N o l H v) (hf:Frm N l a) (hw:H w)
  (h:∀ a',Frm N ((d,v)::l) a'→wpOpsIn Fence.wide 0 P ops Q rest a' w):wpOpsIn Fence.wide 0 P ops Q (i::rest) a w:=by
 unfold wpOpsIn
 rw [ho]
 simp only
 rw [if_pos (by simp [Region.wanted,hg])]
 refine ⟨fun _ _=>trivial,?_⟩
 rw [show Fence.wide.round=none from rfl,Oper.semAt_none,hp a w hf hw,Oper.uponIn_value,hd]
 exact h _ (hf.put hdb v)
end
section
variable {P:Program} {w0:World} {M:List Nat} {A:Nat→Prop} {α σ γ ρ : Type} {R:Rep α} {xs:List α} {sv:SV} {fn:Func} {kb bx TS TE TF TI TB by_ by2:Nat} {p q:String} {zs zs2:List Value}
theorem bJ1 (hfn:P.funcs[kb]? = some fn) (hbody:fn.body=some (bq0 TS TE TF TI TB p q)) (hnt:fn.ntmps=19) (hres:fn.results = #[]) (hT:P.underlying TS=some (.slice R.T)) (hTE:TE=R.T)
  (hE:TyF P R.T true R.sz by_ zs) (hS:TyF P TS false 1 by2 zs2) {lo:Nat} {rc:Loop} (hrp:rc.params.size=2) {o1:OW}
  {step:Nat → α → σ → Option (Flow σ ρ)} {s0 : σ} {f:Flow σ ρ} (hs:bf9 step xs s0=some f) (es : σ → γ → List Ent) (g0 : γ)
  (hbx:∀ s c,FactAt (es s c) (V1 bx TS [sv.v])) (hrd:∀ s c,FactAt (es s c) (RdS R sv.v xs))
  (round:∀ (i:Nat) (x : α) (s : σ) (c : γ) (g:Flow σ ρ),xs[i]? = some x→step i x s=some g→∀ W,Sat w0 M A (.obj o1 :: .obj (D4 lo (.loop rc))::es s c) W →
   RoundIn Fence.wide 0 P lo rc.fn ((rc.params.zip #[.int .i64 i,.agg (R.enc x).toArray]).foldl (fun tmps (t,a)=>tmps.setIfInBounds t a) rc.tmps) rc.assign rc.body W fun e W' =>
    e = .returned (.bool true)∧∃ s' c',g = .nxt s'∧Sat w0 M A (.obj o1 :: .obj (D4 lo (.loop rc))::es s' c') W')
  {W:World} (hW:Sat w0 M A (.obj o1 :: .obj (D4 lo (.loop rc))::es s0 g0) W) :
  CallsIn Fence.wide 0 P kb #[.func (.yield lo) #[] #[],.pointer (some ⟨bx,0,none⟩)] W fun e W'=>(∃ v,e = .returned v)∧∃ s c,f = .brk s∧Sat w0 M A (.obj o1 :: .obj (D4 lo (.loop rc))::es s c) W':=by
 subst hTE
 have two:∀ {F:World→Prop} {s : σ} {c : γ},FactAt (es s c) F→FactAt (.obj o1 :: .obj (D4 lo (.loop rc))::es s c) F:=by
  intro F s c h
  induction h with
  | ro j h=>exact .ro (j+2) h
  | row j h=>exact .row (j+2) h
  | box j h=>exact .box (j+2) h
  | obj j h=>exact .obj (j+2) h
  | der _ h ih=>exact .der ih h
 have hmax:xs.length≤maxLen:=((hrd s0 g0).get (hW.sublist ((List.sublist_cons_self _ _).trans (List.sublist_cons_self _ _)))).1
 refine callsIn_of_wp hfn hbody trivial ?_ rfl
 have hf0:=aH3 (vs:=[(0,.func (.yield lo) #[] #[]),(1,.pointer (some ⟨bx,0,none⟩))]) (args:=[.func (.yield lo) #[] #[],.pointer (some ⟨bx,0,none⟩)]) hnt rfl ⟨rfl,rfl,trivial⟩
 have ldS:∀ {l:Fr} {d:Option Nat} {ty:Nat} {pos:String} {af:Array Edge} {s : σ} {c : γ},ev l (.tmp 1)=some (.pointer (some ⟨bx,0,none⟩)) →
   r4 P ⟨19,[]⟩ ⟨d,.load TS (.tmp 1),ty,pos,af,none⟩ l (Sat w0 M A (.obj o1 :: .obj (D4 lo (.loop rc))::es s c)) sv.v:=by
  intro l d ty pos af s c hx a w hf hw
  have hb:w.heap[bx]? = some (.cells [sv.v].toArray TS (0,0)):=(two (hbx s c)).get hw
  have h:w.cell? ⟨bx,0,none⟩=some sv.v:=by rw [cell_of_row w bx 0 _ _ _ hb]; rfl
  simp [execOp,hf.ev hx,Instr.loadAt,Instr.sureAddr,ad3 hS h]
 refine wpIn_seq (au8 (l0 (lp rfl (ldS rfl) (lp rfl (w9 (R:=R) hT rfl (two (hrd s0 g0))) (lp rfl (L3 rfl rfl) (lp rfl (G9 rfl) (d5 (aw6 fun a w hf hw=>?_))))))) hf0 hW)
 have hw64:∀ k:Nat,k≤xs.length→w64 ((k:Int) - 1)=(k:Int) - 1:=fun k hk=>A0 (by unfold maxLen at hmax; omega)
 refine wpIn_block (aJ7 (fun k a w=>∃ s c,k≤xs.length∧l8 (fun j x s=>step (xs.length - 1 - j) x s) (xs.length - k) (xs.reverse.drop (xs.length - k)) s=some f ∧
  Frm ⟨19,[]⟩ [(0,.func (.yield lo) #[] #[]),(1,.pointer (some ⟨bx,0,none⟩)),(3,.int .i64 ((k:Int) - 1))] a∧Sat w0 M A (.obj o1 :: .obj (D4 lo (.loop rc))::es s c) w) xs.length
  ⟨s0,g0,Nat.le_refl _,by rw [Nat.sub_self]; exact hs,hf.sub ⟨rfl,rfl,by simp only [look]; rw [hw64 _ (Nat.le_refl _)]; first | done | rfl,trivial⟩,hw⟩ ?_)
 clear hf hw hW hf0 hs
 rintro k a w ⟨s,c,hk,hrun,hf,hw⟩
 refine wpIn_seq (wpIn_seq (au8 (l0 (lp rfl (m0 rfl) (lp rfl (ar0 rfl rfl) (d5 (aw6 fun a w hf hw=>?_))))) hf hw))
 refine wpIn_cond_split (t:=decide ((k:Int) - 1≥0)) (hf.ev rfl) (fun ht=>?_) (fun ht=>?_)
 ·
  obtain ⟨k',rfl⟩:∃ k',k=k'+1:=⟨k - 1,by have:=of_decide_eq_true ht; omega⟩
  have e1:((k'+1:Nat):Int) - 1=(k':Int):=by omega
  rw [e1] at hf
  have hlt:xs.length - (k'+1)<xs.reverse.length:=by simp; omega
  have hd:xs.reverse.drop (xs.length - (k'+1))=xs[k']::xs.reverse.drop (xs.length - k'):=by
   rw [List.drop_eq_getElem_cons hlt]
   congr 1
   ·rw [List.getElem_reverse]; congr 1; omega
   ·congr 1; omega
  rw [hd] at hrun
  have hkk:xs.length - 1 - (xs.length - (k'+1))=k':=by omega
  obtain ⟨g,hg,h2⟩:=d6 hrun
  have hg:step (xs.length - 1 - (xs.length - (k'+1))) xs[k'] s=some g:=hg
  rw [hkk] at hg
  have hx:xs[k']? = some xs[k']:=List.getElem?_eq_getElem (by omega)
  refine wpIn_skip (wpIn_seq (wpIn_block (wpIn_seq (wpIn_region ?_))))
  show wpOpsIn Fence.wide 0 P _ _ [0,1,2,3,4,5,6,7] _ _
  refine ah1 rfl rfl rfl rfl (m0 (v:=.func (.yield lo) #[] #[]) rfl) hf hw fun a hf=>ah1 rfl rfl rfl rfl (m0 (v:=.int .i64 (k':Int)) rfl) hf hw fun a hf=>ah1 rfl rfl rfl rfl (ldS rfl) hf hw fun a hf =>
   ah1 rfl rfl rfl rfl (m0 (v:=.int .i64 (k':Int)) rfl) hf hw fun a hf=>ah1 rfl rfl rfl rfl (p5 (R:=R) hT hE rfl rfl (two (hrd s c)) (A8.trans hx)) hf hw fun a hf =>
   ah1 rfl rfl rfl rfl (ac8 (R:=R) (i:=k') hE rfl (two (hrd s c)) hx) hf hw fun a hf=>?_
  have hl:w.heap[lo]? = some (.loop rc):=hw.objAt (k:=1) rfl
  unfold wpOpsIn
  simp only [List.getElem?_toArray,List.getElem?_cons_succ,List.getElem?_cons_zero]
  rw [if_pos (by simp [Region.wanted])]
  refine ⟨fun _ _=>trivial,?_⟩
  rw [show Fence.wide.round=none from rfl,Oper.semAt_none]
  have hy:=run_yield (P:=P) (args:=#[.int .i64 (k':Int),.agg (R.enc xs[k']).toArray]) hl (by simp [hrp])
  have hcall:(execOp a.eval ⟨some 17,.call { callee:=.value (.tmp 11),args:=#[.tmp 12,.tmp 16],argTypes:=#[TI,R.T] },TB,q,#[⟨0,.data⟩,⟨1,.data⟩,⟨5,.data⟩],none⟩).run P w =
    .ok (.round lo rc.fn ((rc.params.zip #[.int .i64 (k':Int),.agg (R.enc xs[k']).toArray]).foldl (fun tmps (t,a)=>tmps.setIfInBounds t a) rc.tmps) rc.assign rc.body) w:=by
   have h11:a.eval (.tmp 11) = .func (.yield lo) #[] #[]:=hf.ev rfl
   have h12:a.eval (.tmp 12) = .int .i64 (k':Int):=hf.ev rfl
   have h16:a.eval (.tmp 16) = .agg (R.enc xs[k']).toArray:=hf.ev rfl
   simp [execOp,resolve,Deferred.ofValue,h11,h12,h16,invoke,hy]
  rw [hcall]
  refine ⟨fun h=>by simp [Fence.wide] at h,(round k' xs[k'] s c g hx hg w hw).mono ?_⟩
  rintro e w' ⟨rfl,s',c',rfl,hw'⟩
  have hf':=hf.put (d:=17) rfl (.bool true)
  refine ah1 (v:=.bool false) rfl rfl rfl rfl (p4 (b:=true) rfl) hf' hw' fun a hf=>?_
  refine wpIn_cond_false (hf.ev rfl) (wpIn_skip ?_)
  refine au8 (l0 (lp rfl (m0 (v:=.int .i64 (k':Int)) rfl) (lp rfl (L3 (m:=(k':Int)) (n:=1) rfl rfl) (lp rfl (G9 rfl) (d5 (aw6 fun a w hf hw=>?_)))))) hf hw'
  refine ⟨k',Nat.lt_succ_self _,s',c',by omega,?_,hf.sub ⟨rfl,rfl,by simp only [look]; rw [hw64 _ (by omega)]; first | done | rfl,trivial⟩,hw⟩
  have:xs.length - (k'+1)+1=xs.length - k':=by omega
  rw [← this]
  rw [← this] at h2
  exact h2
 ·
  obtain rfl:k=0:=by have:=of_decide_eq_false ht; omega
  have hd:xs.reverse.drop (xs.length - 0)=[]:=List.drop_eq_nil_of_le (by simp)
  rw [hd] at hrun
  simp only [l8,Option.some.injEq] at hrun
  refine wpIn_exit ?_
  show _∧_
  refine ⟨hf.defers,.tuple #[],?_,⟨_,rfl⟩,s,c,hrun.symm,hw⟩
  simp [results,hres]
theorem bp8 {Rp:Post} {K:List Lay} {l:Fr} {H:World→Prop} {n tf p1 p2 b0 b1:Nat} {asg bodyc:Code} (hfn:P.funcs[kb]? = some fn) (hbody:fn.body=some (bq0 TS R.T TF TI TB p q)) (hnt:fn.ntmps=19) (hres:fn.results = #[]) (hT:P.underlying TS=some (.slice R.T))
  (hE:TyF P R.T true R.sz by_ zs) (hS:TyF P TS false 1 by2 zs2) (hcf:∀ args w,(callFunc kb args).run P w = .ok (.enter kb args) w)
  (hfv:ev l (.tmp tf)=some (.func (.func kb) #[] [.pointer (some ⟨bx,0,none⟩)].toArray)) (h1:Nat.blt p1 n=true) (h2:Nat.blt p2 n=true) (hra:as3 asg=true) (hrb:as3 bodyc=true)
  {step:Nat → α → σ → Option (Flow σ ρ)} {s0 : σ} {f:Flow σ ρ} (hs:bf9 step xs s0=some f) (es : σ → γ → List Ent) (g0 : γ) (hH:∀ w,H w→Sat w0 M A (es s0 g0) w)
  (hbx:∀ s c,FactAt (es s c) (V1 bx TS [sv.v])) (hrd:∀ s c,FactAt (es s c) (RdS R sv.v xs))
  (after:∀ s c D,f = .brk s→NJ P Rp K ⟨n,[aA4 D]⟩ l (Sat w0 M A (.obj (am1 D)::es s c)))
  (body:∀ (i:Nat) (x : α) (s : σ) (c : γ) (g:Flow σ ρ),xs[i]? = some x→step i x s=some g→∀ (o1 o2 o3:OW) (I I0:Act→World→Prop),
   (∀ (fr':Fr) (H':World→Prop) (s' : σ) (c' : γ),g = .nxt s'→(∀ w,H' w→Sat w0 M A (.obj o1 :: .obj o3::es s' c') w)→NJ P RF [.inv I] ⟨n,[]⟩ fr' H') →
   (∀ (fr':Fr) (H':World→Prop) (es':List Ent),(∀ w,H' w→Sat w0 M A (.obj o1 :: .obj o2::es') w)→CJ P RF (.block b1 bodyc) [.inv I] ⟨n,[]⟩ fr' (Sat w0 M A (.obj o1 :: .obj o3::es'))→NJ P RF [.inv I0] ⟨n,[]⟩ fr' H') →
   CJ P RF asg [.inv I0] ⟨n,[]⟩ ((p2,.agg (R.enc x).toArray)::(p1,.int .i64 i)::l) (Sat w0 M A (.obj o1 :: .obj o2::es s c))) :
  CJ P Rp (.block b0 (.rangeFunc (.tmp tf) #[p1,p2] asg (.block b1 bodyc))) K ⟨n,[]⟩ l H:=by
 intro a w hf hw
 refine aG7 ?_
 show (Code.rangeFunc (.tmp tf) #[p1,p2] asg (.block b1 bodyc)).wp P (Exit.inBlock b0 (QK P Rp K)) a w
 rw [← wpIn_wide (n:=0)]
 refine wpIn_rangeFunc fun fnn _=>?_
 let rc:Loop:={ state:=.ready,pending:=none,fn:=fnn,tmps:=a.tmps,params:=#[p1,p2],assign:=asg,body:=.block b1 bodyc,defers:=w.heap.size }
 have hw1:Sat w0 M A (.obj (D4 (w.heap.size+1) (.loop rc)) :: .obj (am1 w.heap.size)::es s0 g0) ((w.alloc (.deferred (some []))).alloc (.loop rc)):=by
  have e1:=(hH w hw).allocO (.deferred (some []))
  have e2:=e1.allocO (.loop rc)
  rw [World.size_alloc] at e2
  exact e2
 have hw2:=hw1.picks [1,0] (xs:=.obj (am1 w.heap.size) :: .obj (D4 (w.heap.size+1) (.loop rc))::[]) rfl
 have hfe:a.eval (.tmp tf) = .func (.func kb) #[] #[.pointer (some ⟨bx,0,none⟩)]:=hf.ev hfv
 have hperm:Sat w0 M A (.obj (am1 w.heap.size) :: .obj (D4 (w.heap.size+1) (.loop rc))::es s0 g0) ((w.alloc (.deferred (some []))).alloc (.loop rc)):=hw1.perm (List.Perm.swap _ _ _)
 clear hw2 hw1
 let W1:=(w.alloc (.deferred (some []))).alloc (.loop rc)
 have hres1:(resolve a.eval (rangeCall (.tmp tf) (w.heap.size+1)) 0).run P W1 = .ok { target:=.fn (.func kb) #[.pointer (some ⟨bx,0,none⟩)],args:=#[.func (.yield (w.heap.size+1)) #[] #[]] } W1:=by
  show (Deferred.ofValue (a.eval (.tmp tf)) _).run P _=_
  rw [hfe]
  simp [Deferred.ofValue,Act.eval]
 have hinv:(invoke (.fn (.func kb) #[.pointer (some ⟨bx,0,none⟩)]) #[.func (.yield (w.heap.size+1)) #[] #[]]).run P W1 = .ok (.enter kb #[.func (.yield (w.heap.size+1)) #[] #[],.pointer (some ⟨bx,0,none⟩)]) W1:=by
  simp [invoke,hcf]
 refine ⟨w.heap.size+1,[aA4 w.heap.size],W1,_,W1,kb,_,W1,run_enterLoop_outer _ _ _ _ _,hres1,fun _ _=>trivial,hinv,fun h=>by simp [Fence.wide] at h,?_⟩
 have hdf:a.defers=[]:=hf.defers
 refine (bJ1 (o1:=am1 w.heap.size) (rc:=rc) hfn hbody hnt hres hT rfl hE hS rfl hs es g0 hbx hrd ?_ hperm).mono ?_
 ·
  intro i x s c g hx hg W hW
  refine roundIn_of_wpIn trivial ?_
  have hl:∀ {es'},∀ {W:World},Sat w0 M A (.obj (am1 w.heap.size) :: .obj (D4 (w.heap.size+1) (.loop rc))::es') W→W.heap[w.heap.size+1]? = some (.loop rc):=fun h=>h.objAt (k:=1) rfl
  have hfr:Frm ⟨n,[]⟩ ((p2,.agg (R.enc x).toArray)::(p1,.int .i64 i)::l) { tmps:=(rc.params.zip #[.int .i64 i,.agg (R.enc x).toArray]).foldl (fun tmps (t,a)=>tmps.setIfInBounds t a) rc.tmps,defers:=[] }:=by
   have e1:=(hf.put (d:=p1) h1 (.int .i64 i)).put (d:=p2) h2 (.agg (R.enc x).toArray)
   have e2:((a.put (some p1) (.int .i64 i)).put (some p2) (.agg (R.enc x).toArray))={ tmps:=(rc.params.zip #[.int .i64 i,.agg (R.enc x).toArray]).foldl (fun tmps (t,a)=>tmps.setIfInBounds t a) rc.tmps,defers:=[] }:=by
    simp [Act.put,hdf,rc]
   rw [e2] at e1
   exact e1
  let rb:Loop:={ rc with state:=.busy }
  let I:Act→World→Prop:=fun _ W'=>∃ s' c',g = .nxt s'∧Sat w0 M A (.obj (am1 w.heap.size) :: .obj (D4 (w.heap.size+1) (.loop rb))::es s' c') W'
  have hb:=body i x s c g hx hg (am1 w.heap.size) (D4 (w.heap.size+1) (.loop rc)) (D4 (w.heap.size+1) (.loop rb)) I
   (fun a₁ w₁=>∃ w₂,(Instr.beginRound (w.heap.size+1)).run P w₁ = .ok () w₂∧Code.wpIn (Fence.wide.inRound (w.heap.size+1)) 0 P (.block b1 bodyc)
    (roundPost P (w.heap.size+1) fun e W'=>e = .returned (.bool true)∧∃ s' c',g = .nxt s'∧Sat w0 M A (.obj (am1 w.heap.size) :: .obj (D4 (w.heap.size+1) (.loop rc))::es s' c') W') a₁ w₂)
   (fun fr' H' s' c' hg' hH'=>ah4 fun a w _ hw=>⟨s',c',hg',hH' w hw⟩)
   (fun fr' H' es' hH' hc=>ah4 fun a1 w1 hf1 hw1=>by
    have hs1:=hH' w1 hw1
    refine ⟨_,run_beginRound (hl hs1) rfl,?_⟩
    have hs2:=hs1.putO (k:=1) (o':=.loop rb) rfl
    refine wpIn_mono (ar6 _ _ (by exact hrb) (fun _ _ h=>h) (hc a1 _ hf1 hs2)) ?_
    intro e a2 w2 h
    cases e with
    | normal =>
     obtain ⟨s',c',hg',hs3⟩:=h
     have hb3:w2.heap[w.heap.size+1]? = some (.loop rb):=hs3.objAt (k:=1) rfl
     exact ⟨_,_,run_endRound none hb3,rfl,s',c',hg',hs3.putO (k:=1) rfl⟩
    | exit id=>exact h.elim
    | goto l=>exact h.elim
    | ret=>exact h.elim
    | panic c=>exact h.elim
    | outgrown=>exact h.elim)
  refine wpIn_mono (ar6 _ _ hra (fun _ _ h=>h) (hb _ _ hfr hW)) ?_
  intro e a1 w1 h
  cases e <;> first | exact h | exact h.elim
 ·rintro e W ⟨⟨v,rfl⟩,s,c,hfs,hW⟩
  have hl:W.heap[w.heap.size+1]? = some (.loop rc):=hW.objAt (k:=1) rfl
  refine ⟨none,_,run_endLoop hl (by simp [rc]),?_⟩
  have hW2:=hW.putO (k:=1) (o':=.loop { rc with state:=.exhausted }) rfl
  refine after s c w.heap.size hfs _ _ ?_ (hW2.sublist (List.Sublist.cons_cons _ (List.sublist_cons_self _ _)))
  refine ⟨by simp [hdf],hf.size,hf.vals⟩
end
end Go.J
namespace Go.J
open Go Go.RowKit
set_option linter.unusedSimpArgs false
def RB (T:TypeId):Rep UInt8:=⟨T,1,1,fun u=>[.int .u8 u.toNat],fun _=>rfl,fun x u hu=>by simp only [List.mem_singleton] at hu; subst hu; rfl,by decide⟩
theorem bq3 (T:TypeId) (l:List UInt8):(RB T).cells l=l.map fun b=>Value.int .u8 b.toNat:=by
 show l.flatMap (fun u=>[Value.int .u8 u.toNat])=_
 rw [List.map_eq_flatMap]
theorem bX1 (T:TypeId) (s:ByteArray):(RB T).cells s.data.toList=Lib.strCells s:=bq3 T _
def aS2 (Tb T8:TypeId) (b:Nat) (s:SV) (l:List UInt8):OW:={
 ks:=b::s.v.ownBlock.toList
 ok:=fun w=>(b::s.v.ownBlock.toList).Nodup∧(∃ q,(q=none∨q=some ⟨b,0,none⟩)∧w.heap[b]? = some (.cells [.pointer q,s.v].toArray Tb (0,0)))∧w.ownsRow 0 T8 1 s.v l.length ((RB T8).cells l)∧(l=[]→s=A2)∧(l≠[]→s.a≠none)
 stay:=fun {w w'} h hk=>by
  refine ⟨hk.1,?_,?_,hk.2.2.2⟩
  ·obtain ⟨q,h1,h2⟩:=hk.2.1
   exact ⟨q,h1,(h b (List.mem_cons_self ..)).trans h2⟩
  ·exact Ent.okx_of_block (e:=.row (RB T8) s.v l) (w:=w) hk.2.2.1 (fun k hk=>h k (List.mem_cons_of_mem _ hk))
 lt:=fun {w} hk k hkm=>by
  rcases List.mem_cons.1 hkm with rfl | h
  ·obtain ⟨q,-,h2⟩:=hk.2.1
   exact (Array.getElem?_eq_some_iff.1 h2).1
  ·exact Ent.okx_lt (e:=.row (RB T8) s.v l) (w:=w) hk.2.2.1 h }
section
variable {w0 w:World} {M:List Nat} {A:Nat→Prop} {es:List Ent} {Tb T8 b:Nat} {s:SV} {l:List UInt8}
theorem Sat.recast {e:Ent} {fs:List Ent} (h:Sat w0 M A (e::es) w) (hk:l3 fs=e.kl) (hok:∀ f,f∈fs→f.okx w) (hro:bt3 fs=true):Sat w0 M A (fs++es) w:=by
 have hkk:l3 (fs++es)=l3 (e::es):=by rw [E1,H0,hk]
 refine ⟨h.chg,h.dis,by rw [hkk]; exact h.nodup,fun k hm=>h.fresh k (by rw [← hkk]; exact hm),fun f hf=>?_,fun f hf=>?_⟩
 ·rcases List.mem_append.1 hf with h1 | h1
  ·exact hok f h1
  ·exact h.okx f (List.mem_cons_of_mem _ h1)
 ·rcases List.mem_append.1 hf with h1 | h1
  ·cases f with
   | ro F=>exact (aY4 hro h1).elim
   | box b T cs=>trivial
   | row R v xs=>trivial
   | obj o=>trivial
  ·rw [hkk]; exact h.okr f (List.mem_cons_of_mem _ h1)
theorem Sat.cast1 {fs:List Ent} {e:Ent} (h:Sat w0 M A (fs++es) w) (hk:l3 fs=e.kl) (hok:e.okx w) (hro:∀ F,e ≠ .ro F):Sat w0 M A (e::es) w:=by
 have hkk:l3 (e::es)=l3 (fs++es):=by rw [E1,H0,hk]
 refine ⟨h.chg,h.dis,by rw [hkk]; exact h.nodup,fun k hm=>h.fresh k (by rw [← hkk]; exact hm),fun f hf=>?_,fun f hf=>?_⟩
 ·rcases List.mem_cons.1 hf with h1 | h1
  ·subst h1; exact hok
  ·exact h.okx f (List.mem_append_right _ h1)
 ·rcases List.mem_cons.1 hf with h1 | h1
  ·subst h1
   cases f with
   | ro F=>exact (hro F rfl).elim
   | box b T cs=>trivial
   | row R v xs=>trivial
   | obj o=>trivial
  ·rw [hkk]; exact h.okr f (List.mem_append_right _ h1)
theorem Sat.openB (h:Sat w0 M A (.obj (aS2 Tb T8 b s l)::es) w):∃ q,(q=none∨q=some ⟨b,0,none⟩)∧(l=[]→s=A2)∧(l≠[]→s.a≠none)∧Sat w0 M A (.box b Tb [.pointer q,s.v] :: .row (RB T8) s.v l::es) w:=by
 obtain ⟨h1,⟨q,h2,h3⟩,h4,h5,h6⟩:(aS2 Tb T8 b s l).ok w:=h.okx _ (List.mem_cons_self ..)
 refine ⟨q,h2,h5,h6,h.recast (fs:=[.box b Tb [.pointer q,s.v],.row (RB T8) s.v l]) (by simp [l3,Ent.kl,aS2]) (fun f hf=>?_) rfl⟩
 simp only [List.mem_cons,List.not_mem_nil,or_false] at hf
 rcases hf with rfl | rfl
 ·exact h3
 ·exact h4
theorem Sat.closeB {q:Option Addr} (h:Sat w0 M A (.box b Tb [.pointer q,s.v] :: .row (RB T8) s.v l::es) w) (hq:q=none∨q=some ⟨b,0,none⟩) (h1:l=[]→s=A2) (h2:l≠[]→s.a≠none):Sat w0 M A (.obj (aS2 Tb T8 b s l)::es) w:=by
 have hnd:=h.nodup
 rw [H0,H0,← List.append_assoc] at hnd
 have hnd1:=(List.nodup_append.1 hnd).1
 refine h.cast1 (fs:=[.box b Tb [.pointer q,s.v],.row (RB T8) s.v l]) (e:=.obj (aS2 Tb T8 b s l)) (by simp [l3,Ent.kl,aS2]) ?_ (fun F h=>by cases h)
 exact ⟨hnd1,⟨q,hq,h.box (k:=0) rfl⟩,h.row (k:=1) rfl,h1,h2⟩
end
section
variable {P:Program} {Rp:Post} {K:List Lay} {N:NN} {l:Fr} {ops:Array Oper} {rest:List Oper} {d:Nat} {dd:Option Nat} {ty:Nat} {pos:String} {af:Array Edge} {g:Option (Nat × Bool)} {x y:Operand} {T T' T8 Tb b:TypeId} {c:Code}
variable {w0:World} {M:List Nat} {A:Nat→Prop} {es:List Ent} {s:SV} {bs:List UInt8} {t:ByteArray} {k:Nat} {zs:List Value}
theorem bn0 (hT:P.underlying T=some (.slice T8)) (hS:P.underlying T'=some .string) (hE:TyF P T8 false 1 1 [.int .u8 0]) {w:World} (hown:w.ownsRow 0 T8 1 s.v bs.length ((RB T8).cells bs)) (hl:bs.length+t.size≤140737488355328) (hnil:bs=[]→s=A2) :
  ∃ (s':SV) (w':World),(Builtin.append_ #[T,T'] ty #[s.v,.string t]).run P w = .ok s'.v w'∧w'.ownsRow 0 T8 1 s'.v (bs++t.data.toList).length ((RB T8).cells (bs++t.data.toList))∧Chg s.v.ownBlock.toList w w' ∧
   (∀ b,s'.v.ownBlock=some b→w.heap.size≤b∨s.v.ownBlock=some b)∧(bs++t.data.toList=[]→s'=A2)∧(bs++t.data.toList≠[]→s'.a≠none):=by
 obtain ⟨i,z,hi,hz,hzc,hsz,hby⟩:=hE.info
 have hts:t.data.toList.length=t.size:=by simp
 have hbl:(bs++t.data.toList).length=bs.length+t.size:=by rw [List.length_append,hts]
 have hcl:((RB T8).cells (bs++t.data.toList)).length=bs.length+t.size:=by rw [(RB T8).cells_len,hbl]; exact Nat.mul_one _
 have happ:(RB T8).cells (bs++t.data.toList)=(RB T8).cells bs++Lib.strCells t:=by rw [(RB T8).cells_append,bX1]
 have hzs:z.cells.size=1:=by rw [hzc]; rfl
 by_cases h0:t.size=0
 ·have ht:t.data.toList=[]:=List.eq_nil_of_length_eq_zero (by rw [hts]; exact h0)
  rw [ht,List.append_nil]
  refine ⟨s,w,?_,hown,Chg.refl _ _,fun b hb=>.inr hb,hnil,fun hne=>?_⟩
  ·have hle:s.n≤s.c:=by
    rcases hown.2 with ⟨h5,h6⟩ | ⟨g,cap,cur,h5,_,_,h6,_⟩
    ·injection h5 with _ h7 h8; omega
    ·injection h5 with _ h7 h8; omega
   have hf:=Lib.run_firstCells_string (P:=P) w 1 t
   have hsc:Lib.strCells t=[]:=by unfold Lib.strCells; rw [ht]; rfl
   rw [h0,hsc] at hf
   have hsz':i.size=1:=hsz
   simp only [SV.v]
   cases ha:s.a with
   | none=>simp [Builtin.append_,run_underlying hT,run_underlying hS,sizeOf,typeInfo,hi,hsz',Builtin.lenOf,h0,hle,hf]
   | some a=>simp [Builtin.append_,run_underlying hT,run_underlying hS,sizeOf,typeInfo,hi,hsz',Builtin.lenOf,h0,hle,hf,storeCells]
  ·intro ha
   rcases hown.2 with ⟨h5,h6⟩ | ⟨g,cap,cur,h5,_⟩
   ·exact hne (List.eq_nil_of_length_eq_zero h6)
   ·injection h5 with h7; rw [ha] at h7; cases h7
 ·have hne:bs++t.data.toList≠[]:=fun h=>by
   have:=congrArg List.length h
   rw [hbl,List.length_nil] at this
   omega
  rcases hown.2 with ⟨h5,h6⟩ | ⟨g,cap,cur,h5,_,hg,hn,hcm,hcs,ht⟩
  ·
   have hb0:bs=[]:=List.eq_nil_of_length_eq_zero h6
   subst hb0
   have hr:=run_append_nil_string (P:=P) w T T' ty T8 i z hT hS hi hz t (by omega) (by omega) (by rw [hby]; omega)
   have hge:=grownCap_ge w t.size 0 T8
   have hcm:=grownCap_le_maxLen w t.size 0 T8 (by unfold maxLen; omega)
   refine ⟨⟨some ⟨w.heap.size,0,none⟩,t.size,grownCap w t.size 0 T8⟩,_,by rw [h5]; exact hr,⟨by rw [hcl,hbl,Nat.mul_one],.inr ⟨w.heap.size,_,_,by rw [hbl]; simp [SV.v],Nat.zero_le _,Go.heap_alloc_new w.drew _,by rw [hbl]; simpa using hge,hcm,?_,?_⟩⟩,⟨rfl,rfl,rfl,by simp,fun k hk _=>Below.heap_alloc w.drew _ k hk⟩,fun b hb=>?_,fun h=>(hne h).elim,fun _=>by simp⟩
   ·have:=aq1 z.cells (grownCap w t.size 0 T8 - t.size)
    rw [hzs] at this
    simp only [Array.size_append,Array.size_map,this]
    have:t.data.size=t.size:=rfl
    omega
   ·rw [hbl,Nat.mul_one]
    simp only [List.length_nil,Nat.zero_add,Array.toList_append,Array.toList_map]
    rw [happ]
    have e:(RB T8).cells ([]:List UInt8)=[]:=rfl
    rw [e,List.nil_append]
    have e2:(Lib.strCells t).length=t.size:=Lib.strCells_length t
    rw [← e2]
    exact List.take_left
   ·simp only [Value.ownBlock,SV.v,Option.some.injEq] at hb
    exact .inl (by omega)
  ·have hcells:((RB T8).cells bs).length=bs.length:=by rw [(RB T8).cells_len]; exact Nat.mul_one _
   rw [Nat.mul_one] at ht hcs
   by_cases hroom:bs.length+t.size≤cap
   ·have hr:=Lib.run_append_room_string (P:=P) w T T' ty T8 i hT hS hi hsz g bs.length cap cur hg t hroom (by omega)
    refine ⟨⟨some ⟨g,0,none⟩,bs.length+t.size,cap⟩,_,by rw [h5]; exact hr,⟨by rw [hcl,hbl,Nat.mul_one],.inr ⟨g,cap,_,by rw [hbl],Nat.zero_le _,setRow_heap w g cur _ T8 _ hg,by rw [hbl]; exact hroom,hcm,?_,?_⟩⟩,⟨rfl,rfl,rfl,by simp,fun k _ hk=>setRow_other w g k _ (fun e=>hk (by rw [h5]; simp [Value.ownBlock,e]))⟩,fun b hb=>?_,fun h=>(hne h).elim,fun _=>by simp⟩
    ·simp only [List.size_toArray,List.length_append,List.length_take,List.length_drop,Array.length_toList,Lib.strCells_length]
     omega
    ·rw [hbl,Nat.mul_one,happ,ht]
     have:((RB T8).cells bs++Lib.strCells t).length=bs.length+t.size:=by rw [List.length_append,hcells,Lib.strCells_length]
     rw [← this]
     exact List.take_left
    ·exact .inr (by rw [h5]; exact hb)
   ·have holds:∀ j u,((RB T8).cells bs)[j]? = some u→w.cell? ((⟨g,0,none⟩:Addr).add j)=some u:=hown.cells (g:=g) (by rw [h5]; rfl)
    have hr:=Lib.run_append_grow_string (P:=P) w T T' ty T8 i z hT hS hi hz ⟨g,0,none⟩ bs.length cap ((RB T8).cells bs) (by rw [hcells,hsz,Nat.mul_one]) holds t (by omega) (by omega) (by rw [hby]; exact growslice_fits (by omega) (by omega))
    have hge:=grownCap_ge w (bs.length+t.size) cap T8
    have hcm2:=grownCap_le_maxLen w (bs.length+t.size) cap T8 (by unfold maxLen; omega)
    refine ⟨⟨some ⟨w.heap.size,0,none⟩,bs.length+t.size,grownCap w (bs.length+t.size) cap T8⟩,_,by rw [h5]; exact hr,⟨by rw [hcl,hbl,Nat.mul_one],.inr ⟨w.heap.size,_,_,by rw [hbl],Nat.zero_le _,Go.heap_alloc_new w.drew _,by rw [hbl]; exact hge,hcm2,?_,?_⟩⟩,⟨rfl,rfl,rfl,by simp,fun k hk _=>Below.heap_alloc w.drew _ k hk⟩,fun b hb=>?_,fun h=>(hne h).elim,fun _=>by simp⟩
    ·have:=aq1 z.cells (grownCap w (bs.length+t.size) cap T8 - (bs.length+t.size))
     rw [hzs] at this
     simp only [Array.size_append,List.size_toArray,hcells,Lib.strCells_length,this]
     omega
    ·rw [hbl,Nat.mul_one,happ]
     have:((RB T8).cells bs++Lib.strCells t).length=bs.length+t.size:=by rw [List.length_append,hcells,Lib.strCells_length]
     simp only [Array.toList_append]
     rw [← this]
     exact List.take_left
    ·simp only [Value.ownBlock,SV.v,Option.some.injEq] at hb
     exact .inl (by omega)
theorem bU2 (hT:P.underlying T=some (.slice T8)) (hS:P.underlying T'=some .string) (hE:TyF P T8 false 1 1 [.int .u8 0]) (hx:ev l x=some s.v) (hy:ev l y=some (.string t)) (hk:nth es k=some (.row (RB T8) s.v bs))
  (hl:bs.length+t.size≤140737488355328) (hnil:bs=[]→s=A2) (hd:Nat.blt d N.n=true)
  (h:∀ s':SV,(bs++t.data.toList=[]→s'=A2)→(bs++t.data.toList≠[]→s'.a≠none)→LJ P Rp ops rest K N ((d,s'.v)::l) (Sat w0 M A (aC6 es k (.row (RB T8) s'.v (bs++t.data.toList))))) :
  LJ P Rp ops (⟨some d,.call { callee:=.builtin .append,args:=#[x,y],argTypes:=#[T,T'] },ty,pos,af,none⟩::rest) K N l (Sat w0 M A es):=by
 intro a w hf hw
 refine wpList_plain rfl fun K' hK=>?_
 unfold Oper.wp
 obtain ⟨s',w',hrun,hown,hc,hkey,hn1,hn2⟩:=bn0 (P:=P) (ty:=ty) hT hS hE (hw.row hk) hl hnil
 have:(execOp a.eval ⟨some d,.call { callee:=.builtin .append,args:=#[x,y],argTypes:=#[T,T'] },ty,pos,af,none⟩).run P w = .ok (.value s'.v) w':=by
  simp [execOp,resolve,invoke,builtin,hf.ev hx,hf.ev hy,hrun]
 rw [this]
 refine hK _ _ (h s' hn1 hn2 _ _ (hf.put hd _) (hw.swap hk hc hown (fun b hb=>?_) (fun F hF=>by cases hF)))
 exact ⟨(World.ownsRow.lt hown b hb).2,hkey b hb⟩
theorem bY1 {ats:Array TypeId} (hx:ev l x=some s.v) (hr:FactAt es (RdS (RB T8) s.v bs)) (hnil:bs=[]→s=A2) :
  r4 P N ⟨dd,.call { callee:=.builtin .unsafeSliceData,args:=#[x],argTypes:=ats },ty,pos,af,g⟩ l (Sat w0 M A es) (.pointer s.a):=fun a w hf hw=>by
 have h1:(Builtin.unsafeSliceData_ ats ty #[s.v]).run P w = .ok (.pointer s.a) w:=by
  rcases (hr.get hw).2 with ⟨h2,_⟩ | ⟨b,off,cap,h2,h3,h4,_⟩
  ·rw [hnil h2]; exact Lib.run_unsafeSliceData_nil w ats ty 0 0
  ·injection h2 with h5 h6 h7
   simp only [SV.v,h5,h6,h7]
   by_cases h0:bs=[]
   ·have:=hnil h0
    rw [this] at h5; cases h5
   ·have:0<bs.length:=List.length_pos_iff.2 h0
    exact Lib.run_unsafeSliceData_row w ats ty _ _ _ (by omega)
 simp [execOp,resolve,invoke,builtin,hf.ev hx,h1]
theorem bU1 {pt it Tn:TypeId} (hp:P.underlying pt=some (.pointer T8)) (hc:P.cellsOf T8=1) (hx:ev l x=some (.pointer s.a)) (hy:ev l y=some (.int .i64 bs.length)) {r:List Ent} (hk:av1 es k=some (.row (RB T8) s.v bs,r)) (hnil:bs=[]→s=A2) (hd:Nat.blt d N.n=true)
  (h:LJ P Rp ops rest K N ((d,.string ⟨bs.toArray⟩)::l) (Sat w0 M A r)) :
  LJ P Rp ops (⟨some d,.call { callee:=.builtin .unsafeString,args:=#[x,y],argTypes:=#[pt,it] },Tn,pos,af,none⟩::rest) K N l (Sat w0 M A es):=by
 intro a w hf hw
 have hw1:=hw.perm (an1 hk)
 have hrow:w.ownsRow 0 T8 1 s.v bs.length ((RB T8).cells bs):=hw1.row (k:=0) rfl
 refine wpList_plain rfl fun K' hK=>?_
 unfold Oper.wp
 by_cases h0:bs=[]
 ·subst h0
  have hn:=hnil rfl
  have hrun:(Builtin.unsafeString_ #[pt,it] Tn #[.pointer s.a,.int .i64 ((([]:List UInt8).length:Nat):Int)]).run P w = .ok (.string ⟨#[]⟩) w:=Lib.run_unsafeString_none w pt it Tn s.a
  have:(execOp a.eval ⟨some d,.call { callee:=.builtin .unsafeString,args:=#[x,y],argTypes:=#[pt,it] },Tn,pos,af,none⟩).run P w = .ok (.value (.string ⟨#[]⟩)) w:=by
   simp only [List.length_nil] at hrun
   simp [execOp,resolve,invoke,builtin,hf.ev hx,hf.ev hy]
   rw [show (0:Int)=((0:Nat):Int) from rfl,hrun]; rfl
  rw [this]
  exact hK _ _ (h _ _ (hf.put hd _) (hw1.sublist (List.sublist_cons_self _ _)))
 ·rcases hrow.2 with ⟨_,h6⟩ | ⟨g,cap,cur,h5,_,hg,hn,hcm,hcs,ht⟩
  ·exact (h0 (List.eq_nil_of_length_eq_zero h6)).elim
  ·injection h5 with h7 h8 h9
   have hsh:w.shape? g=some (T8,cur.size):=by simp [World.shape?,hg]
   have hrun:=Lib.run_unsafeString_row (P:=P) w pt it Tn T8 hp hc g cur.size hsh bs h0 (by omega) (by unfold maxLen at hcm; omega) (fun j x hx=>by
    have:=hrow.cells (g:=g) (by simp only [SV.v,h7,h8,h9]; rfl) j (.int .u8 x.toNat) (by rw [bq3]; simp [hx])
    exact this)
   have:(execOp a.eval ⟨some d,.call { callee:=.builtin .unsafeString,args:=#[x,y],argTypes:=#[pt,it] },Tn,pos,af,none⟩).run P w = .ok (.value (.string ⟨bs.toArray⟩)) (w.freeze ⟨g,0,none⟩ bs.length):=by
    simp [execOp,resolve,invoke,builtin,hf.ev hx,hf.ev hy,h7]
    rw [hrun]; rfl
   rw [this]
   refine hK _ _ (h _ _ (hf.put hd _) ?_)
   have hkl:Ent.kl (.row (RB T8) s.v bs)=[g]:=by
    show s.v.ownBlock.toList=[g]
    simp only [SV.v,h7,h8,h9]
    rfl
   have hnd:=hw1.nodup
   rw [H0,hkl] at hnd
   have hc:Chg [g] w (w.freeze ⟨g,0,none⟩ bs.length):=by
    unfold World.freeze
    split
    ·exact Chg.refl _ _
    ·refine ⟨rfl,rfl,rfl,by simp,fun b hb hbg=>?_⟩
     simp only [Array.getElem?_modify]
     rw [if_neg]
     intro e
     exact hbg (by simp [e])
   have:=hw1.step (w':=w.freeze ⟨g,0,none⟩ bs.length) [g] (fun k hk'=>by rw [H0,hkl]; exact List.mem_append_left _ hk') hc r [] (List.sublist_cons_self _ _) (fun k hk1 hk2=>by
    simp only [List.mem_singleton] at hk2
    subst hk2
    exact (List.nodup_append.1 hnd).2.2 k (List.mem_singleton.2 rfl) k hk1 rfl) List.nodup_nil (fun k hk=>by cases hk) (fun e he=>by cases he) (fun e he=>by cases he)
   simpa using this
theorem bp7 (h:∀ q,(q=none∨q=some ⟨b,0,none⟩)→(bs=[]→s=A2)→(bs≠[]→s.a≠none)→CJ P Rp c K N l (Sat w0 M A (.box b Tb [.pointer q,s.v] :: .row (RB T8) s.v bs::es))) :
  CJ P Rp c K N l (Sat w0 M A (.obj (aS2 Tb T8 b s bs)::es)):=fun a w hf hw=>by
 obtain ⟨q,h1,h2,h3,h4⟩:=hw.openB
 exact h q h1 h2 h3 a w hf h4
theorem bC2 {q:Option Addr} (hq:q=none∨q=some ⟨b,0,none⟩) (h1:bs=[]→s=A2) (h2:bs≠[]→s.a≠none) (h:CJ P Rp c K N l (Sat w0 M A (.obj (aS2 Tb T8 b s bs)::es))) :
  CJ P Rp c K N l (Sat w0 M A (.box b Tb [.pointer q,s.v] :: .row (RB T8) s.v bs::es)):=fun a w hf hw=>h a w hf (hw.closeB hq h1 h2)
theorem bX9 {ag:Bool} {by_:Nat} (hE':TyF P Tb ag 2 by_ [.pointer none,.slice none 0 0]) (T8:TypeId) (hd:Nat.blt d N.n=true) (h:∀ b,LJ P Rp ops rest K N ((d,.pointer (some ⟨b,0,none⟩))::l) (Sat w0 M A (.obj (aS2 Tb T8 b A2 [])::es))) :
  LJ P Rp ops (⟨some d,.alloc Tb,ty,pos,af,none⟩::rest) K N l (Sat w0 M A es):=by
 refine ae7 hE' hd fun b=>?_
 intro a w hf hw
 have h1:=hw.nil_row (RB T8)
 have h2:=h1.perm (List.Perm.swap _ _ _)
 exact h b a w hf (Sat.closeB (s:=A2) (l:=[]) (q:=none) h2 (.inl rfl) (fun _=>rfl) (fun h=>(h rfl).elim))
end
end Go.J
namespace Go.J
open Go Go.RowKit
section
variable {P:Program} {Rp:Post} {K:List Lay} {N:NN} {l:Fr} {ops:Array Oper} {rest:List Oper} {d:Nat} {dd:Option Nat} {ty:Nat} {pos:String} {af:Array Edge} {g:Option (Nat × Bool)} {x y:Operand} {T T' Te Tb:TypeId}
variable {w0:World} {M:List Nat} {A:Nat→Prop} {es:List Ent} {H:World→Prop} {k b:Nat} {cs:List Value}
theorem aq3 {q:Option Addr} (hT:P.underlying T=some (.pointer Te)) (hx:ev l x=some (.pointer q)) (hy:ev l y=some (.pointer none)):r4 P N ⟨dd,.binOp .eql T x y T',ty,pos,af,g⟩ l H (.bool q.isNone):=al0 hx hy fun w=>by
 have hg:(eqGuard .eql T x y (.pointer q) (.pointer none)).run P w = .ok () w:=by cases q <;> simp [eqGuard]
 have h:∀ d,(Op.equalIn (d+1) T (.pointer q) (.pointer none)).run P w = .ok q.isNone w:=fun d=>by
  cases q <;> simp [Op.equalIn,run_underlying hT]
 simp only [binOp]
 simp [hg,Op.equal,Op.maxDepth,h 9999]
theorem bU4 {a:Addr} {j:TypeInfo} (hT:P.underlying T=some (.pointer Te)) (hj:P.info? Te=some j) (hx:ev l x=some (.pointer (some a))) (hy:ev l y=some (.pointer (some a))):r4 P N ⟨dd,.binOp .neq T x y T',ty,pos,af,g⟩ l H (.bool false):=al0 hx hy fun w=>by
 have hg:(eqGuard .neq T x y (.pointer (some a)) (.pointer (some a))).run P w = .ok () w:=by simp [eqGuard]
 simp [hg,Lib.run_neq_ptr_same w a hT hj]
theorem Sat.shape {w:World} (hw:Sat w0 M A es w) (hk:nth es k=some (.box b Tb cs)):w.shape? b=some (Tb,cs.length):=by
 have:=hw.box hk
 simp [World.shape?,this]
theorem bL3 {j:TypeInfo} {off:Nat} (hT:P.underlying T=some (.pointer Te)) (hT':P.underlying T'=some .unsafePointer) (hj:P.info? Te=some j) (hj0:j.size≠0) (hk:nth es k=some (.box b Tb cs)) (ho:Nat.blt off cs.length=true) (hx:ev l x=some (.pointer (some ⟨b,off,none⟩))) :
  r4 P N ⟨dd,.convert T T' x,ty,pos,af,g⟩ l (Sat w0 M A es) (.pointer (some ⟨b,off,none⟩)):=fun a w hf hw=>by
 have h:=Lib.run_to_unsafe (P:=P) (w:=w) ⟨b,off,none⟩ hT hT' hj hj0 (hw.shape hk) (by simpa [Nat.blt_eq] using ho)
 simp [execOp,hf.ev hx,h]
theorem bL4 {j:TypeInfo} {off:Nat} (hT:P.underlying T=some .unsafePointer) (hT':P.underlying T'=some (.pointer Te)) (hj:P.info? Te=some j) (hk:nth es k=some (.box b Tb cs)) (hl:liesAt P P.depth Tb (cs.length / P.cellsOf Tb) off Te 1=true) (hx:ev l x=some (.pointer (some ⟨b,off,none⟩))) :
  r4 P N ⟨dd,.convert T T' x,ty,pos,af,g⟩ l (Sat w0 M A es) (.pointer (some ⟨b,off,none⟩)):=fun a w hf hw=>by
 have h:=Lib.run_from_unsafe (P:=P) (w:=w) ⟨b,off,none⟩ hT hT' hj (hw.shape hk) hl
 simp [execOp,hf.ev hx,h]
theorem bs5 {f:FuncId} {c:Operand} {ags:List Operand} {ats:Array TypeId} {avs:List Value} {v:Value} (hcf:∀ w,(callFunc f avs.toArray).run P w = .ok (.value v) w) (hc:ev l c=some (.func (.func f) #[] #[])) (ha:evA l ags=some avs) :
  r4 P N ⟨dd,.call { callee:=.value c,args:=ags.toArray,argTypes:=ats },ty,pos,af,g⟩ l H v:=fun a w hf hw=>by
 have h1:=hf.evA ha
 have h2:=hf.ev hc
 have h3:ags.toArray.map a.eval=avs.toArray:=by rw [← h1]; simp
 simp [execOp,resolve,Deferred.ofValue,invoke,h2,h3,hcf]
end
end Go.J
namespace Go.J
open Go Go.RowKit
set_option linter.unusedSimpArgs false
set_option linter.unusedSectionVars false
section
variable {K V V':Type} [DecidableEq K]
def lkM (l:List (K × V)) (k:K):Option V:=(l.find? fun p=>decide (p.1=k)).map (·.2)
def G3 (l:List (K × V)) (k:K):Bool:=l.any fun p=>decide (p.1=k)
def q9 (l:List (K × V)) (k:K) (v:V):List (K × V):=if G3 l k then l.map (fun p=>if p.1=k then (k,v) else p) else l++[(k,v)]
def mpV (f:V→V') (l:List (K × V)):List (K × V'):=l.map fun p=>(p.1,f p.2)
theorem ao6 (f:V→V') (l:List (K × V)) (k:K):lkM (mpV f l) k=(lkM l k).map f:=by
 unfold lkM mpV
 induction l with
 | nil=>rfl
 | cons p l ih =>
  simp only [List.map_cons,List.find?_cons]
  cases decide (p.1=k)
  ·exact ih
  ·rfl
theorem aZ2 (f:V→V') (l:List (K × V)) (k:K):G3 (mpV f l) k=G3 l k:=by
 unfold G3 mpV
 rw [List.any_map]; rfl
theorem ax4 (f:V→V') (l:List (K × V)) (k:K) (v:V):q9 (mpV f l) k (f v)=mpV f (q9 l k v):=by
 unfold q9
 rw [aZ2]
 split
 ·simp only [mpV,List.map_map]
  refine List.map_congr_left fun p _=>?_
  simp only [Function.comp]
  by_cases h:p.1=k <;> simp [h]
 ·simp [mpV]
theorem Y1 (l:List (K × V)) (k:K):G3 l k=true↔k∈l.map Prod.fst:=by
 unfold G3
 simp only [List.any_eq_true,decide_eq_true_eq,List.mem_map]
theorem aF8 {l:List (K × V)} {k:K} {v:V} (hn:(l.map Prod.fst).Nodup) (i:Nat) (h:l[i]? = some (k,v)):lkM l k=some v:=by
 induction l generalizing i with
 | nil=>cases h
 | cons p l ih =>
  simp only [List.map_cons,List.nodup_cons] at hn
  cases i with
  | zero=>simp at h; subst h; simp [lkM]
  | succ i =>
   have h':l[i]? = some (k,v):=by simpa using h
   have hne:p.1≠k:=fun e=>hn.1 (by rw [e]; exact List.mem_map.2 ⟨(k,v),List.mem_of_getElem? h',rfl⟩)
   have:=ih hn.2 i h'
   unfold lkM at this ⊢
   rw [List.find?_cons,decide_eq_false hne]
   exact this
theorem aY7 {l:List (K × V)} {k:K} (h:∀ p∈l,p.1≠k):lkM l k=none:=by
 unfold lkM
 rw [List.find?_eq_none.2 (fun p hp=>by simpa using h p hp)]; rfl
theorem be1 {l:List (K × V)} {k:K} (h:∀ p∈l,p.1≠k):G3 l k=false:=by
 unfold G3
 rw [List.any_eq_false]
 exact fun p hp=>by simpa using h p hp
theorem bL2 {l:List (K × V)} {k:K} {v u:V} (hn:(l.map Prod.fst).Nodup) (i:Nat) (h:l[i]? = some (k,u)):q9 l k v=l.set i (k,v):=by
 have hh:G3 l k=true:=(Y1 l k).2 (List.mem_map.2 ⟨(k,u),List.mem_of_getElem? h,rfl⟩)
 unfold q9
 rw [if_pos hh]
 refine List.ext_getElem? fun j=>?_
 rw [List.getElem?_map,List.getElem?_set]
 by_cases hij:i=j
 ·subst hij
  have hi:=(List.getElem?_eq_some_iff.1 h).1
  rw [h]; simp [hi]
 ·rw [if_neg hij]
  cases hj:l[j]? with
  | none=>rfl
  | some p =>
   have hne:p.1≠k:=fun e=>hij (by
    have hi:=(List.getElem?_eq_some_iff.1 h)
    have hj:=(List.getElem?_eq_some_iff.1 hj)
    have h1:(l.map Prod.fst)[i]'(by simpa using hi.1)=(l.map Prod.fst)[j]'(by simpa using hj.1):=by
     simp only [List.getElem_map]
     rw [hi.2,hj.2]
     exact e.symm
    exact (List.getElem_inj hn).1 h1)
   simp [hne]
theorem bE5 {l:List (K × V)} {k:K} {v:V} (h:∀ p∈l,p.1≠k):q9 l k v=l++[(k,v)]:=by
 unfold q9
 rw [if_neg (by rw [be1 h]; simp)]
theorem aH0 (l:List (K × V)) (k:K) (v:V):(q9 l k v).map Prod.fst=if G3 l k then l.map Prod.fst else l.map Prod.fst++[k]:=by
 unfold q9
 split
 ·rw [List.map_map]
  refine List.map_congr_left fun p _=>?_
  simp only [Function.comp]
  by_cases h:p.1=k <;> simp [h]
 ·simp
end
structure KeyF (P:Program) (T:TypeId) {K:Type} [DecidableEq K] (kv:K→Value):Prop where
 chk:∀ em k w,(Instr.checkKey em 10000 T (kv k)).run P w = .ok () w
 eq:∀ x y w,(Op.equal T (kv x) (kv y)).run P w = .ok (decide (x=y)) w
 now:∃ d,P.underlying T=some d∧((∀ x y,Instr.sameNow d (kv x) (kv y)=some (decide (x=y)))∨∀ x y,Instr.sameNow d (kv x) (kv y)=none)
 same:∀ k,Instr.sameBits 10000 (kv k) (kv k)=true
section
variable {P:Program} {T:TypeId} {K:Type} [DecidableEq K] {kv:K→Value}
def EL (kv:K→Value) (es:List MapEntry) (l:List (K × Value)):Prop:=es.map (fun e=>(e.key,e.val))=l.map fun p=>(kv p.1,p.2)
theorem bi8 {d:TypeDesc} (h:∀ x y,Instr.sameNow d (kv x) (kv y)=some (decide (x=y))) (k:K):∀ (l:List (K × Value)) (es:List MapEntry) (n:Nat),EL kv es l →
  (∃ i v,Instr.findNow d (kv k) es n=some (some (n+i,v))∧l[i]? = some (k,v))∨(Instr.findNow d (kv k) es n=some none∧∀ p∈l,p.1≠k):=by
 intro l
 induction l with
 | nil=>intro es n he; right; cases es with
  | nil=>exact ⟨rfl,fun p hp=>by cases hp⟩
  | cons e es=>simp [EL] at he
 | cons p l ih =>
  intro es n he
  cases es with
  | nil=>simp [EL] at he
  | cons e es =>
   simp only [EL,List.map_cons,List.cons.injEq,Prod.mk.injEq] at he
   obtain ⟨⟨h1,h2⟩,h3⟩:=he
   simp only [Instr.findNow,h1,h]
   by_cases hk:k=p.1
   ·left
    rw [decide_eq_true hk]
    exact ⟨0,e.val,rfl,by rw [hk,h2]; rfl⟩
   ·rw [decide_eq_false hk]
    rcases ih es (n+1) h3 with ⟨i,v,a,b⟩ | ⟨a,b⟩
    ·left; exact ⟨i+1,v,by show Instr.findNow d (kv k) es (n+1)=_; rw [a,Nat.add_assoc,Nat.add_comm 1],by simpa using b⟩
    ·right; exact ⟨a,fun q hq=>by
      rcases List.mem_cons.1 hq with rfl | hq
      ·exact fun e=>hk e.symm
      ·exact b q hq⟩
theorem bj0 (h:∀ x y w,(Op.equal T (kv x) (kv y)).run P w = .ok (decide (x=y)) w) (k:K) (w:World):∀ (l:List (K × Value)) (es:List MapEntry) (n:Nat),EL kv es l →
  (∃ i v,(Instr.findAsking T (kv k) es n).run P w = .ok (some (n+i,v)) w∧l[i]? = some (k,v))∨((Instr.findAsking T (kv k) es n).run P w = .ok none w∧∀ p∈l,p.1≠k):=by
 intro l
 induction l with
 | nil=>intro es n he; right; cases es with
  | nil=>exact ⟨by simp [Instr.findAsking],fun p hp=>by cases hp⟩
  | cons e es=>simp [EL] at he
 | cons p l ih =>
  intro es n he
  cases es with
  | nil=>simp [EL] at he
  | cons e es =>
   simp only [EL,List.map_cons,List.cons.injEq,Prod.mk.injEq] at he
   obtain ⟨⟨h1,h2⟩,h3⟩:=he
   by_cases hk:k=p.1
   ·left
    refine ⟨0,e.val,?_,by rw [hk,h2]; rfl⟩
    simp [Instr.findAsking,h1,h,hk]
   ·rcases ih es (n+1) h3 with ⟨i,v,a,b⟩ | ⟨a,b⟩
    ·left; exact ⟨i+1,v,by simp [Instr.findAsking,h1,h,hk,a,Nat.add_assoc,Nat.add_comm 1],by simpa using b⟩
    ·right; exact ⟨by simp [Instr.findAsking,h1,h,hk,a],fun q hq=>by
      rcases List.mem_cons.1 hq with rfl | hq
      ·exact fun e=>hk e.symm
      ·exact b q hq⟩
theorem bi9 {d:TypeDesc} (h:∀ x y,Instr.sameNow d (kv x) (kv y)=none) (k:K) (l:List (K × Value)) (es:List MapEntry) (he:EL kv es l):Instr.findNow d (kv k) es 0=none∨(es=[]∧l=[]):=by
 cases l with
 | nil=>cases es with
  | nil=>exact .inr ⟨rfl,rfl⟩
  | cons e es=>simp [EL] at he
 | cons p l=>cases es with
  | nil=>simp [EL] at he
  | cons e es =>
   simp only [EL,List.map_cons,List.cons.injEq,Prod.mk.injEq] at he
   left
   simp [Instr.findNow,he.1.1,h]
theorem KeyF.find (hK:KeyF P T kv) (k:K) (w:World) (l:List (K × Value)) (es:List MapEntry) (he:EL kv es l) :
  (∃ i v,(Instr.findKey T (kv k) es).run P w = .ok (some (i,v)) w∧l[i]? = some (k,v))∨((Instr.findKey T (kv k) es).run P w = .ok none w∧∀ p∈l,p.1≠k):=by
 obtain ⟨d,hd,h | h⟩:=hK.now
 ·rcases bi8 h k l es 0 he with ⟨i,v,a,b⟩ | ⟨a,b⟩
  ·left; exact ⟨i,v,by simp [Instr.findKey,run_underlying hd,a],b⟩
  ·right; exact ⟨by simp [Instr.findKey,run_underlying hd,a],b⟩
 ·rcases bi9 h k l es he with a | ⟨rfl,rfl⟩
  ·rcases bj0 hK.eq k w l es 0 he with ⟨i,v,c,b⟩ | ⟨c,b⟩
   ·left; exact ⟨i,v,by simp [Instr.findKey,run_underlying hd,a,c],b⟩
   ·right; exact ⟨by simp [Instr.findKey,run_underlying hd,a,c],b⟩
  ·right; exact ⟨by simp [Instr.findKey,run_underlying hd,Instr.findNow],fun p hp=>by cases hp⟩
end
section
variable {K:Type} [DecidableEq K]
structure MapAt (kv:K→Value) (b:Nat) (l:List (K × Value)) (es:Array MapEntry) (clock:Nat) (w:World):Prop where
 heap:w.heap[b]? = some (.map es clock)
 el:EL kv es.toList l
 nd:(l.map Prod.fst).Nodup
 born:∀ e∈es.toList,e.born<clock
 bnd:(es.toList.map (·.born)).Nodup
def G2 (kv:K→Value) (b:Nat) (l:List (K × Value)) (es:Array MapEntry) (clock:Nat):OW:={
 ks:=[b]
 ok:=MapAt kv b l es clock
 stay:=fun {w w'} h m=>⟨(h b (List.mem_singleton.2 rfl)).trans m.heap,m.el,m.nd,m.born,m.bnd⟩
 lt:=fun {w} m k hkm=>by
  rw [List.mem_singleton.1 hkm]
  exact (Array.getElem?_eq_some_iff.1 m.heap).1 }
theorem EL.len {kv:K→Value} {es:List MapEntry} {l:List (K × Value)} (h:EL kv es l):es.length=l.length:=by
 have:=congrArg List.length h
 simpa using this
theorem EL.set {kv:K→Value} {es:List MapEntry} {l:List (K × Value)} (h:EL kv es l) (i:Nat) (k:K) (v:Value) (f:MapEntry→MapEntry) (hf:∀ e,es[i]? = some e→(f e).key=kv k∧(f e).val=v) :
  EL kv (es.modify i f) (l.set i (k,v)):=by
 unfold EL at h ⊢
 refine List.ext_getElem? fun j=>?_
 have hj:=congrArg (·[j]?) h
 simp only [List.getElem?_map] at hj ⊢
 rw [List.getElem?_modify,List.getElem?_set]
 by_cases hij:i=j
 ·subst hij
  rw [if_pos rfl]
  cases he:es[i]? with
  | none =>
   have:¬ i<l.length:=by
    rw [← EL.len h]
    exact fun hlt=>by rw [List.getElem?_eq_getElem hlt] at he; cases he
   simp [this]
  | some e =>
   have:i<l.length:=by
    rw [← EL.len h]
    exact (List.getElem?_eq_some_iff.1 he).1
   have h1:=hf e he
   simp [this,h1.1,h1.2]
 ·rw [if_neg hij]
  simp only [if_neg hij]
  simpa using hj
theorem EL.push {kv:K→Value} {es:List MapEntry} {l:List (K × Value)} (h:EL kv es l) (k:K) (v:Value) (e:MapEntry) (h1:e.key=kv k) (h2:e.val=v):EL kv (es++[e]) (l++[(k,v)]):=by
 unfold EL at h ⊢
 rw [List.map_append,List.map_append,h]
 simp [h1,h2]
theorem bF0 (es:List MapEntry) (i:Nat) (f:MapEntry→MapEntry) (hf:∀ e,(f e).born=e.born):(es.modify i f).map (·.born)=es.map (·.born):=by
 refine List.ext_getElem? fun j=>?_
 simp only [List.getElem?_map,List.getElem?_modify]
 by_cases hij:i=j
 ·subst hij; cases es[i]? <;> simp [hf]
 ·simp only [if_neg hij]; cases es[j]? <;> rfl
theorem MapAt.put {kv:K→Value} {b:Nat} {l:List (K × Value)} {es:Array MapEntry} {clock:Nat} {w w':World} (m:MapAt kv b l es clock w) {i:Nat} {k:K} {v u:Value} (hi:l[i]? = some (k,u)) (f:MapEntry→MapEntry)
  (hf:∀ e,es[i]? = some e→(f e).key=kv k∧(f e).val=v) (hb:∀ e,(f e).born=e.born) (hw:w'.heap[b]? = some (.map (es.modify i f) clock)):MapAt kv b (l.set i (k,v)) (es.modify i f) clock w':=by
 have hbm:=bF0 es.toList i f hb
 refine ⟨hw,?_,?_,?_,?_⟩
 ·rw [Array.toList_modify]
  exact m.el.set i k v f fun e he=>hf e (by simpa using he)
 ·have:(l.set i (k,v)).map Prod.fst=l.map Prod.fst:=by
   rw [List.map_set]
   have h2:=List.getElem?_eq_some_iff.1 hi
   have h3:k=(l.map Prod.fst)[i]'(by simpa using h2.1):=by simp [h2.2]
   show (l.map Prod.fst).set i k=_
   conv=>lhs; rw [h3]
   rw [List.set_getElem_self]
  rw [this]; exact m.nd
 ·rw [Array.toList_modify]
  intro e he
  have:e.born∈(es.toList.modify i f).map (·.born):=List.mem_map_of_mem he
  rw [hbm] at this
  obtain ⟨e',he',h⟩:=List.mem_map.1 this
  rw [← h]; exact m.born e' he'
 ·rw [Array.toList_modify,hbm]; exact m.bnd
theorem MapAt.push {kv:K→Value} {b:Nat} {l:List (K × Value)} {es:Array MapEntry} {clock:Nat} {w w':World} (m:MapAt kv b l es clock w) {k:K} {v:Value} (hk:∀ p∈l,p.1≠k) (hw:w'.heap[b]? = some (.map (es.push ⟨kv k,v,clock⟩) (clock+1))) :
  MapAt kv b (l++[(k,v)]) (es.push ⟨kv k,v,clock⟩) (clock+1) w':=by
 refine ⟨hw,?_,?_,?_,?_⟩
 ·rw [Array.toList_push]; exact m.el.push k v _ rfl rfl
 ·rw [List.map_append,List.nodup_append]
  refine ⟨m.nd,by simp,fun a ha c hc=>?_⟩
  simp at hc; subst hc
  obtain ⟨p,hp,rfl⟩:=List.mem_map.1 ha
  exact hk p hp
 ·rw [Array.toList_push]
  intro e he
  rcases List.mem_append.1 he with h | h
  ·have:=m.born e h; omega
  ·simp at h; subst h; simp
 ·rw [Array.toList_push,List.map_append,List.nodup_append]
  refine ⟨m.bnd,by simp,fun a ha c hc=>?_⟩
  simp at hc; subst hc
  obtain ⟨e,he,rfl⟩:=List.mem_map.1 ha
  have:=m.born e he
  omega
end
end Go.J
namespace Go.J
open Go Go.RowKit
set_option linter.unusedSimpArgs false
set_option linter.unusedSectionVars false
section
variable {P:Program} {K:Type} [DecidableEq K] {kv:K→Value} {b:Nat} {l:List (K × Value)} {es:Array MapEntry} {clock:Nat} {w:World} {T E Tk:TypeId} {k:K} {z v:Value}
theorem MapAt.entry (m:MapAt kv b l es clock w) {i:Nat} {u:Value} (h:l[i]? = some (k,u)):∃ e,es.toList[i]? = some e∧e.key=kv k∧e.val=u:=by
 have hj:=congrArg (·[i]?) m.el
 simp only [List.getElem?_map,h] at hj
 cases he:es.toList[i]? with
 | none=>rw [he] at hj; cases hj
 | some e =>
  rw [he] at hj
  simp at hj
  exact ⟨e,rfl,hj.1,hj.2⟩
theorem aE3 (hT:P.underlying T=some (.map Tk E)) (hK:KeyF P Tk kv) (hz:∀ w,(zeroValue E).run P w = .ok z w) (m:MapAt kv b l es clock w) (c:Bool) :
  (Instr.lookup T (.map (some b)) (kv k) c).run P w = .ok (if c then .tuple #[(lkM l k).getD z,.bool (G3 l k)] else (lkM l k).getD z) w:=by
 rcases hK.find k w l es.toList m.el with ⟨i,v,h1,h2⟩ | ⟨h1,h2⟩
 ·have h3:=aF8 m.nd i h2
  have h4:G3 l k=true:=(Y1 l k).2 (List.mem_map.2 ⟨(k,v),List.mem_of_getElem? h2,rfl⟩)
  cases c <;> simp [Instr.lookup,run_underlying hT,MapKept.run_getObj_map m.heap,hK.chk,h1,h3,h4]
 ·have h3:=aY7 h2
  have h4:=be1 h2
  cases c <;> simp [Instr.lookup,run_underlying hT,MapKept.run_getObj_map m.heap,hK.chk,h1,h3,h4,hz]
theorem bF7 (hK:KeyF P Tk kv) (k:K) (w:World):(Instr.keyThatStays (kv k) (kv k)).run P w = .ok (kv k) w:=by
 simp [Instr.keyThatStays,hK.same k]
theorem au9 (hT:P.underlying T=some (.map Tk E)) (hK:KeyF P Tk kv) (m:MapAt kv b l es clock w):∃ es' clock',(Instr.mapUpdate T (.map (some b)) (kv k) v).run P w = .ok () (w.putObj b (.map es' clock'))∧MapAt kv b (q9 l k v) es' clock' (w.putObj b (.map es' clock')):=by
 have hlt:=(Array.getElem?_eq_some_iff.1 m.heap).1
 have hput:∀ o:Obj,(setObj b o).run P w = .ok () (w.putObj b o):=fun o=>by rw [MapKept.run_setObj_map o m.heap]; rfl
 rcases hK.find k w l es.toList m.el with ⟨i,u,h1,h2⟩ | ⟨h1,h2⟩
 ·obtain ⟨e,he,hk,hv⟩:=m.entry h2
  have he':es[i]? = some e:=by simpa using he
  refine ⟨es.modify i fun e=>{ e with key:=kv k,val:=v },clock,?_,?_⟩
  ·simp [Instr.mapUpdate,run_underlying hT,MapKept.run_getObj_map m.heap,hK.chk,h1,he',hk,bF7 hK,hput]
  ·rw [bL2 m.nd i h2]
   exact m.put h2 _ (fun e _=>⟨rfl,rfl⟩) (fun _=>rfl) (World.putObj_heap_same hlt)
 ·refine ⟨es.push ⟨kv k,v,clock⟩,clock+1,?_,?_⟩
  ·simp [Instr.mapUpdate,run_underlying hT,MapKept.run_getObj_map m.heap,hK.chk,h1,hput]
  ·rw [bE5 h2]
   exact m.push h2 (World.putObj_heap_same hlt)
end
section
variable {P:Program} {Rp:Post} {Kk:List Lay} {N:NN} {l:Fr} {ops:Array Oper} {rest:List Oper} {d:Nat} {dd:Option Nat} {ty:Nat} {pos:String} {af:Array Edge} {g:Option (Nat × Bool)} {x y u:Operand} {T E Tk:TypeId} {c:Code}
variable {w0:World} {M:List Nat} {A:Nat→Prop} {es:List Ent} {j b:Nat} {K V:Type} [DecidableEq K] {kv:K→Value} {vv:V→Value} {L:List (K × V)} {k:K} {v z:V} {mes:Array MapEntry} {mcl:Nat}
theorem Sat.swapO {w w':World} {o o':OW} (h:Sat w0 M A es w) (hk:nth es j=some (.obj o)) (h1:o.ks=[b]) (h2:o'.ks=[b]) (hc:Chg [b] w w') (hok:o'.ok w'):Sat w0 M A (aC6 es j (.obj o')) w':=by
 have hlt:b<w.heap.size:=o.lt (h.objAt hk) b (by rw [h1]; exact List.mem_singleton.2 rfl)
 refine h.swap' hk (by show Chg o.ks w w'; rw [h1]; exact hc) hok (by show o'.ks.Nodup; rw [h2]; simp) (fun q hq=>?_) (fun F hF=>by cases hF)
 have hq':q∈o'.ks:=hq
 rw [h2] at hq'
 rw [List.mem_singleton.1 hq']
 exact ⟨Nat.lt_of_lt_of_le hlt hc.size,.inr (by show b∈o.ks; rw [h1]; exact List.mem_singleton.2 rfl)⟩
theorem by6 {w:World} {o o':Obj} (_:w.heap[b]? = some o):Chg [b] w (w.putObj b o'):=⟨rfl,rfl,rfl,by simp,fun x _ hx=>World.putObj_heap_other (fun e=>hx (by simp [e]))⟩
theorem av0 (kv:K→Value) (vv:V→Value) (hd:Nat.blt d N.n=true) (h:∀ b,LJ P Rp ops rest Kk N ((d,.map (some b))::l) (Sat w0 M A (.obj (G2 kv b (mpV vv []) #[] 0)::es))) :
  LJ P Rp ops (⟨some d,.makeMap T none,ty,pos,af,none⟩::rest) Kk N l (Sat w0 M A es):=by
 intro a w hf hw
 refine wpList_plain rfl fun K' hK=>?_
 unfold Oper.wp
 have:(execOp a.eval ⟨some d,.makeMap T none,ty,pos,af,none⟩).run P w = .ok (.value (.map (some w.heap.size))) (w.alloc (.map #[] 0)):=by
  simp [execOp,Instr.makeMap]
 rw [this]
 refine hK _ _ (h _ _ _ (hf.put hd _) ?_)
 have hal:=hw.allocO (.map #[] 0)
 refine Sat.swapO (b:=w.heap.size) (j:=0) hal rfl rfl rfl (Chg.refl _ _) ?_
 exact ⟨Go.heap_alloc_new w _,rfl,by simp [mpV],by simp,by simp⟩
theorem X1 (hT:P.underlying T=some (.map Tk E)) (hK:KeyF P Tk kv) (hz:∀ w,(zeroValue E).run P w = .ok (vv z) w) (hj:FactAt es (MapAt kv b (mpV vv L) mes mcl)) (hx:ev l x=some (.map (some b))) (hy:ev l y=some (kv k)) :
  r4 P N ⟨dd,.lookup T x y false,ty,pos,af,g⟩ l (Sat w0 M A es) (vv ((lkM L k).getD z)):=fun a w hf hw=>by
 have m:=hj.get hw
 have h:=aE3 (P:=P) (k:=k) hT hK hz m false
 rw [ao6] at h
 have e:(Option.map vv (lkM L k)).getD (vv z)=vv ((lkM L k).getD z):=by cases lkM L k <;> rfl
 simp only [e] at h
 simp [execOp,hf.ev hx,hf.ev hy,h]
theorem bd1 (hT:P.underlying T=some (.map Tk E)) (hK:KeyF P Tk kv) (hz:∀ w,(zeroValue E).run P w = .ok (vv z) w) (hj:FactAt es (MapAt kv b (mpV vv L) mes mcl)) (hx:ev l x=some (.map (some b))) (hy:ev l y=some (kv k)) :
  r4 P N ⟨dd,.lookup T x y true,ty,pos,af,g⟩ l (Sat w0 M A es) (.tuple #[vv ((lkM L k).getD z),.bool (G3 L k)]):=fun a w hf hw=>by
 have m:=hj.get hw
 have h:=aE3 (P:=P) (k:=k) hT hK hz m true
 rw [ao6,aZ2] at h
 have e:(Option.map vv (lkM L k)).getD (vv z)=vv ((lkM L k).getD z):=by cases lkM L k <;> rfl
 simp only [e] at h
 simp [execOp,hf.ev hx,hf.ev hy,h]
theorem aM8 (hT:P.underlying T=some (.map Tk E)) (hK:KeyF P Tk kv) (hj:nth es j=some (.obj (G2 kv b (mpV vv L) mes mcl))) (hx:ev l x=some (.map (some b))) (hy:ev l y=some (kv k)) (hu:ev l u=some (vv v))
  (h:∀ es' cl',LJ P Rp ops rest Kk N l (Sat w0 M A (aC6 es j (.obj (G2 kv b (mpV vv (q9 L k v)) es' cl'))))) :
  LJ P Rp ops (⟨none,.mapUpdate T x y u,ty,pos,af,none⟩::rest) Kk N l (Sat w0 M A es):=by
 intro a w hf hw
 refine wpList_plain rfl fun K' hKk=>?_
 unfold Oper.wp
 have m:MapAt kv b (mpV vv L) mes mcl w:=hw.objAt hj
 obtain ⟨es2,cl2,h1,h2⟩:=au9 (P:=P) (k:=k) (v:=vv v) hT hK m
 have:(execOp a.eval ⟨none,.mapUpdate T x y u,ty,pos,af,none⟩).run P w = .ok .skip (w.putObj b (.map es2 cl2)):=by
  simp [execOp,hf.ev hx,hf.ev hy,hf.ev hu,h1]
 rw [this]
 rw [ax4] at h2
 exact hKk _ _ (h es2 cl2 _ _ (hf.put_none undef) (Sat.swapO hw hj rfl rfl (by6 m.heap) h2))
end
end Go.J
namespace Go.J
open Go Go.RowKit
set_option linter.unusedSimpArgs false
section
variable {P:Program} {T:TypeId}
theorem bk5 (x y:ByteArray):(x==y)=decide (x=y):=by
 rw [Bool.eq_iff_iff]; simp [bv0]
theorem bF8 (h:P.underlying T=some .string):KeyF P T (fun s:ByteArray=>.string s) where
 chk:=fun em k w=>by
  have:∀ n,(Instr.checkKey em (n+1) T (.string k)).run P w = .ok () w:=fun n=>by simp [Instr.checkKey,run_underlying h]
  exact this 9999
 eq:=fun x y w=>by
  have h1:=run_equalIn_string (P:=P) w 9999 T x y h
  rw [← beq_toListBytes,bk5] at h1
  simp [Op.equal,Op.maxDepth,h1]
 now:=⟨_,h,.inl fun x y=>by simp only [Instr.sameNow]; rw [bk5]⟩
 same:=fun k=>by simp only [Instr.sameBits]; rw [bk5]; simp
theorem bU0 (vs:List Value) (h:∀ v,v∈vs→Instr.sameBits 9999 v v=true):Instr.sameBits 10000 (.agg vs.toArray) (.agg vs.toArray)=true:=by
 simp only [Instr.sameBits,beq_self_eq_true,Bool.true_and,List.all_eq_true]
 rintro ⟨a,b⟩ hab
 have:a=b∧a∈vs:=by
  rw [List.mem_iff_getElem] at hab
  obtain ⟨i,hi,he⟩:=hab
  simp at he
  obtain ⟨rfl,rfl⟩:=he
  exact ⟨rfl,List.getElem_mem _⟩
 obtain ⟨rfl,hv⟩:=this
 exact h a hv
theorem bF9 {K:Type} [DecidableEq K] {R:Rep K} {fs:Array Field} (hu:P.underlying T=some (.struct fs)) (hchk:∀ em k w,(Instr.checkKey em 10000 T (.agg (R.enc k).toArray)).run P w = .ok () w)
  (heq:∀ x y:K,EqV P 10000 T (.agg (R.enc x).toArray) (.agg (R.enc y).toArray) (decide (x=y))) (hs:∀ k v,v∈R.enc k→Instr.sameBits 9999 v v=true):KeyF P T (fun k:K=>.agg (R.enc k).toArray) where
 chk:=hchk
 eq:=fun x y w=>by
  have h1:=heq x y w
  simp [Op.equal,Op.maxDepth,h1]
 now:=⟨_,hu,.inr fun _ _=>rfl⟩
 same:=fun k=>bU0 _ (hs k)
end
theorem FactAt.map {es:List Ent} {K:Type} {kv:K→Value} [DecidableEq K] {b:Nat} {l:List (K × Value)} {mes:Array MapEntry} {mcl:Nat} (j:Nat) (h:nth es j=some (.obj (G2 kv b l mes mcl))):FactAt es (MapAt kv b l mes mcl):=.obj j h
end Go.J
namespace Go.J
open Go Go.RowKit
set_option linter.unusedSimpArgs false
set_option linter.unusedSectionVars false
noncomputable def aw9 {α β : Type} (L:List α) (f:List α → Option β):Option β:=by
 classical exact if h:∃ r,∀ L',L'.Perm L→f L'=some r then some h.choose else none
theorem ak9 {α β : Type} {L:List α} {f:List α → Option β} {r : β} (h:aw9 L f=some r):∀ L',L'.Perm L→f L'=some r:=by
 unfold aw9 at h
 split at h
 ·rename_i hx
  cases h
  exact hx.choose_spec
 ·cases h
theorem ao0 {α β : Type} {L:List α} {f:List α → Option β} {r : β} (h:∀ L',L'.Perm L→f L'=some r):aw9 L f=some r:=by
 unfold aw9
 have hx:∃ r,∀ L',L'.Perm L→f L'=some r:=⟨r,h⟩
 rw [dif_pos hx]
 have:=hx.choose_spec L (List.Perm.refl _)
 rw [h L (List.Perm.refl _)] at this
 exact this.symm
def W2 (es:Array MapEntry) (i:Nat):Nat:=((es[i]?).map (·.born)).getD 0
def J3 (b:Nat) (es:Array MapEntry) (clock:Nat) (idx:List Nat):Obj:=.mapIter (some b) clock (idx.map (W2 es)).toArray clock
section
variable {P:Program} {K:Type} [DecidableEq K] {kv:K→Value} {b r:Nat} {l:List (K × Value)} {es:Array MapEntry} {clock:Nat} {w:World}
theorem MapAt.bornOf_inj (m:MapAt kv b l es clock w) {i j:Nat} (hi:i<es.size) (hj:j<es.size) (h:W2 es i=W2 es j):i=j:=by
 unfold W2 at h
 rw [Array.getElem?_eq_getElem hi,Array.getElem?_eq_getElem hj] at h
 have h1:(es.toList.map (·.born))[i]'(by simpa using hi)=(es.toList.map (·.born))[j]'(by simpa using hj):=by simpa using h
 exact (List.getElem_inj m.bnd).1 h1
theorem MapAt.size (m:MapAt kv b l es clock w):es.size=l.length:=by
 have:=EL.len m.el
 simpa using this
theorem bf8 (m:MapAt kv b l es clock w) (_:r≠b) {idx:List Nat} (hit:w.heap[r]? = some (J3 b es clock idx)) (hlt:∀ i∈idx,i<l.length) (ty:Nat) :
  ((∀ i,i<l.length→i∈idx)∧(Instr.next (.pointer (some ⟨r,0,none⟩)) false ty).run P w = .ok (.tuple #[.bool false]) w) ∨
  ∃ (i:Nat) (k:K) (v:Value) (w':World),i∉idx∧l[i]? = some (k,v)∧(w'=w∨w'=w.drew)∧(Instr.next (.pointer (some ⟨r,0,none⟩)) false ty).run P w = .ok (.tuple #[.bool true,kv k,v]) (w'.putObj r (J3 b es clock (idx++[i]))):=by
 have hget:(getObj r).run P w = .ok (J3 b es clock idx) w:=by simp [getObj,Sem.run,hit,J3]
 have hgm:=MapKept.run_getObj_map (P:=P) m.heap
 have hsz:=m.size
 -- which are left
 have hold:∀ e,e∈es→e.born<clock:=fun e he=>m.born e (by simpa using he)
 have hcheck:(!(idx.map (W2 es)).toArray.isEmpty && !es.isEmpty&&es.all (·.born≥clock))=false:=by
  by_cases h0:es.isEmpty=true
  ·simp [h0]
  ·have:es.all (·.born≥clock)=false:=by
    rw [← Bool.not_eq_true,Array.all_eq_true]
    intro h
    have hpos:0<es.size:=by
     rcases Nat.eq_zero_or_pos es.size with h1 | h1
     ·exact absurd (by simpa using h1) h0
     ·exact h1
    have h1:=h 0 hpos
    have h2:=hold es[0] (Array.getElem_mem _)
    simp at h1
    omega
   simp [this]
 have hmem:∀ i,i<es.size→((idx.map (W2 es)).toArray.contains (W2 es i)=true↔i∈idx):=fun i hi=>by
  simp only [List.contains_toArray,List.contains_eq_mem,decide_eq_true_eq,List.mem_map]
  constructor
  ·rintro ⟨j,hj,h⟩
   rw [← m.bornOf_inj (by rw [hsz]; exact hlt j hj) hi h]
   exact hj
  ·exact fun h=>⟨i,h,rfl⟩
 generalize hleft:(es.filter fun e=>!(idx.map (W2 es)).toArray.contains e.born)=left
 have hleftold:left.filter (fun e=>decide (e.born<clock))=left:=by
  rw [Array.filter_eq_self]
  intro e he
  rw [← hleft] at he
  simp at he
  simpa using hold e he.1
 have hleftnew:left.filter (fun e=>decide (e.born≥clock)) = #[]:=by
  rw [Array.filter_eq_empty_iff]
  intro e he
  rw [← hleft] at he
  simp at he
  have:=hold e he.1
  simpa using this
 have hput:∀ (w1:World) (o:Obj),w1.heap=w.heap→(setObj r o).run P w1 = .ok () (w1.putObj r o):=fun w1 o h=>by
  have:w1.heap[r]? = some (J3 b es clock idx):=by rw [h]; exact hit
  simp [setObj,Sem.run,this,World.putObj,J3]
 have hbase:(Instr.next (.pointer (some ⟨r,0,none⟩)) false ty).run P w=((choose (.mapNext ((if left.isEmpty then #[none] else #[])++left.map some:Array (Option MapEntry)).size)).run P w).andThen fun c w1 =>
   (match ((if left.isEmpty then #[none] else #[])++left.map some:Array (Option MapEntry))[c]? with
   | some (some e)=>do setObj r (.mapIter (some b) clock ((idx.map (W2 es)).toArray.push e.born) clock); pure (.tuple #[.bool true,e.key,e.val])
   | some none=>pure (.tuple #[.bool false])
   | none => stuck "Next: no such candidate" : Sem Value).run P w1 := by
  simp only [J3] at hget
  unfold Instr.next
  simp only [Sem.run_bind,hget,Result.andThen_ok,hgm,hcheck,Bool.false_eq_true,if_false]
  simp only [hleft,hleftold,hleftnew,Array.append_empty]
  rfl
 rw [hbase]
 have hch:∀ n,0<n→∃ c w1,(choose (.mapNext n)).run P w = .ok c w1∧c<n∧(w1=w∨w1=w.drew):=fun n hn=>by
  rw [run_choose_drew]
  by_cases hf:(Question.mapNext n).forced=true
  ·exact ⟨0,w,by rw [if_pos hf],hn,.inl rfl⟩
  ·exact ⟨w.tape w.drawn (.mapNext n) % n,w.drew,by rw [if_neg hf]; rfl,Nat.mod_lt _ hn,.inr rfl⟩
 by_cases h0:left.isEmpty=true
 ·left
  refine ⟨fun i hi=>?_,?_⟩
  ·have hie:i<es.size:=by rw [hsz]; exact hi
   rw [← hmem i hie]
   have hb:W2 es i=es[i].born:=by unfold W2; rw [Array.getElem?_eq_getElem hie]; rfl
   have:¬ es[i]∈left:=by
    have:left = #[]:=by simpa using h0
    rw [this]; simp
   rw [← hleft,Array.mem_filter] at this
   rw [hb]
   have hm:es[i]∈es:=Array.getElem_mem _
   by_cases hc:(idx.map (W2 es)).toArray.contains es[i].born=true
   ·exact hc
   ·exact absurd ⟨hm,by simpa using hc⟩ this
  ·have hl:left = #[]:=by simpa using h0
   subst hl
   rw [if_pos h0]
   have hf:(Question.mapNext ((#[none]:Array (Option MapEntry))++(#[]:Array MapEntry).map some).size).forced=true:=by simp [Question.forced]
   rw [run_choose_drew,if_pos hf]
   simp
 ·right
  rw [if_neg h0,Array.empty_append]
  have hpos:0<left.size:=by
   rcases Nat.eq_zero_or_pos left.size with h1 | h1
   ·exact absurd (by simpa using h1) h0
   ·exact h1
  obtain ⟨c,w1,h1,h2,h3⟩:=hch (left.map some).size (by simpa using hpos)
  rw [h1]
  have h2':c<left.size:=by simpa using h2
  simp only [Result.andThen_ok]
  have hcand:(left.map some)[c]? = some (some left[c]):=by simp [h2']
  rw [hcand]
  have hinl:∀ e,e∈left→e∈es∧(!(idx.map (W2 es)).toArray.contains e.born)=true:=by
   rw [← hleft]
   exact fun e he=>Array.mem_filter.1 he
  have hin:=hinl left[c] (Array.getElem_mem h2')
  obtain ⟨i,hi,he⟩:=Array.mem_iff_getElem.1 hin.1
  have hil:i<l.length:=by rw [← hsz]; exact hi
  have hb:W2 es i=left[c].born:=by unfold W2; rw [Array.getElem?_eq_getElem hi,he]; rfl
  obtain ⟨e,he1,hk,hv⟩:=m.entry (k:=l[i].1) (u:=l[i].2) (List.getElem?_eq_getElem hil)
  have hee:e=left[c]:=by
   rw [Array.getElem?_toList,Array.getElem?_eq_getElem hi,he] at he1
   exact (Option.some.inj he1).symm
  have hpush:(idx.map (W2 es)).toArray.push left[c].born=((idx++[i]).map (W2 es)).toArray:=by
   rw [List.map_append,List.map_cons,List.map_nil,hb]
   simp
  refine ⟨i,l[i].1,l[i].2,w1,?_,List.getElem?_eq_getElem hil,h3,?_⟩
  ·intro hx
   have:=(hmem i hi).2 hx
   rw [hb] at this
   rw [this] at hin
   cases hin.2
  ·have hw1:w1.heap=w.heap:=by rcases h3 with rfl | rfl <;> rfl
   rw [← hk,← hv,hee]
   simp only [Sem.run_bind,hput w1 _ hw1,Result.andThen_ok,J3]
   rw [hpush]
   rfl
end
end Go.J
namespace Go.J
open Go Go.RowKit
set_option linter.unusedSimpArgs false
set_option linter.unusedSectionVars false
section
variable {P:Program} {K:Type} [DecidableEq K] {kv:K→Value} {b r:Nat} {l:List (K × Value)} {es:Array MapEntry} {clock:Nat} {w:World}
theorem aJ2 (m:MapAt kv b l es clock w) {idx:List Nat} {i:Nat} {k:K} {v:Value} (hit:w.heap[r]? = some (J3 b es clock (idx++[i]))) (hi:l[i]? = some (k,v)) :
  (Instr.entry (.pointer (some ⟨r,0,none⟩))).run P w = .ok (.tuple #[kv k,v]) w:=by
 have hget:(getObj r).run P w = .ok (J3 b es clock (idx++[i])) w:=by simp [getObj,Sem.run,hit,J3]
 have hgm:=MapKept.run_getObj_map (P:=P) m.heap
 obtain ⟨e,he,hk,hv⟩:=m.entry hi
 have he':es[i]? = some e:=by simpa using he
 have hb:W2 es i=e.born:=by unfold W2; rw [he']; rfl
 have hfind:es.find? (fun x=>x.born==e.born)=some e:=by
  rw [Array.find?_eq_some_iff_getElem]
  obtain ⟨hlt,hge⟩:=Array.getElem?_eq_some_iff.1 he'
  refine ⟨by simp,i,hlt,hge,fun j hj=>?_⟩
  have hjs:j<es.size:=by omega
  have:es[j].born≠e.born:=fun h=>by
   have h1:W2 es j=W2 es i:=by rw [hb]; unfold W2; rw [Array.getElem?_eq_getElem hjs]; exact h
   have:=m.bornOf_inj hjs hlt h1
   omega
  simpa using this
 have hback:((idx++[i]).map (W2 es)).toArray.back? = some e.born:=by
  rw [List.map_append,List.map_cons,List.map_nil,hb]
  simp
 simp only [J3] at hget
 unfold Instr.entry
 simp only [Sem.run_bind,hget,Result.andThen_ok,hback,hgm,bne_self_eq_false,Bool.false_eq_true,if_false,hfind]
 rw [← hk,← hv]; rfl
end
theorem FactAt.cons1 {es:List Ent} {F:World→Prop} {e:Ent} (h:FactAt es F):FactAt (e::es) F:=by
 induction h with
 | ro j h=>exact .ro (j+1) h
 | row j h=>exact .row (j+1) h
 | box j h=>exact .box (j+1) h
 | obj j h=>exact .obj (j+1) h
 | der _ h ih=>exact .der ih h
def met {α : Type} (L:List α) (idx:List Nat):List α:=idx.filterMap (L[·]?)
theorem ay5 {α : Type} {L:List α} {idx:List Nat} {i:Nat} {x : α} (h:L[i]? = some x):met L (idx++[i])=met L idx++[x]:=by
 unfold met
 rw [List.filterMap_append]
 simp [h]
theorem bA9 {α : Type} (L:List α):met L (List.range L.length)=L:=by
 unfold met
 induction L with
 | nil=>rfl
 | cons x L ih =>
  rw [List.length_cons,List.range_succ_eq_map,List.filterMap_cons]
  simp only [List.getElem?_cons_zero,List.filterMap_map]
  rw [show ((fun i=>(x::L)[i]?) ∘ Nat.succ)=fun i=>L[i]? from funext fun i=>by simp]
  exact congrArg (x :: ·) ih
theorem bF1 {α : Type} {L:List α} {idx jdx:List Nat} (h:idx.Perm jdx):(met L idx).Perm (met L jdx):=h.filterMap _
theorem bt6 {α : Type} (L:List α) (a b:List Nat):met L (a++b)=met L a++met L b:=List.filterMap_append ..
theorem ay6 {α : Type} (L:List α) {idx:List Nat} (hn:idx.Nodup) (hlt:∀ i∈idx,i<L.length):(met L idx++met L ((List.range L.length).filter fun i=>!decide (i∈idx))).Perm L:=by
 have hp:(idx++(List.range L.length).filter fun i=>!decide (i∈idx)).Perm (List.range L.length):=by
  rw [List.perm_ext_iff_of_nodup]
  ·intro a
   simp only [List.mem_append,List.mem_filter,List.mem_range,Bool.not_eq_true',decide_eq_false_iff_not]
   constructor
   ·rintro (h | h)
    ·exact hlt a h
    ·exact h.1
   ·intro h
    by_cases ha:a∈idx
    ·exact .inl ha
    ·exact .inr ⟨h,ha⟩
  ·rw [List.nodup_append]
   refine ⟨hn,List.Pairwise.filter _ List.nodup_range,fun a ha c hc=>?_⟩
   simp only [List.mem_filter,Bool.not_eq_true',decide_eq_false_iff_not] at hc
   exact fun e=>hc.2 (e ▸ ha)
  ·exact List.nodup_range
 rw [← bt6]
 exact (bF1 hp).trans (by rw [bA9])
section
variable {P:Program} {R:Post} {Kk:List Lay} {N:NN} {fr l:Fr} {ops:Array Oper} {rest:List Oper} {d:Nat} {dd:Option Nat} {ty:Nat} {pos:String} {af:Array Edge} {g:Option (Nat × Bool)} {x y u:Operand} {T E Tk:TypeId} {c:Code}
variable {w0:World} {M:List Nat} {A:Nat→Prop} {es:List Ent} {j k b rb:Nat} {K V:Type} [DecidableEq K] {kv:K→Value} {vv:V→Value} {L:List (K × V)} {v z:V} {mes:Array MapEntry} {mcl:Nat}
theorem aX5 (hT:P.underlying T=some (.map Tk E)) (hM:FactAt es (MapAt kv b (mpV vv L) mes mcl)) (hx:ev l x=some (.map (some b))) (hd:Nat.blt d N.n=true)
  (h:∀ rb,rb≠b→LJ P R ops rest Kk N ((d,.pointer (some ⟨rb,0,none⟩))::l) (Sat w0 M A (.obj (D4 rb (J3 b mes mcl []))::es))) :
  LJ P R ops (⟨some d,.range T x,ty,pos,af,none⟩::rest) Kk N l (Sat w0 M A es):=by
 intro a w hf hw
 refine wpList_plain rfl fun K' hK=>?_
 unfold Oper.wp
 have m:=hM.get hw
 have hlt:b<w.heap.size:=(Array.getElem?_eq_some_iff.1 m.heap).1
 have:(execOp a.eval ⟨some d,.range T x,ty,pos,af,none⟩).run P w = .ok (.value (.pointer (some ⟨w.heap.size,0,none⟩))) (w.alloc (J3 b mes mcl [])):=by
  simp [execOp,hf.ev hx,Instr.range,run_underlying hT,MapKept.run_getObj_map m.heap,J3]
 rw [this]
 exact hK _ _ (h w.heap.size (by omega) _ _ (hf.put hd _) (hw.allocO (J3 b mes mcl [])))
theorem bE7 {idx:List Nat} {i:Nat} {kk:K} (hM:FactAt es (MapAt kv b (mpV vv L) mes mcl)) (hk:nth es k=some (.obj (D4 rb (J3 b mes mcl (idx++[i]))))) (hi:L[i]? = some (kk,v)) (hx:ev l x=some (.pointer (some ⟨rb,0,none⟩))) :
  r4 P N ⟨dd,.entry x,ty,pos,af,g⟩ l (Sat w0 M A es) (.tuple [kv kk,vv v].toArray):=fun a w hf hw=>by
 have m:=hM.get hw
 have hit:w.heap[rb]? = some (J3 b mes mcl (idx++[i])):=hw.objAt hk
 have hi':(mpV vv L)[i]? = some (kk,vv v):=by unfold mpV; rw [List.getElem?_map,hi]; rfl
 have h:=aJ2 (P:=P) m hit hi'
 simp [execOp,hf.ev hx,h]
theorem bs0 {idx:List Nat} (hM:FactAt es (MapAt kv b (mpV vv L) mes mcl)) (hk:nth es k=some (.obj (D4 rb (J3 b mes mcl idx)))) (hrb:rb≠b) (hlt:∀ i∈idx,i<L.length) (hx:ev l x=some (.pointer (some ⟨rb,0,none⟩))) (hd:Nat.blt d N.n=true)
  (h0:(∀ i,i<L.length→i∈idx)→LJ P R ops rest Kk N ((d,.tuple [.bool false].toArray)::l) (Sat w0 M A es))
  (h1:∀ i kk v,i∉idx→L[i]? = some (kk,v)→LJ P R ops rest Kk N ((d,.tuple [.bool true,kv kk,vv v].toArray)::l) (Sat w0 M A (aC6 es k (.obj (D4 rb (J3 b mes mcl (idx++[i]))))))) :
  LJ P R ops (⟨some d,.next x false,ty,pos,af,none⟩::rest) Kk N l (Sat w0 M A es):=by
 intro a w hf hw
 refine wpList_plain rfl fun K' hK=>?_
 unfold Oper.wp
 have m:=hM.get hw
 have hit:w.heap[rb]? = some (J3 b mes mcl idx):=hw.objAt hk
 have hlen:(mpV vv L).length=L.length:=by simp [mpV]
 rcases bf8 (P:=P) m hrb hit (by rw [hlen]; exact hlt) ty with ⟨hall,hrun⟩ | ⟨i,kk,v',w',hni,hli,hww,hrun⟩
 ·have:(execOp a.eval ⟨some d,.next x false,ty,pos,af,none⟩).run P w = .ok (.value (.tuple #[.bool false])) w:=by
   simp [execOp,hf.ev hx,hrun]
  rw [this]
  exact hK _ _ (h0 (by rw [hlen] at hall; exact hall) _ _ (hf.put hd _) hw)
 ·have hli':∃ v,L[i]? = some (kk,v)∧v'=vv v:=by
   unfold mpV at hli
   rw [List.getElem?_map] at hli
   cases hL:L[i]? with
   | none=>rw [hL] at hli; cases hli
   | some p =>
    rw [hL] at hli
    simp at hli
    exact ⟨p.2,by rw [← hli.1],hli.2.symm⟩
  obtain ⟨v,hv1,rfl⟩:=hli'
  have:(execOp a.eval ⟨some d,.next x false,ty,pos,af,none⟩).run P w = .ok (.value (.tuple #[.bool true,kv kk,vv v])) (w'.putObj rb (J3 b mes mcl (idx++[i]))):=by
   simp [execOp,hf.ev hx,hrun]
  rw [this]
  have hw':Sat w0 M A es w':=by
   rcases hww with rfl | rfl
   ·exact hw
   ·exact hw.drew
  exact hK _ _ (h1 i kk v hni hv1 _ _ (hf.put hd _) (hw'.putO hk))
theorem be7 {σ γ ρ β : Type} {step:Nat→K × V → σ → Option (Flow σ ρ)} {s0 : σ} {Kf:Flow σ ρ → Option β} {res : β} {bodyc:Code} {b0 b1 r1 tn tc ti ty1 ty2:Nat} {p1 p2:String} {a1 a2:Array Edge} {H:World→Prop}
  (hs:∀ L',L'.Perm L→(l8 step 0 L' s0).bind Kf=some res) (hrb:rb≠b) (g0 : γ) (l : σ → γ → Fr) (E : σ → γ → List Ent)
  (hl:SubF ((ti,.pointer (some ⟨rb,0,none⟩))::l s0 g0) fr) (hH:∀ w,H w→Sat w0 M A (.obj (D4 rb (J3 b mes mcl []))::E s0 g0) w)
  (hM:∀ s c,FactAt (E s c) (MapAt kv b (mpV vv L) mes mcl))
  (hfr:∀ s c,look (l s c) tc=none∧look (l s c) tn=none∧look (l s c) ti=none) (hne:Nat.beq tc ti=false∧Nat.beq tn ti=false∧Nat.beq tc tn=false) (hb1:Nat.blt tc N.n=true) (hb2:Nat.blt tn N.n=true)
  (after:∀ s c,Kf (.brk s)=some res→NJ P R Kk N (l s c) (Sat w0 M A (E s c)))
  (body:(∀ s c,Kf (.brk s)=some res→NJ P R Kk N (l s c) (Sat w0 M A (E s c)))→∀ (i:Nat) (x:K × V) (s : σ) (c : γ) (idx:List Nat) (ix:Nat) (g:Flow σ ρ),L[ix]? = some (x.1,x.2)→step i x s=some g→∀ J : σ → Prop,(∀ s',g = .nxt s'→J s') →
   (∀ s',g = .brk s'→Kf (.brk s')=some res)→(∀ v,g = .ret v→Kf (.ret v)=some res) →
   ∀ I:Act→World→Prop,(∀ (fr':Fr) (H':World→Prop) (s' : σ) (c' : γ),J s'→SubF ((ti,.pointer (some ⟨rb,0,none⟩))::l s' c') fr'→(∀ w,H' w→Sat w0 M A (.obj (D4 rb (J3 b mes mcl (idx++[ix])))::E s' c') w)→NJ P R (.inv I :: .blk b0::Kk) N fr' H') →
   CJ P R bodyc (.blk b1 :: .inv I :: .blk b0::Kk) N ((ti,.pointer (some ⟨rb,0,none⟩))::l s c) (Sat w0 M A (.obj (D4 rb (J3 b mes mcl (idx++[ix])))::E s c))) :
  CJ P R (.block b0 (.loop (.seq (.region r1 #[⟨some tn,.next (.tmp ti) false,ty1,p1,a1,none⟩,⟨some tc,.extract (.tmp tn) 0,ty2,p2,a2,none⟩] false) (.seq (.cond (.tmp tc) .skip (.exit b0)) (.block b1 bodyc))))) Kk N fr H:=by
 have n1:tc≠ti:=fun e=>by have:=hne.1; rw [e] at this; simp at this
 have n2:tn≠ti:=fun e=>by have:=hne.2.1; rw [e] at this; simp at this
 have n3:tc≠tn:=fun e=>by have:=hne.2.2; rw [e] at this; simp at this
 refine B4 (aP2 (σ:=List Nat × σ × γ) (fun q=>(ti,.pointer (some ⟨rb,0,none⟩))::l q.2.1 q.2.2) (fun q=>Sat w0 M A (.obj (D4 rb (J3 b mes mcl q.1))::E q.2.1 q.2.2))
  (fun n q=>n=L.length - q.1.length∧q.1.Nodup∧(∀ i∈q.1,i<L.length)∧∀ T,(met L q.1++T).Perm L→(l8 step q.1.length T q.2.1).bind Kf=some res) L.length ([],s0,g0)
  ⟨by simp,List.nodup_nil,by simp,fun T hT=>hs T (by simpa [met] using hT)⟩ hl hH ?_)
 rintro n ⟨idx,s,c⟩ ⟨hn,hnd,hlt,hrun⟩
 simp only at hn hnd hlt hrun
 have le2:∀ v v',FLe ((ti,.pointer (some ⟨rb,0,none⟩))::l s c) ((tc,v)::(tn,v')::(ti,.pointer (some ⟨rb,0,none⟩))::l s c):=by
  intro v v' j u hj
  rw [m3]
  by_cases e:tc=j
  ·subst e
   rw [m3,if_neg n1.symm,(hfr s c).1] at hj
   cases hj
  ·rw [if_neg e,m3]
   by_cases e2:tn=j
   ·subst e2
    rw [m3,if_neg n2.symm,(hfr s c).2.1] at hj
    cases hj
   ·rw [if_neg e2]; exact hj
 refine d9 (l0 (bs0 (k:=0) (b:=b) (kv:=kv) (vv:=vv) (L:=L) (mes:=mes) (mcl:=mcl) ((hM s c).cons1) rfl hrb hlt ?_ hb2 (fun hall=>?_) (fun i kk v hni hi=>?_)))
 ·simp only [ev]; rw [m3,if_pos rfl]
 ·
  refine lp hb1 (l9 (vs:=[.bool false]) (v:=.bool false) ?_ rfl) (d3 (d9 (ah2 (c:=.tmp tc) ?_ ?_)))
  ·simp only [ev]; rw [m3,if_pos rfl]
  ·simp only [ev]; rw [m3,if_pos rfl]
  ·have hperm:(met L idx++[]).Perm L:=by
    rw [List.append_nil]
    have:=ay6 L hnd hlt
    have he:((List.range L.length).filter fun i=>!decide (i∈idx))=[]:=by
     rw [List.filter_eq_nil_iff]
     intro i hi
     have:=hall i (List.mem_range.1 hi)
     simp [this]
    rw [he] at this
    simpa [met] using this
   have hk:=hrun [] hperm
   refine L2 (K':=Kk) ?_ (fun a w hf hw=>after s c hk a w (hf.le ?_) (hw.sublist (List.sublist_cons_self _ _)))
   ·simp [target]
   ·intro j u hj
    rw [m3,if_neg (fun e=>by subst e; rw [(hfr s c).1] at hj; cases hj),m3,if_neg (fun e=>by subst e; rw [(hfr s c).2.1] at hj; cases hj),m3,if_neg (fun e=>by subst e; rw [(hfr s c).2.2] at hj; cases hj)]
    exact hj
 ·
  have hil:i<L.length:=(List.getElem?_eq_some_iff.1 hi).1
  have hnd':(idx++[i]).Nodup:=by
   rw [List.nodup_append]
   exact ⟨hnd,by simp,fun a ha c hc=>by simp at hc; subst hc; exact fun e=>hni (e ▸ ha)⟩
  have hlt':∀ j∈idx++[i],j<L.length:=fun j hj=>by
   rcases List.mem_append.1 hj with h | h
   ·exact hlt j h
   ·simp at h; subst h; exact hil
  have hrest:=ay6 L hnd' hlt'
  rw [ay5 hi] at hrest
  generalize met L ((List.range L.length).filter fun j=>!decide (j∈idx++[i]))=T0 at hrest
  have h0:=hrun ((kk,v)::T0) (by simpa using hrest)
  have hstep:∀ T,(l8 step idx.length ((kk,v)::T) s)=(step idx.length (kk,v) s).bind fun f=>f.run (fun s'=>l8 step (idx.length+1) T s') (fun s'=>some (.brk s')) (fun v=>some (.ret v)):=fun T=>rfl
  rw [hstep] at h0
  cases hg:step idx.length (kk,v) s with
  | none=>rw [hg] at h0; cases h0
  | some g =>
   rw [hg] at h0
   refine lp hb1 (l9 (vs:=[.bool true,kv kk,vv v]) (v:=.bool true) ?_ rfl) (d3 (d9 (aH8 (c:=.tmp tc) ?_ (j3 (l7 (B4 ?_))))))
   ·simp only [ev]; rw [m3,if_pos rfl]
   ·simp only [ev]; rw [m3,if_pos rfl]
   ·have hbody:=body after idx.length (kk,v) s c idx i g hi hg (fun s'=>g = .nxt s') (fun s' e=>e) (fun s' e=>by subst e; exact h0) (fun v e=>by subst e; exact h0)
     (fun a w=>∃ (n':Nat) (s':List Nat × σ × γ),n'<n∧(n'=L.length - s'.1.length∧s'.1.Nodup∧(∀ i∈s'.1,i<L.length)∧∀ T,(met L s'.1++T).Perm L→(l8 step s'.1.length T s'.2.1).bind Kf=some res)∧Frm N ((ti,.pointer (some ⟨rb,0,none⟩))::l s'.2.1 s'.2.2) a∧Sat w0 M A (.obj (D4 rb (J3 b mes mcl s'.1))::E s'.2.1 s'.2.2) w)
     (fun fr' H' s' c' hJ hsub hH'=>ah4 fun a w hf hw=>by
      have hlen:idx.length<L.length:=by
       have:=List.Nodup.length_le_of_subset hnd' (l₂:=List.range L.length) (fun j hj=>List.mem_range.2 (hlt' j hj))
       simp at this; omega
      refine ⟨L.length - (idx++[i]).length,(idx++[i],s',c'),by rw [hn]; simp; omega,⟨rfl,hnd',hlt',fun T hT=>?_⟩,hf.sub hsub,hH' w hw⟩
      have h1:=hrun ((kk,v)::T) (by rw [ay5 hi] at hT; simpa using hT)
      rw [hstep,hg,hJ] at h1
      have h1:(l8 step (idx.length+1) T s').bind Kf=some res:=h1
      simpa using h1)
    exact fun a w hf hw=>hbody a w (hf.le (le2 _ _)) hw
end
end Go.J
namespace Go.J
open Go Go.RowKit
set_option linter.unusedSimpArgs false
set_option linter.unusedSectionVars false
def bo9 (TM TK TF TB:Nat) (p q:String):Code :=
 .seq (.region 0 #[⟨some 4,.load TM (.tmp 1),TM,p,#[],none⟩,⟨some 5,.range TM (.tmp 4),0,p,#[⟨0,.data⟩],none⟩] false)
  (.block 0 (.loop (.seq (.region 1 #[⟨some 6,.next (.tmp 5) false,0,p,#[],none⟩,⟨some 7,.extract (.tmp 6) 0,TB,p,#[⟨0,.data⟩],none⟩] false)
   (.seq (.cond (.tmp 7) .skip (.exit 0)) (.block 1 (.seq (.region 2 #[⟨some 8,.entry (.tmp 5),0,p,#[],none⟩,⟨some 9,.extract (.tmp 8) 0,TK,p,#[⟨0,.data⟩],none⟩,⟨some 3,.assign (.tmp 9),TK,p,#[⟨1,.data⟩,⟨0,.phase⟩,⟨1,.phase⟩],none⟩] false)
    (.seq (.region 3 #[⟨some 10,.move (.tmp 0),TF,q,#[],none⟩,⟨some 11,.move (.tmp 3),TK,q,#[],none⟩,⟨some 12,.call { callee:=.value (.tmp 10),args:=#[.tmp 11],argTypes:=#[TK] },TB,q,#[⟨0,.data⟩,⟨1,.data⟩],none⟩,
      ⟨some 13,.unOp .not TB (.tmp 12),TB,q,#[⟨2,.data⟩],none⟩] false) (.cond (.tmp 13) .ret .skip))))))))
section
variable {P:Program} {w0:World} {M:List Nat} {A:Nat→Prop} {K V σ γ ρ β : Type} [DecidableEq K] {kv:K→Value} {vv:V→Value} {L:List (K × V)} {mes:Array MapEntry} {mcl mb:Nat} {fn:Func} {kb bx TM TE TK TF TB by2:Nat} {p q:String} {zs2:List Value}
theorem bF3 (hfn:P.funcs[kb]? = some fn) (hbody:fn.body=some (bo9 TM TK TF TB p q)) (hnt:fn.ntmps=14) (hres:fn.results = #[]) (hT:P.underlying TM=some (.map TK TE)) (hS:TyF P TM false 1 by2 zs2) {lo:Nat} {rc:Loop} (hrp:rc.params.size=1) {o1:OW}
  {step:Nat→K → σ → Option (Flow σ ρ)} {s0 : σ} {Kf:Flow σ ρ → Option β} {res : β} (hs:∀ L',L'.Perm (L.map Prod.fst)→(l8 step 0 L' s0).bind Kf=some res) (es : σ → γ → List Ent) (g0 : γ)
  (hbx:∀ s c,FactAt (es s c) (V1 bx TM [.map (some mb)])) (hM:∀ s c,FactAt (es s c) (MapAt kv mb (mpV vv L) mes mcl))
  (round:∀ (i:Nat) (x:K) (s : σ) (c : γ) (g:Flow σ ρ),step i x s=some g→∀ (oi:OW) W,Sat w0 M A (.obj o1 :: .obj (D4 lo (.loop rc)) :: .obj oi::es s c) W →
   RoundIn Fence.wide 0 P lo rc.fn ((rc.params.zip #[kv x]).foldl (fun tmps (t,a)=>tmps.setIfInBounds t a) rc.tmps) rc.assign rc.body W fun e W' =>
    e = .returned (.bool true)∧∃ s' c',g = .nxt s'∧Sat w0 M A (.obj o1 :: .obj (D4 lo (.loop rc)) :: .obj oi::es s' c') W')
  {W:World} (hW:Sat w0 M A (.obj o1 :: .obj (D4 lo (.loop rc))::es s0 g0) W) :
  CallsIn Fence.wide 0 P kb #[.func (.yield lo) #[] #[],.pointer (some ⟨bx,0,none⟩)] W fun e W'=>(∃ v,e = .returned v)∧∃ s c,Kf (.brk s)=some res∧Sat w0 M A (.obj o1 :: .obj (D4 lo (.loop rc))::es s c) W':=by
 refine callsIn_of_wp hfn hbody trivial ?_ rfl
 have hf0:=aH3 (vs:=[(0,.func (.yield lo) #[] #[]),(1,.pointer (some ⟨bx,0,none⟩))]) (args:=[.func (.yield lo) #[] #[],.pointer (some ⟨bx,0,none⟩)]) hnt rfl ⟨rfl,rfl,trivial⟩
 have ldS:∀ {l:Fr} {d:Option Nat} {ty:Nat} {pos:String} {af:Array Edge} {s : σ} {c : γ},ev l (.tmp 1)=some (.pointer (some ⟨bx,0,none⟩)) →
   r4 P ⟨14,[]⟩ ⟨d,.load TM (.tmp 1),ty,pos,af,none⟩ l (Sat w0 M A (.obj o1 :: .obj (D4 lo (.loop rc))::es s c)) (.map (some mb)):=by
  intro l d ty pos af s c hx a w hf hw
  have hb:w.heap[bx]? = some (.cells [.map (some mb)].toArray TM (0,0)):=(hbx s c).cons1.cons1.get hw
  have h:w.cell? ⟨bx,0,none⟩=some (.map (some mb)):=by rw [cell_of_row w bx 0 _ _ _ hb]; rfl
  simp [execOp,hf.ev hx,Instr.loadAt,Instr.sureAddr,ad3 hS h]
 refine wpIn_seq (au8 (l0 (lp rfl (ldS rfl) (aX5 (vv:=vv) hT (hM s0 g0).cons1.cons1 rfl rfl fun rb hrb=>d5 (aw6 fun a w hf hw=>?_)))) hf0 hW)
 have hw:Sat w0 M A (.obj o1 :: .obj (D4 lo (.loop rc)) :: .obj (D4 rb (J3 mb mes mcl []))::es s0 g0) w:=hw.perm ((List.Perm.swap _ _ _).trans (List.Perm.cons _ (List.Perm.swap _ _ _)))
 refine wpIn_block (aJ7 (fun k a w=>∃ (idx:List Nat) (s : σ) (c : γ),k=L.length - idx.length∧idx.Nodup∧(∀ i∈idx,i<L.length)∧(∀ T,(met (L.map Prod.fst) idx++T).Perm (L.map Prod.fst)→(l8 step idx.length T s).bind Kf=some res) ∧
  Frm ⟨14,[]⟩ [(0,.func (.yield lo) #[] #[]),(1,.pointer (some ⟨bx,0,none⟩)),(5,.pointer (some ⟨rb,0,none⟩))] a∧Sat w0 M A (.obj o1 :: .obj (D4 lo (.loop rc)) :: .obj (D4 rb (J3 mb mes mcl idx))::es s c) w) L.length
  ⟨[],s0,g0,by simp,List.nodup_nil,by simp,fun T hT=>hs T (by simpa [met] using hT),hf.sub ⟨rfl,rfl,rfl,trivial⟩,hw⟩ ?_)
 clear hf hw hW hf0 hs
 rintro k a w ⟨idx,s,c,hk,hnd,hlt,hrun,hf,hw⟩
 refine wpIn_seq (au8 (l0 (bs0 (k:=2) (b:=mb) (kv:=kv) (vv:=vv) (L:=L) (mes:=mes) (mcl:=mcl) (hM s c).cons1.cons1.cons1 rfl hrb hlt rfl rfl (fun hall=>lp rfl (l9 (vs:=[.bool false]) rfl rfl) (d5 (aw6 fun a w hf hw=>?_)))
  (fun i kk v hni hi=>lp rfl (l9 (vs:=[.bool true,kv kk,vv v]) rfl rfl) (d5 (aw6 fun a w hf hw=>?_))))) hf hw)
 ·
  refine wpIn_seq (wpIn_cond_false (hf.ev rfl) (wpIn_exit ?_))
  have hperm:(met (L.map Prod.fst) idx++[]).Perm (L.map Prod.fst):=by
   rw [List.append_nil]
   have h1:=ay6 (L.map Prod.fst) hnd (fun i hi=>by rw [List.length_map]; exact hlt i hi)
   have he:((List.range (L.map Prod.fst).length).filter fun i=>!decide (i∈idx))=[]:=by
    rw [List.filter_eq_nil_iff]
    intro i hi
    have:=hall i (by simpa using List.mem_range.1 hi)
    simp [this]
   rw [he] at h1
   simpa [met] using h1
  have hkf:=hrun [] hperm
  show _∧_
  refine ⟨hf.defers,.tuple #[],?_,⟨_,rfl⟩,s,c,hkf,hw.sublist (List.Sublist.cons_cons _ (List.Sublist.cons_cons _ (List.sublist_cons_self _ _)))⟩
  simp [results,hres]
 ·
  have hil:i<L.length:=(List.getElem?_eq_some_iff.1 hi).1
  have hik:(L.map Prod.fst)[i]? = some kk:=by rw [List.getElem?_map,hi]; rfl
  have hnd':(idx++[i]).Nodup:=by
   rw [List.nodup_append]
   exact ⟨hnd,by simp,fun a ha c hc=>by simp at hc; subst hc; exact fun e=>hni (e ▸ ha)⟩
  have hlt':∀ j∈idx++[i],j<L.length:=fun j hj=>by
   rcases List.mem_append.1 hj with h | h
   ·exact hlt j h
   ·simp at h; subst h; exact hil
  have hlen:idx.length<L.length:=by
   have:=List.Nodup.length_le_of_subset hnd' (l₂:=List.range L.length) (fun j hj=>List.mem_range.2 (hlt' j hj))
   simp at this; omega
  have hrest:=ay6 (L.map Prod.fst) hnd' (fun j hj=>by rw [List.length_map]; exact hlt' j hj)
  rw [ay5 hik] at hrest
  generalize met (L.map Prod.fst) ((List.range (L.map Prod.fst).length).filter fun j=>!decide (j∈idx++[i]))=T0 at hrest
  have h0:=hrun (kk::T0) (by simpa using hrest)
  have hstep:∀ T,(l8 step idx.length (kk::T) s)=(step idx.length kk s).bind fun f=>f.run (fun s'=>l8 step (idx.length+1) T s') (fun s'=>some (.brk s')) (fun v=>some (.ret v)):=fun T=>rfl
  rw [hstep] at h0
  cases hg:step idx.length kk s with
  | none=>rw [hg] at h0; cases h0
  | some g =>
   refine wpIn_seq (wpIn_cond_true (hf.ev rfl) (wpIn_skip ?_))
   have hw:Sat w0 M A (.obj o1 :: .obj (D4 lo (.loop rc)) :: .obj (D4 rb (J3 mb mes mcl (idx++[i])))::es s c) w:=hw
   refine wpIn_block (wpIn_seq (au8 (l0 (lp rfl (bE7 (k:=2) (kk:=kk) (v:=v) (vv:=vv) (hM s c).cons1.cons1.cons1 rfl hi rfl) (lp rfl (l9 (vs:=[kv kk,vv v]) (v:=kv kk) rfl rfl) (lp rfl (G9 (v:=kv kk) rfl) (d5 (aw6 fun a w hf hw=>?_)))))) hf hw))
   refine wpIn_seq (wpIn_region ?_)
   show wpOpsIn Fence.wide 0 P _ _ [0,1,2,3] _ _
   refine ah1 rfl rfl rfl rfl (m0 (v:=.func (.yield lo) #[] #[]) rfl) hf hw fun a hf=>ah1 rfl rfl rfl rfl (m0 (v:=kv kk) rfl) hf hw fun a hf=>?_
   have hl:w.heap[lo]? = some (.loop rc):=hw.objAt (k:=1) rfl
   unfold wpOpsIn
   simp only [List.getElem?_toArray,List.getElem?_cons_succ,List.getElem?_cons_zero]
   rw [if_pos (by simp [Region.wanted])]
   refine ⟨fun _ _=>trivial,?_⟩
   rw [show Fence.wide.round=none from rfl,Oper.semAt_none]
   have hy:=run_yield (P:=P) (args:=#[kv kk]) hl (by simp [hrp])
   have hcall:(execOp a.eval ⟨some 12,.call { callee:=.value (.tmp 10),args:=#[.tmp 11],argTypes:=#[TK] },TB,q,#[⟨0,.data⟩,⟨1,.data⟩],none⟩).run P w =
     .ok (.round lo rc.fn ((rc.params.zip #[kv kk]).foldl (fun tmps (t,a)=>tmps.setIfInBounds t a) rc.tmps) rc.assign rc.body) w:=by
    have h10:a.eval (.tmp 10) = .func (.yield lo) #[] #[]:=hf.ev rfl
    have h11:a.eval (.tmp 11)=kv kk:=hf.ev rfl
    simp [execOp,resolve,Deferred.ofValue,h10,h11,invoke,hy]
   rw [hcall]
   refine ⟨fun h=>by simp [Fence.wide] at h,(round idx.length kk s c g hg _ w hw).mono ?_⟩
   rintro e w' ⟨rfl,s',c',rfl,hw'⟩
   have hf':=hf.put (d:=12) rfl (.bool true)
   refine ah1 (v:=.bool false) rfl rfl rfl rfl (p4 (b:=true) rfl) hf' hw' fun a hf=>?_
   refine wpIn_cond_false (hf.ev rfl) (wpIn_skip ?_)
   refine ⟨L.length - (idx++[i]).length,by rw [hk]; simp; omega,idx++[i],s',c',rfl,hnd',hlt',fun T hT=>?_,hf.sub ⟨rfl,rfl,rfl,trivial⟩,hw'⟩
   have h1:=hrun (kk::T) (by rw [ay5 hik] at hT; simpa using hT)
   rw [hstep,hg] at h1
   have h1:(l8 step (idx.length+1) T s').bind Kf=some res:=h1
   simpa using h1
theorem by5 {Rp:Post} {Kk:List Lay} {l:Fr} {H:World→Prop} {n tf p1 b0 b1:Nat} {asg bodyc:Code} (hfn:P.funcs[kb]? = some fn) (hbody:fn.body=some (bo9 TM TK TF TB p q)) (hnt:fn.ntmps=14) (hres:fn.results = #[])
  (hT:P.underlying TM=some (.map TK TE)) (hS:TyF P TM false 1 by2 zs2) (hcf:∀ args w,(callFunc kb args).run P w = .ok (.enter kb args) w)
  (hfv:ev l (.tmp tf)=some (.func (.func kb) #[] [.pointer (some ⟨bx,0,none⟩)].toArray)) (h1:Nat.blt p1 n=true) (hra:as3 asg=true) (hrb:as3 bodyc=true)
  {step:Nat→K → σ → Option (Flow σ ρ)} {s0 : σ} {Kf:Flow σ ρ → Option β} {res : β} (hs:∀ L',L'.Perm (L.map Prod.fst)→(l8 step 0 L' s0).bind Kf=some res) (es : σ → γ → List Ent) (g0 : γ) (hH:∀ w,H w→Sat w0 M A (es s0 g0) w)
  (hbx:∀ s c,FactAt (es s c) (V1 bx TM [.map (some mb)])) (hM:∀ s c,FactAt (es s c) (MapAt kv mb (mpV vv L) mes mcl))
  (after:∀ s c D,Kf (.brk s)=some res→NJ P Rp Kk ⟨n,[aA4 D]⟩ l (Sat w0 M A (.obj (am1 D)::es s c)))
  (body:∀ (i:Nat) (x:K) (s : σ) (c : γ) (g:Flow σ ρ),step i x s=some g→∀ (o1 o2 o3 oi:OW) (I I0:Act→World→Prop),
   (∀ (fr':Fr) (H':World→Prop) (s' : σ) (c' : γ),g = .nxt s'→(∀ w,H' w→Sat w0 M A (.obj o1 :: .obj o3 :: .obj oi::es s' c') w)→NJ P RF [.inv I] ⟨n,[]⟩ fr' H') →
   (∀ (fr':Fr) (H':World→Prop) (es':List Ent),(∀ w,H' w→Sat w0 M A (.obj o1 :: .obj o2::es') w)→CJ P RF (.block b1 bodyc) [.inv I] ⟨n,[]⟩ fr' (Sat w0 M A (.obj o1 :: .obj o3::es'))→NJ P RF [.inv I0] ⟨n,[]⟩ fr' H') →
   CJ P RF asg [.inv I0] ⟨n,[]⟩ ((p1,kv x)::l) (Sat w0 M A (.obj o1 :: .obj o2 :: .obj oi::es s c))) :
  CJ P Rp (.block b0 (.rangeFunc (.tmp tf) #[p1] asg (.block b1 bodyc))) Kk ⟨n,[]⟩ l H:=by
 intro a w hf hw
 refine aG7 ?_
 show (Code.rangeFunc (.tmp tf) #[p1] asg (.block b1 bodyc)).wp P (Exit.inBlock b0 (QK P Rp Kk)) a w
 rw [← wpIn_wide (n:=0)]
 refine wpIn_rangeFunc fun fnn _=>?_
 let rc:Loop:={ state:=.ready,pending:=none,fn:=fnn,tmps:=a.tmps,params:=#[p1],assign:=asg,body:=.block b1 bodyc,defers:=w.heap.size }
 have hw1:Sat w0 M A (.obj (D4 (w.heap.size+1) (.loop rc)) :: .obj (am1 w.heap.size)::es s0 g0) ((w.alloc (.deferred (some []))).alloc (.loop rc)):=by
  have e1:=(hH w hw).allocO (.deferred (some []))
  have e2:=e1.allocO (.loop rc)
  rw [World.size_alloc] at e2
  exact e2
 have hw2:=hw1.picks [1,0] (xs:=.obj (am1 w.heap.size) :: .obj (D4 (w.heap.size+1) (.loop rc))::[]) rfl
 have hfe:a.eval (.tmp tf) = .func (.func kb) #[] #[.pointer (some ⟨bx,0,none⟩)]:=hf.ev hfv
 have hperm:Sat w0 M A (.obj (am1 w.heap.size) :: .obj (D4 (w.heap.size+1) (.loop rc))::es s0 g0) ((w.alloc (.deferred (some []))).alloc (.loop rc)):=hw1.perm (List.Perm.swap _ _ _)
 clear hw2 hw1
 let W1:=(w.alloc (.deferred (some []))).alloc (.loop rc)
 have hres1:(resolve a.eval (rangeCall (.tmp tf) (w.heap.size+1)) 0).run P W1 = .ok { target:=.fn (.func kb) #[.pointer (some ⟨bx,0,none⟩)],args:=#[.func (.yield (w.heap.size+1)) #[] #[]] } W1:=by
  show (Deferred.ofValue (a.eval (.tmp tf)) _).run P _=_
  rw [hfe]
  simp [Deferred.ofValue,Act.eval]
 have hinv:(invoke (.fn (.func kb) #[.pointer (some ⟨bx,0,none⟩)]) #[.func (.yield (w.heap.size+1)) #[] #[]]).run P W1 = .ok (.enter kb #[.func (.yield (w.heap.size+1)) #[] #[],.pointer (some ⟨bx,0,none⟩)]) W1:=by
  simp [invoke,hcf]
 refine ⟨w.heap.size+1,[aA4 w.heap.size],W1,_,W1,kb,_,W1,run_enterLoop_outer _ _ _ _ _,hres1,fun _ _=>trivial,hinv,fun h=>by simp [Fence.wide] at h,?_⟩
 have hdf:a.defers=[]:=hf.defers
 refine (bF3 (o1:=am1 w.heap.size) (rc:=rc) hfn hbody hnt hres hT hS rfl hs es g0 hbx hM ?_ hperm).mono ?_
 ·
  intro i x s c g hg oi W hW
  refine roundIn_of_wpIn trivial ?_
  have hl:∀ {es'},∀ {W:World},Sat w0 M A (.obj (am1 w.heap.size) :: .obj (D4 (w.heap.size+1) (.loop rc))::es') W→W.heap[w.heap.size+1]? = some (.loop rc):=fun h=>h.objAt (k:=1) rfl
  have hfr:Frm ⟨n,[]⟩ ((p1,kv x)::l) { tmps:=(rc.params.zip #[kv x]).foldl (fun tmps (t,a)=>tmps.setIfInBounds t a) rc.tmps,defers:=[] }:=by
   have e1:=hf.put (d:=p1) h1 (kv x)
   have e2:(a.put (some p1) (kv x))={ tmps:=(rc.params.zip #[kv x]).foldl (fun tmps (t,a)=>tmps.setIfInBounds t a) rc.tmps,defers:=[] }:=by
    simp [Act.put,hdf,rc]
   rw [e2] at e1
   exact e1
  let rb:Loop:={ rc with state:=.busy }
  let I:Act→World→Prop:=fun _ W'=>∃ s' c',g = .nxt s'∧Sat w0 M A (.obj (am1 w.heap.size) :: .obj (D4 (w.heap.size+1) (.loop rb)) :: .obj oi::es s' c') W'
  have hb:=body i x s c g hg (am1 w.heap.size) (D4 (w.heap.size+1) (.loop rc)) (D4 (w.heap.size+1) (.loop rb)) oi I
   (fun a₁ w₁=>∃ w₂,(Instr.beginRound (w.heap.size+1)).run P w₁ = .ok () w₂∧Code.wpIn (Fence.wide.inRound (w.heap.size+1)) 0 P (.block b1 bodyc)
    (roundPost P (w.heap.size+1) fun e W'=>e = .returned (.bool true)∧∃ s' c',g = .nxt s'∧Sat w0 M A (.obj (am1 w.heap.size) :: .obj (D4 (w.heap.size+1) (.loop rc)) :: .obj oi::es s' c') W') a₁ w₂)
   (fun fr' H' s' c' hg' hH'=>ah4 fun a w _ hw=>⟨s',c',hg',hH' w hw⟩)
   (fun fr' H' es' hH' hc=>ah4 fun a1 w1 hf1 hw1=>by
    have hs1:=hH' w1 hw1
    refine ⟨_,run_beginRound (hl hs1) rfl,?_⟩
    have hs2:=hs1.putO (k:=1) (o':=.loop rb) rfl
    refine wpIn_mono (ar6 _ _ (by exact hrb) (fun _ _ h=>h) (hc a1 _ hf1 hs2)) ?_
    intro e a2 w2 h
    cases e with
    | normal =>
     obtain ⟨s',c',hg',hs3⟩:=h
     have hb3:w2.heap[w.heap.size+1]? = some (.loop rb):=hs3.objAt (k:=1) rfl
     exact ⟨_,_,run_endRound none hb3,rfl,s',c',hg',hs3.putO (k:=1) rfl⟩
    | exit id=>exact h.elim
    | goto l=>exact h.elim
    | ret=>exact h.elim
    | panic c=>exact h.elim
    | outgrown=>exact h.elim)
  refine wpIn_mono (ar6 _ _ hra (fun _ _ h=>h) (hb _ _ hfr hW)) ?_
  intro e a1 w1 h
  cases e <;> first | exact h | exact h.elim
 ·rintro e W ⟨⟨v,rfl⟩,s,c,hfs,hW⟩
  have hl:W.heap[w.heap.size+1]? = some (.loop rc):=hW.objAt (k:=1) rfl
  refine ⟨none,_,run_endLoop hl (by simp [rc]),?_⟩
  have hW2:=hW.putO (k:=1) (o':=.loop { rc with state:=.exhausted }) rfl
  refine after s c w.heap.size hfs _ _ ?_ (hW2.sublist (List.Sublist.cons_cons _ (List.sublist_cons_self _ _)))
  refine ⟨by simp [hdf],hf.size,hf.vals⟩
end
end Go.J
namespace Go.G
open Go Go.J
set_option linter.unusedSimpArgs false
abbrev Bs:=List UInt8
theorem bS2 (a b:UInt8):a<b∨a=b∨b<a:=by
 rcases Nat.lt_trichotomy a.toNat b.toNat with h | h | h
 ·exact .inl (UInt8.lt_iff_toNat_lt.2 h)
 ·exact .inr (.inl (UInt8.toNat_inj.1 h))
 ·exact .inr (.inr (UInt8.lt_iff_toNat_lt.2 h))
theorem br1 (a:UInt8):¬ a<a:=fun h=>by have:=UInt8.lt_iff_toNat_lt.1 h; omega
theorem bK3 {a b:UInt8} (h:a<b):¬ b<a:=fun h2=>by have:=UInt8.lt_iff_toNat_lt.1 h; have:=UInt8.lt_iff_toNat_lt.1 h2; omega
theorem aP4:∀ (a b:Bs),(Lib.compareBytes a b = -1∧a<b)∨(Lib.compareBytes a b=0∧a=b)∨(Lib.compareBytes a b=1∧b<a):=by
 intro a
 induction a with
 | nil =>
  intro b
  cases b with
  | nil=>exact .inr (.inl ⟨rfl,rfl⟩)
  | cons y t=>exact .inl ⟨rfl,List.nil_lt_cons _ _⟩
 | cons x s ih =>
  intro b
  cases b with
  | nil=>exact .inr (.inr ⟨rfl,List.nil_lt_cons _ _⟩)
  | cons y t =>
   unfold Lib.compareBytes
   rcases bS2 x y with h | rfl | h
   ·rw [if_pos h]; exact .inl ⟨rfl,List.cons_lt_cons_iff.2 (.inl h)⟩
   ·rw [if_neg (br1 x),if_neg (br1 x)]
    rcases ih t with ⟨h1,h2⟩ | ⟨h1,h2⟩ | ⟨h1,h2⟩
    ·exact .inl ⟨h1,List.cons_lt_cons_iff.2 (.inr ⟨rfl,h2⟩)⟩
    ·exact .inr (.inl ⟨h1,by rw [h2]⟩)
    ·exact .inr (.inr ⟨h1,List.cons_lt_cons_iff.2 (.inr ⟨rfl,h2⟩)⟩)
   ·rw [if_neg (bK3 h),if_pos h]; exact .inr (.inr ⟨rfl,List.cons_lt_cons_iff.2 (.inl h)⟩)
theorem bk0 (a:Bs):¬ a<a:=by
 intro h
 induction a with
 | nil=>cases h
 | cons x s ih =>
  rcases List.cons_lt_cons_iff.1 h with h | ⟨-,h⟩
  ·exact br1 x h
  ·exact ih h
theorem aZ9 {a b c:Bs} (h1:a<b) (h2:b<c):a<c:=by
 induction a generalizing b c with
 | nil =>
  cases c with
  | nil=>cases b <;> cases h2
  | cons z t=>exact List.nil_lt_cons _ _
 | cons x s ih =>
  cases b with
  | nil=>cases h1
  | cons y t =>
   cases c with
   | nil=>cases h2
   | cons z u =>
    rcases List.cons_lt_cons_iff.1 h1 with h3 | ⟨rfl,h3⟩
    ·rcases List.cons_lt_cons_iff.1 h2 with h4 | ⟨rfl,-⟩
     ·exact List.cons_lt_cons_iff.2 (.inl (UInt8.lt_trans h3 h4))
     ·exact List.cons_lt_cons_iff.2 (.inl h3)
    ·rcases List.cons_lt_cons_iff.1 h2 with h4 | ⟨rfl,h4⟩
     ·exact List.cons_lt_cons_iff.2 (.inl h4)
     ·exact List.cons_lt_cons_iff.2 (.inr ⟨rfl,ih h3 h4⟩)
theorem bk1 {a b:Bs} (h:a<b):¬ b<a:=fun h2=>bk0 a (aZ9 h h2)
theorem bj9 (a b:Bs):a<b∨a=b∨b<a:=by
 rcases aP4 a b with h | h | h
 ·exact .inl h.2
 ·exact .inr (.inl h.2)
 ·exact .inr (.inr h.2)
theorem cg1 {a b:Bs}:a≤b↔¬ b<a:=Iff.rfl
theorem bp9 {a b c:Bs} (h1:a≤b) (h2:b≤c):a≤c:=by
 rw [cg1] at *
 intro h
 rcases bj9 b a with h3 | rfl | h3
 ·exact h1 h3
 ·exact h2 h
 ·exact h2 (aZ9 h h3)
theorem aM3 (l:List Bs):(l.mergeSort fun x y=>decide (x≤y)).Pairwise fun x y=>x≤y:=by
 have tr:∀ a b c:Bs,decide (a≤b)=true→decide (b≤c)=true→decide (a≤c)=true:=fun a b c h1 h2=>by
  rw [decide_eq_true_eq] at *; exact bp9 h1 h2
 have to:∀ a b:Bs,(decide (a≤b)||decide (b≤a))=true:=fun a b=>by
  rw [Bool.or_eq_true,decide_eq_true_eq,decide_eq_true_eq]
  by_cases h:b<a
  ·exact .inr (fun h2=>bk1 h h2)
  ·exact .inl h
 exact (List.pairwise_mergeSort tr to l).imp fun h=>by simpa using h
theorem br6 {a b:List Bs} (h:a.Perm b):(a.mergeSort fun x y=>decide (x≤y))=b.mergeSort fun x y=>decide (x≤y) :=
 List.Perm.eq_of_pairwise (fun x y _ _ h1 h2=>by
  rcases bj9 x y with h3 | h3 | h3
  ·exact (h2 h3).elim
  ·exact h3
  ·exact (h1 h3).elim) (aM3 a) (aM3 b) ((List.mergeSort_perm _ _).trans (h.trans (List.mergeSort_perm _ _).symm))
noncomputable def KfP {α ρ : Type} (L:List α) (f:Flow (List α) ρ):Option Unit:=by
 classical exact if ∃ L',L'.Perm L∧f = .brk L' then some () else none
theorem bz1 {α ρ : Type} {L s:List α} (h:KfP (ρ:=ρ) L (.brk s)=some ()):s.Perm L:=by
 unfold KfP at h
 split at h
 ·rename_i hx
  obtain ⟨L',h1,h2⟩:=hx
  cases h2
  exact h1
 ·cases h
def aI1 {α ρ : Type} (by_:Nat) (_:Nat) (x : α) (u:List α):Option (Flow (List α) ρ):=(ah3 by_ u [x]).bind fun q=>some (.nxt q)
theorem aU0 {α ρ : Type} {by_:Nat} (hb:0<by_) {L:List α} (hl:L.length*by_≤140737488355328):∀ L',L'.Perm L→(l8 (aI1 (ρ:=ρ) by_) 0 L' []).bind (KfP L)=some ():=by
 intro L' hL
 have key:∀ (q p:List α) (i:Nat),(p.length+q.length)*by_≤140737488355328→l8 (aI1 (ρ:=ρ) by_) i q p=some (.brk (p++q)):=by
  intro q
  induction q with
  | nil=>intro p i _; simp [l8]
  | cons x q ih =>
   intro p i hp
   have h1:aI1 (ρ:=ρ) by_ i x p=some (.nxt (p++[x])):=by
    unfold aI1 ah3
    have:(p.length+[x].length)*by_≤140737488355328:=Nat.le_trans (Nat.mul_le_mul_right _ (by simp)) hp
    have h2:(p.length+[x].length)*1≤(p.length+[x].length)*by_:=Nat.mul_le_mul_left _ hb
    rw [if_pos ⟨this,by unfold maxLen; omega⟩]; rfl
   show ((aI1 (ρ:=ρ) by_ i x p).bind _)=_
   rw [h1]
   show l8 (aI1 (ρ:=ρ) by_) (i+1) q (p++[x])=_
   rw [ih (p++[x]) (i+1) (by simpa [Nat.add_assoc,Nat.add_comm 1] using hp)]
   simp
 rw [key L' [] 0 (by rw [hL.length_eq]; simpa using hl)]
 show KfP L (.brk ([]++L'))=_
 unfold KfP
 rw [if_pos ⟨L',hL,by simp⟩]
end Go.G
namespace Go.G
open Go Go.J
set_option linter.unusedSimpArgs false
@[irreducible] def bP9:Nat:=100000
section
variable {P:Program} {α : Type} {R:Rep α} {Rp:Post} {K:List Lay} {N:NN} {l:Fr} {ops:Array Oper} {rest:List Oper} {d:Nat} {dd:Option Nat} {ty:Nat} {pos:String} {af:Array Edge} {g:Option (Nat × Bool)} {x y:Operand} {T Ti by_:Nat} {zs:List Value}
variable {w0:World} {M:List Nat} {A:Nat→Prop} {es:List Ent} {b c k n:Nat} {m:Int} {u:Unit}
end
end Go.G
namespace Go.J
open Go Go.RowKit
set_option linter.unusedSimpArgs false
set_option linter.unusedSectionVars false
section
variable {K X G:Type} [DecidableEq K]
def ab0 {V:Type} (l:List (K × V)) (k:K) (v:V):List (K × V):=l.map fun p=>if p.1=k then (k,v) else p
theorem ar9 {V:Type} (l:List (K × V)) (k:K) (v:V):(ab0 l k v).map Prod.fst=l.map Prod.fst:=by
 unfold ab0
 rw [List.map_map]
 refine List.map_congr_left fun p _=>?_
 simp only [Function.comp]
 by_cases h:p.1=k <;> simp [h]
theorem bE1 {V V':Type} (f:V→V') (l:List (K × V)) (k:K) (v:V):ab0 (mpV f l) k (f v)=mpV f (ab0 l k v):=by
 unfold ab0 mpV
 rw [List.map_map,List.map_map]
 refine List.map_congr_left fun p _=>?_
 simp only [Function.comp]
 by_cases h:p.1=k <;> simp [h]
theorem ai3 {V:Type} {l:List (K × V)} {k:K} (h:G3 l k=true) (v:V):q9 l k v=ab0 l k v:=by unfold q9 ab0; rw [if_pos h]
theorem bA3 {V:Type} {l:List (K × V)} {k:K} (h:lkM l k=none) (v:V):ab0 l k v=l:=by
 unfold ab0
 refine (List.map_congr_left fun p hp=>?_).trans (List.map_id l)
 have:p.1≠k:=fun e=>by
  unfold lkM at h
  rw [Option.map_eq_none_iff,List.find?_eq_none] at h
  exact h p hp (by simp [e])
 simp [this]
theorem aG8 {V:Type} {l:List (K × V)} {k:K} {v:V} (hn:(l.map Prod.fst).Nodup) (h:lkM l k=some v):ab0 l k v=l:=by
 unfold ab0
 refine (List.map_congr_left fun p hp=>?_).trans (List.map_id l)
 by_cases e:p.1=k
 ·obtain ⟨i,hi,he⟩:=List.getElem_of_mem hp
  have:lkM l k=some p.2:=aF8 hn i (by rw [List.getElem?_eq_getElem hi,he,← e])
  rw [h] at this
  cases this
  simp only [e,if_true]
  rw [← e]; rfl
 ·simp [e]
theorem av4 {V:Type} (l:List (K × V)) (k:K):G3 l k=(lkM l k).isSome:=by
 unfold G3 lkM
 rw [Option.isSome_map,Bool.eq_iff_iff,List.find?_isSome,List.any_eq_true]
theorem av3 {V:Type} {l:List (K × V)} {k:K} {v:V} (h:lkM l k=some v):(k,v)∈l:=by
 unfold lkM at h
 cases hf:l.find? fun p=>decide (p.1=k) with
 | none=>rw [hf] at h; cases h
 | some p =>
  rw [hf] at h
  cases h
  have h1:=List.find?_some hf
  have h2:=List.mem_of_find?_eq_some hf
  simp at h1
  rw [← h1]; exact h2
theorem bh4 {V:Type} (l:List (K × V)) (k:K) (v:V):lkM (q9 l k v) k=some v:=by
 unfold q9
 by_cases h:G3 l k=true
 ·rw [if_pos h]
  induction l with
  | nil=>simp [G3] at h
  | cons p l ih =>
   by_cases e:p.1=k
   ·simp [lkM,List.find?_cons,e]
   ·have h':G3 l k=true:=by simpa [G3,e] using h
    have:=ih h'
    unfold lkM at this ⊢
    simp only [List.map_cons,e,if_false,List.find?_cons,decide_eq_false e]
    exact this
 ·rw [if_neg h]
  have:lkM l k=none:=by rw [av4] at h; simpa using h
  unfold lkM at this ⊢
  rw [Option.map_eq_none_iff] at this
  rw [List.find?_append,this]
  simp
theorem bS1 {V W:Type}:∀ {xs:List (K × V)} {Z:List (K × W)},xs.map Prod.fst=Z.map Prod.fst→∃ T:List (K × (V × W)),xs=mpV Prod.fst T∧Z=mpV Prod.snd T:=by
 intro xs
 induction xs with
 | nil=>intro Z h; cases Z with
  | nil=>exact ⟨[],rfl,rfl⟩
  | cons z Z=>cases h
 | cons x xs ih=>intro Z h; cases Z with
  | nil=>cases h
  | cons z Z =>
   simp only [List.map_cons,List.cons.injEq] at h
   obtain ⟨T,h1,h2⟩:=ih h.2
   exact ⟨(x.1,(x.2,z.2))::T,by rw [h1]; rfl,by rw [h2,mpV,mpV,List.map_cons,h.1]⟩
theorem aJ6 {α : Type} {β : Type _} {l:List α} {f g : α → List β} (h:∀ x∈l,f x=g x):l.flatMap f=l.flatMap g:=by
 induction l with
 | nil=>rfl
 | cons x l ih=>rw [List.flatMap_cons,List.flatMap_cons,h x (List.mem_cons_self ..),ih fun y hy=>h y (List.mem_cons_of_mem _ hy)]
def T9 (ents:X→G→List Ent) (xs:List (K × X)) (Z:List (K × G)) (hol:Option K):List Ent :=
 (xs.zip Z).flatMap fun p=>if hol=some p.1.1 then [] else ents p.1.2 p.2.2
def fem (ents:X→G→List Ent) (hol:Option K) (t:K × (X × G)):List Ent:=if hol=some t.1 then [] else ents t.2.1 t.2.2
theorem aH6 (ents:X→G→List Ent) (T:List (K × (X × G))) (hol:Option K):T9 ents (mpV Prod.fst T) (mpV Prod.snd T) hol=T.flatMap (fem ents hol):=by
 unfold T9
 induction T with
 | nil=>rfl
 | cons t T ih =>
  have:(mpV Prod.fst (t::T)).zip (mpV Prod.snd (t::T))=((t.1,t.2.1),(t.1,t.2.2))::(mpV Prod.fst T).zip (mpV Prod.snd T):=rfl
  rw [this,List.flatMap_cons,List.flatMap_cons,ih]
  rfl
theorem bp5 {ents:X→G→List Ent} {k:K} {T:List (K × (X × G))} (h:lkM T k=none):T.flatMap (fem ents none)=T.flatMap (fem ents (some k)):=by
 refine aJ6 fun t ht=>?_
 have:t.1≠k:=fun e=>by
  unfold lkM at h
  rw [Option.map_eq_none_iff,List.find?_eq_none] at h
  exact h t ht (by simp [e])
 unfold fem
 rw [if_neg (by simp),if_neg (by simpa using fun e=>this e.symm)]
theorem bp4 {ents:X→G→List Ent} {k:K} {v:X × G}:∀ {T:List (K × (X × G))},(T.map Prod.fst).Nodup→lkM T k=some v→(T.flatMap (fem ents none)).Perm (ents v.1 v.2++T.flatMap (fem ents (some k))):=by
 intro T
 induction T with
 | nil=>intro _ h; cases h
 | cons t T ih =>
  intro hn h
  simp only [List.map_cons,List.nodup_cons] at hn
  rw [List.flatMap_cons,List.flatMap_cons]
  by_cases e:t.1=k
  ·have hv:t.2=v:=by
    unfold lkM at h
    rw [List.find?_cons,decide_eq_true e] at h
    exact Option.some.inj h
   have hno:lkM T k=none:=aY7 fun p hp e'=>hn.1 (by rw [e,← e']; exact List.mem_map_of_mem hp)
   rw [bp5 hno]
   subst hv
   have h1:fem ents (none:Option K) t=ents t.2.1 t.2.2:=if_neg (by simp)
   have h2:fem ents (some k) t=[]:=if_pos (by rw [e])
   rw [h1,h2,List.nil_append]
  ·have h':lkM T k=some v:=by
    unfold lkM at h ⊢
    rw [List.find?_cons,decide_eq_false e] at h
    exact h
   have h1:fem ents (none:Option K) t=ents t.2.1 t.2.2:=if_neg (by simp)
   have h2:fem ents (some k) t=ents t.2.1 t.2.2:=if_neg (by simpa using fun e'=>e e'.symm)
   rw [h1,h2]
   refine ((ih hn.2 h').append_left _).trans ?_
   rw [← List.append_assoc,← List.append_assoc]
   exact List.Perm.append_right _ List.perm_append_comm
theorem bN3 {ents:X→G→List Ent} {k:K} {v:X × G} {T:List (K × (X × G))}:(q9 T k v).flatMap (fem ents (some k))=T.flatMap (fem ents (some k)):=by
 unfold q9
 split
 ·rw [List.flatMap_map]
  refine aJ6 fun t _=>?_
  by_cases e:t.1=k
  ·have h1:fem ents (some k) t=[]:=if_pos (by rw [e])
   rw [h1]; simp [e,fem]
  ·simp [e]
 ·rw [List.flatMap_append]
  simp [fem]
variable (kv:K→Value) (vv:G→Value) (ents:X→G→List Ent) (b:Nat)
structure FamAt (xs:List (K × X)) (Z:List (K × G)) (hol:Option K) (es:Array MapEntry) (cl:Nat) (w:World):Prop where
 map:MapAt kv b (mpV vv Z) es cl w
 kys:xs.map Prod.fst=Z.map Prod.fst
 own:∀ e∈T9 ents xs Z hol,e.okx w
def n6 (xs:List (K × X)) (Z:List (K × G)) (hol:Option K) (es:Array MapEntry) (cl:Nat):OW:={
 ks:=b::l3 (T9 ents xs Z hol)
 ok:=FamAt kv vv ents b xs Z hol es cl
 stay:=fun {w w'} h m=>⟨(G2 kv b (mpV vv Z) es cl).stay (fun k hk=>h k (by rw [List.mem_singleton.1 hk]; exact List.mem_cons_self ..)) m.map,m.kys,
  fun e he=>Ent.okx_of_block (m.own e he) fun k hk=>h k (List.mem_cons_of_mem _ (ac9.2 ⟨e,he,hk⟩))⟩
 lt:=fun {w} m k hk=>by
  rcases List.mem_cons.1 hk with rfl | hk
  ·exact (Array.getElem?_eq_some_iff.1 m.map.heap).1
  ·obtain ⟨e,he,hek⟩:=ac9.1 hk
   exact Ent.okx_lt (m.own e he) hek }
variable {kv vv ents b}
theorem FamAt.ndZ {xs:List (K × X)} {Z:List (K × G)} {hol:Option K} {es:Array MapEntry} {cl:Nat} {w:World} (m:FamAt kv vv ents b xs Z hol es cl w):(Z.map Prod.fst).Nodup:=by
 have:=m.map.nd
 rwa [show (mpV vv Z).map Prod.fst=Z.map Prod.fst by unfold mpV; rw [List.map_map]; rfl] at this
theorem FamAt.has {xs:List (K × X)} {Z:List (K × G)} {hol:Option K} {es:Array MapEntry} {cl:Nat} {w:World} (m:FamAt kv vv ents b xs Z hol es cl w) (k:K):G3 Z k=G3 xs k:=by
 rw [Bool.eq_iff_iff,Y1,Y1,m.kys]
theorem FamAt.len {xs:List (K × X)} {Z:List (K × G)} {hol:Option K} {es:Array MapEntry} {cl:Nat} {w:World} (m:FamAt kv vv ents b xs Z hol es cl w):Z.length=xs.length:=by
 have:=congrArg List.length m.kys
 simpa using this.symm
theorem FamAt.lk {xs:List (K × X)} {Z:List (K × G)} {hol:Option K} {es:Array MapEntry} {cl:Nat} {w:World} (m:FamAt kv vv ents b xs Z hol es cl w) (k:K) :
  (lkM xs k=none∧lkM Z k=none)∨∃ x g,lkM xs k=some x∧lkM Z k=some g:=by
 have h:=m.has k
 rw [av4,av4] at h
 cases h1:lkM xs k with
 | none=>rw [h1] at h; left; exact ⟨rfl,by simpa using h⟩
 | some x =>
  rw [h1] at h
  cases h2:lkM Z k with
  | none=>rw [h2] at h; cases h
  | some g=>exact .inr ⟨x,g,rfl,rfl⟩
theorem aB1 {xs:List (K × X)} {Z:List (K × G)} {k:K} {x:X} {g:G} (hk:xs.map Prod.fst=Z.map Prod.fst) (hn:(Z.map Prod.fst).Nodup) (hx:lkM xs k=some x) (hg:lkM Z k=some g) :
  (T9 ents xs Z none).Perm (ents x g++T9 ents xs Z (some k)):=by
 obtain ⟨T,rfl,rfl⟩:=bS1 hk
 have hT:(T.map Prod.fst).Nodup:=by rwa [show (mpV Prod.snd T).map Prod.fst=T.map Prod.fst by unfold mpV; rw [List.map_map]; rfl] at hn
 rw [ao6] at hx hg
 cases hv:lkM T k with
 | none=>rw [hv] at hx; cases hx
 | some v =>
  rw [hv] at hx hg
  cases hx; cases hg
  rw [aH6,aH6]
  exact bp4 hT hv
theorem at8 {xs:List (K × X)} {Z:List (K × G)} {k:K} (hk:xs.map Prod.fst=Z.map Prod.fst) (hx:lkM xs k=none):T9 ents xs Z none=T9 ents xs Z (some k):=by
 obtain ⟨T,rfl,rfl⟩:=bS1 hk
 rw [ao6] at hx
 have hv:lkM T k=none:=by simpa using hx
 rw [aH6,aH6]
 exact bp5 hv
theorem az4 {V:Type} {l:List (K × V)} (h:(l.map Prod.fst).Nodup) (k:K) (v:V):((q9 l k v).map Prod.fst).Nodup:=by
 rw [aH0]
 split
 ·exact h
 ·rename_i hh
  rw [List.nodup_append]
  refine ⟨h,by simp,fun a ha c hc=>?_⟩
  simp at hc; subst hc
  exact fun e=>hh ((Y1 l _).2 (e ▸ ha))
theorem aS0 {xs:List (K × X)} {Z:List (K × G)} {k:K} {x:X} {g:G} (hk:xs.map Prod.fst=Z.map Prod.fst) (hn:(Z.map Prod.fst).Nodup) :
  (T9 ents (q9 xs k x) (q9 Z k g) none).Perm (ents x g++T9 ents xs Z (some k)):=by
 obtain ⟨T,rfl,rfl⟩:=bS1 hk
 have hT:(T.map Prod.fst).Nodup:=by rwa [show (mpV Prod.snd T).map Prod.fst=T.map Prod.fst by unfold mpV; rw [List.map_map]; rfl] at hn
 rw [show q9 (mpV Prod.fst T) k x=mpV Prod.fst (q9 T k (x,g)) from ax4 Prod.fst T k (x,g),show q9 (mpV Prod.snd T) k g=mpV Prod.snd (q9 T k (x,g)) from ax4 Prod.snd T k (x,g),aH6,aH6]
 have h1:=bp4 (ents:=ents) (az4 hT k (x,g)) (bh4 T k (x,g))
 rw [bN3] at h1
 exact h1
theorem bB4 {xs:List (K × X)} {Z:List (K × G)} {k:K} {x:X} {g:G} (hk:xs.map Prod.fst=Z.map Prod.fst) (hn:(Z.map Prod.fst).Nodup) (hg:lkM Z k=some g) :
  (T9 ents (ab0 xs k x) Z none).Perm (ents x g++T9 ents xs Z (some k)):=by
 have hh:G3 xs k=true:=by rw [Y1,hk,← Y1,av4,hg]; rfl
 have hz:G3 Z k=true:=by rw [av4,hg]; rfl
 have h:=aS0 (ents:=ents) (k:=k) (x:=x) (g:=g) hk hn
 rw [ai3 hh,ai3 hz,aG8 hn hg] at h
 exact h
end
section
variable {w0 w w':World} {M:List Nat} {A:Nat→Prop} {es es' rs:List Ent}
theorem Sat.regroup (h:Sat w0 M A es w) (hk:(l3 es').Nodup) (hsub:∀ k∈l3 es',k∈l3 es) (hok:∀ e∈es',e.okx w) (hro:∀ F,Ent.ro F∈es'→Ent.ro F∈es):Sat w0 M A es' w :=
 ⟨h.chg,h.dis,hk,fun k hk'=>h.fresh k (hsub k hk'),hok,fun e he=>by
  cases e with
  | ro F=>exact aQ9 (h.okr _ (hro F he)) fun _ hb=>hsub _ hb
  | box b T cs=>trivial
  | row R v xs=>trivial
  | obj o=>trivial⟩
theorem Sat.front {a a':List Ent} (h:Sat w0 M A (a++rs) w) (hp:∃ r,(l3 a).Perm (l3 a'++r)) (hok:∀ e∈a',e.okx w) (hro:∀ F,Ent.ro F∉a'):Sat w0 M A (a'++rs) w:=by
 obtain ⟨r,hp⟩:=hp
 have hn:=h.nodup
 rw [E1] at hn
 have hp2:(l3 a++l3 rs).Perm (r++(l3 a'++l3 rs)):=by
  refine (hp.append_right _).trans ?_
  rw [← List.append_assoc]
  exact List.Perm.append_right _ List.perm_append_comm
 have hn2:=hp2.nodup_iff.1 hn
 rw [List.nodup_append] at hn2
 refine h.regroup (by rw [E1]; exact hn2.2.1) (fun k hk=>?_) (fun e he=>?_) (fun F hF=>?_)
 ·rw [E1] at hk ⊢
  exact hp2.symm.subset (List.mem_append_right _ hk)
 ·rcases List.mem_append.1 he with q | q
  ·exact hok e q
  ·exact h.okx e (List.mem_append_right _ q)
 ·rcases List.mem_append.1 hF with q | q
  ·exact absurd q (hro F)
  ·exact List.mem_append_right _ q
end
section
variable {w0 w w':World} {M:List Nat} {A:Nat→Prop} {es es' rs:List Ent} {K X G:Type} [DecidableEq K] {kv:K→Value} {vv:G→Value} {ents:X→G→List Ent} {b:Nat} {xs:List (K × X)} {Z:List (K × G)} {hol:Option K} {mes:Array MapEntry} {mcl:Nat} {k:K} {x:X} {g:G}
theorem ag0 (o:OW):l3 [Ent.obj o]=o.ks:=by simp [l3,Ent.kl]
theorem Sat.famTake (h:Sat w0 M A (.obj (n6 kv vv ents b xs Z none mes mcl)::rs) w) (hx:lkM xs k=some x) (hg:lkM Z k=some g) (hro:∀ F,Ent.ro F∉ents x g) :
  Sat w0 M A (ents x g++(.obj (n6 kv vv ents b xs Z (some k) mes mcl)::rs)) w:=by
 have m:FamAt kv vv ents b xs Z none mes mcl w:=h.okx _ (List.mem_cons_self ..)
 have hp:=aB1 (ents:=ents) m.kys m.ndZ hx hg
 have h2:=h.front (a:=[.obj (n6 kv vv ents b xs Z none mes mcl)]) (a':=ents x g++[.obj (n6 kv vv ents b xs Z (some k) mes mcl)]) (rs:=rs) ⟨[],?_⟩ ?_ ?_
 ·simpa using h2
 ·rw [ag0,E1,ag0,List.append_nil]
  show (b::l3 (T9 ents xs Z none)).Perm (l3 (ents x g)++(b::l3 (T9 ents xs Z (some k))))
  refine List.Perm.trans ?_ List.perm_middle.symm
  refine List.Perm.cons b ?_
  have:=ak7 hp
  rwa [E1] at this
 ·intro e he
  rcases List.mem_append.1 he with q | q
  ·exact m.own e (hp.symm.subset (List.mem_append_left _ q))
  ·rw [List.mem_singleton.1 q]
   exact ⟨m.map,m.kys,fun e' he'=>m.own e' (hp.symm.subset (List.mem_append_right _ he'))⟩
 ·intro F hF
  rcases List.mem_append.1 hF with q | q
  ·exact hro F q
  ·simp at q
theorem Sat.famGive (h:Sat w0 M A (.obj (n6 kv vv ents b xs Z (some k) mes mcl)::(ents x g++rs)) w) (hg:lkM Z k=some g) :
  Sat w0 M A (.obj (n6 kv vv ents b (ab0 xs k x) Z none mes mcl)::rs) w:=by
 have m:FamAt kv vv ents b xs Z (some k) mes mcl w:=h.okx _ (List.mem_cons_self ..)
 have hp:=bB4 (ents:=ents) (x:=x) m.kys m.ndZ hg
 have h':Sat w0 M A (([.obj (n6 kv vv ents b xs Z (some k) mes mcl)]++ents x g)++rs) w:=by simpa using h
 refine h'.front (a':=[.obj (n6 kv vv ents b (ab0 xs k x) Z none mes mcl)]) ⟨[],?_⟩ ?_ ?_
 ·rw [ag0,E1,ag0,List.append_nil]
  show ((b::l3 (T9 ents xs Z (some k)))++l3 (ents x g)).Perm (b::l3 (T9 ents (ab0 xs k x) Z none))
  rw [List.cons_append]
  refine List.Perm.cons b ?_
  have:=ak7 hp
  rw [E1] at this
  exact List.perm_append_comm.trans this.symm
 ·intro e he
  rw [List.mem_singleton.1 he]
  refine ⟨m.map,(ar9 _ _ _).trans m.kys,fun e' he'=>?_⟩
  rcases List.mem_append.1 (hp.subset he') with q | q
  ·exact h.okx e' (List.mem_cons_of_mem _ (List.mem_append_left _ q))
  ·exact m.own e' q
 ·intro F hF; simp at hF
def bG7 (kv:K→Value) (vv:G→Value) (ents:X→G→List Ent) (b:Nat) (Z:List (K × G)) (xs':List (K × X)) (Z':List (K × G)) (es:Array MapEntry) (cl:Nat):OW:={
 ks:=b::l3 (T9 ents xs' Z' none)
 ok:=fun w=>MapAt kv b (mpV vv Z) es cl w∧∀ e∈T9 ents xs' Z' none,e.okx w
 stay:=fun {w w'} h m=>⟨(G2 kv b (mpV vv Z) es cl).stay (fun k hk=>h k (by rw [List.mem_singleton.1 hk]; exact List.mem_cons_self ..)) m.1,
  fun e he=>Ent.okx_of_block (m.2 e he) fun k hk=>h k (List.mem_cons_of_mem _ (ac9.2 ⟨e,he,hk⟩))⟩
 lt:=fun {w} m k hk=>by
  rcases List.mem_cons.1 hk with rfl | hk
  ·exact (Array.getElem?_eq_some_iff.1 m.1.heap).1
  ·obtain ⟨e,he,hek⟩:=ac9.1 hk
   exact Ent.okx_lt (m.2 e he) hek }
theorem Sat.famPend (h:Sat w0 M A (.obj (n6 kv vv ents b xs Z hol mes mcl)::(ents x g++rs)) w) (hh:hol=none∨hol=some k) :
  Sat w0 M A (.obj (bG7 kv vv ents b Z (q9 xs k x) (q9 Z k g) mes mcl)::rs) w:=by
 have m:FamAt kv vv ents b xs Z hol mes mcl w:=h.okx _ (List.mem_cons_self ..)
 have hp:=aS0 (ents:=ents) (k:=k) (x:=x) (g:=g) m.kys m.ndZ
 have hsub:∃ r,(T9 ents xs Z hol).Perm (r++T9 ents xs Z (some k)):=by
  rcases hh with rfl | rfl
  ·rcases m.lk k with ⟨h1,h2⟩ | ⟨x',g',h1,h2⟩
   ·exact ⟨[],by rw [← at8 m.kys h1]; exact List.Perm.refl _⟩
   ·exact ⟨_,aB1 (ents:=ents) m.kys m.ndZ h1 h2⟩
  ·exact ⟨[],List.Perm.refl _⟩
 obtain ⟨r,hr⟩:=hsub
 have h':Sat w0 M A (([.obj (n6 kv vv ents b xs Z hol mes mcl)]++ents x g)++rs) w:=by simpa using h
 refine h'.front (a':=[.obj (bG7 kv vv ents b Z (q9 xs k x) (q9 Z k g) mes mcl)]) ⟨l3 r,?_⟩ ?_ ?_
 ·rw [E1,ag0,ag0]
  show ((b::l3 (T9 ents xs Z hol))++l3 (ents x g)).Perm ((b::l3 (T9 ents (q9 xs k x) (q9 Z k g) none))++l3 r)
  rw [List.cons_append,List.cons_append]
  refine List.Perm.cons b ?_
  have e1:=ak7 hr
  have e2:=ak7 hp
  rw [E1] at e1 e2
  refine (e1.append_right _).trans (List.Perm.trans ?_ (e2.symm.append_right _))
  rw [List.append_assoc]
  refine List.perm_append_comm.trans ?_
  exact List.Perm.append_right _ List.perm_append_comm
 ·intro e he
  rw [List.mem_singleton.1 he]
  refine ⟨m.map,fun e' he'=>?_⟩
  rcases List.mem_append.1 (hp.subset he') with q | q
  ·exact h.okx e' (List.mem_cons_of_mem _ (List.mem_append_left _ q))
  ·exact m.own e' (hr.symm.subset (List.mem_append_right _ q))
 ·intro F hF; simp at hF
theorem Sat.famPut {es2:Array MapEntry} {cl2:Nat} (h:Sat w0 M A (.obj (bG7 kv vv ents b Z (q9 xs k x) (q9 Z k g) mes mcl)::rs) w) (hk:xs.map Prod.fst=Z.map Prod.fst)
  (h2:MapAt kv b (mpV vv (q9 Z k g)) es2 cl2 (w.putObj b (.map es2 cl2))):Sat w0 M A (.obj (n6 kv vv ents b (q9 xs k x) (q9 Z k g) none es2 cl2)::rs) (w.putObj b (.map es2 cl2)):=by
 have m:=(h.okx _ (List.mem_cons_self ..):(bG7 kv vv ents b Z (q9 xs k x) (q9 Z k g) mes mcl).ok w)
 have hnd:=h.nodup
 rw [H0,List.nodup_append] at hnd
 have hnd1:(b::l3 (T9 ents (q9 xs k x) (q9 Z k g) none)).Nodup:=hnd.1
 have hlt:=(Array.getElem?_eq_some_iff.1 m.1.heap).1
 have hc:Chg [b] w (w.putObj b (.map es2 cl2)):=by6 m.1.heap
 refine h.swap' (k:=0) (e':=.obj (n6 kv vv ents b (q9 xs k x) (q9 Z k g) none es2 cl2)) rfl ?_ ?_ hnd1 ?_ (fun F hF=>by cases hF)
 ·exact ⟨hc.os,hc.tape,hc.output,hc.size,fun c hc' hn=>hc.block c hc' (fun hm=>hn (by rw [List.mem_singleton.1 hm]; exact List.mem_cons_self ..))⟩
 ·refine ⟨h2,by rw [aH0,aH0,hk,show G3 xs k=G3 Z k by rw [Bool.eq_iff_iff,Y1,Y1,hk]],fun e he=>Ent.okx_of_block (m.2 e he) fun c hcc=>?_⟩
  refine hc.block c (Ent.okx_lt (m.2 e he) hcc) (fun hm=>?_)
  rw [List.mem_singleton.1 hm] at hcc
  exact (List.nodup_cons.1 hnd1).1 (ac9.2 ⟨e,he,hcc⟩)
 ·intro c hcc
  exact ⟨Nat.lt_of_lt_of_le ((bG7 kv vv ents b Z (q9 xs k x) (q9 Z k g) mes mcl).lt m c hcc) hc.size,.inr hcc⟩
end
end Go.J
namespace Go.J
open Go Go.RowKit
set_option linter.unusedSimpArgs false
set_option linter.unusedSectionVars false
def z7 {α : Type} (R:Rep α) (xs:List α) (s:SV):List Ent:=[.row R s.v xs]
section
variable {P:Program} {Rp:Post} {Kk:List Lay} {N:NN} {l fr:Fr} {ops:Array Oper} {rest:List Oper} {d:Nat} {dd:Option Nat} {ty:Nat} {pos:String} {af:Array Edge} {g0:Option (Nat × Bool)} {x y u:Operand} {T E Tk:TypeId} {c:Code}
variable {w0:World} {M:List Nat} {A:Nat→Prop} {es rs:List Ent} {j b rb:Nat} {K X G:Type} [DecidableEq K] {kv:K→Value} {vv:G→Value} {ents:X→G→List Ent} {xs:List (K × X)} {Z:List (K × G)} {hol:Option K} {k:K} {z:G} {mes:Array MapEntry} {mcl:Nat}
theorem LJ.sat {H H':World→Prop} (hs:∀ w,H w→H' w) (h:LJ P Rp ops rest Kk N l H'):LJ P Rp ops rest Kk N l H:=fun a w hf hw=>h a w hf (hs w hw)
theorem CJ.sat {H H':World→Prop} (hs:∀ w,H w→H' w) (h:CJ P Rp c Kk N l H'):CJ P Rp c Kk N l H:=fun a w hf hw=>h a w hf (hs w hw)
theorem NJ.sat {H H':World→Prop} (hs:∀ w,H w→H' w) (h:NJ P Rp Kk N l H'):NJ P Rp Kk N l H:=fun a w hf hw=>h a w hf (hs w hw)
theorem aM9 (kv:K→Value) (vv:G→Value) (ents:X→G→List Ent) (hd:Nat.blt d N.n=true) (h:∀ b,LJ P Rp ops rest Kk N ((d,.map (some b))::l) (Sat w0 M A (.obj (n6 kv vv ents b [] [] none #[] 0)::es))) :
  LJ P Rp ops (⟨some d,.makeMap T none,ty,pos,af,none⟩::rest) Kk N l (Sat w0 M A es):=by
 intro a w hf hw
 refine wpList_plain rfl fun K' hK=>?_
 unfold Oper.wp
 have:(execOp a.eval ⟨some d,.makeMap T none,ty,pos,af,none⟩).run P w = .ok (.value (.map (some w.heap.size))) (w.alloc (.map #[] 0)):=by
  simp [execOp,Instr.makeMap]
 rw [this]
 refine hK _ _ (h _ _ _ (hf.put hd _) ?_)
 have hal:=hw.allocO (.map #[] 0)
 refine Sat.swapO (b:=w.heap.size) (j:=0) hal rfl rfl rfl (Chg.refl _ _) ?_
 exact ⟨⟨Go.heap_alloc_new w _,rfl,by simp [mpV],by simp,by simp⟩,rfl,by simp [T9]⟩
theorem aX6 {x1:X} {g1:G} (ks:List Nat) (hT:P.underlying T=some (.map Tk E)) (hK:KeyF P Tk kv) (hp:picks ks es=some (.obj (n6 kv vv ents b xs Z hol mes mcl)::ents x1 g1,rs)) (hh:hol=none∨hol=some k)
  (hx:ev l x=some (.map (some b))) (hy:ev l y=some (kv k)) (hu:ev l u=some (vv g1))
  (h:∀ es' cl',LJ P Rp ops rest Kk N l (Sat w0 M A (.obj (n6 kv vv ents b (q9 xs k x1) (q9 Z k g1) none es' cl')::rs))) :
  LJ P Rp ops (⟨none,.mapUpdate T x y u,ty,pos,af,none⟩::rest) Kk N l (Sat w0 M A es):=by
 intro a w hf hw
 refine wpList_plain rfl fun K' hKk=>?_
 unfold Oper.wp
 have hw1:Sat w0 M A (.obj (n6 kv vv ents b xs Z hol mes mcl)::(ents x1 g1++rs)) w:=hw.perm (as5 hp)
 have m:FamAt kv vv ents b xs Z hol mes mcl w:=hw1.okx _ (List.mem_cons_self ..)
 have hw2:=hw1.famPend hh
 obtain ⟨es2,cl2,h1,h2⟩:=au9 (P:=P) (k:=k) (v:=vv g1) hT hK m.map
 have:(execOp a.eval ⟨none,.mapUpdate T x y u,ty,pos,af,none⟩).run P w = .ok .skip (w.putObj b (.map es2 cl2)):=by
  simp [execOp,hf.ev hx,hf.ev hy,hf.ev hu,h1]
 rw [this]
 rw [ax4] at h2
 exact hKk _ _ (h es2 cl2 _ _ (hf.put_none undef) (hw2.famPut m.kys h2))
end
section
variable {w0 w:World} {M:List Nat} {A:Nat→Prop} {es rs:List Ent} {b:Nat} {K α : Type} [DecidableEq K] {kv:K→Value} {R:Rep α} {xs:List (K × List α)} {Z:List (K × SV)} {hol:Option K} {k:K} {mes:Array MapEntry} {mcl:Nat} {ys:List α}
theorem FamAt.row (m:FamAt kv SV.v (z7 R) b xs Z hol mes mcl w) (hh:hol≠some k):w.ownsRow 0 R.T R.sz (SV.v ((lkM Z k).getD A2)) ((lkM xs k).getD []).length (R.cells ((lkM xs k).getD [])):=by
 rcases m.lk k with ⟨h1,h2⟩ | ⟨y,g,h1,h2⟩
 ·rw [h1,h2]; exact World.ownsRow_nil w 0 R.T R.sz
 ·rw [h1,h2]
  refine m.own (.row R g.v y) ?_
  unfold T9
  have hi:=av3 h1
  obtain ⟨i,hil,hie⟩:=List.getElem_of_mem hi
  have hzl:i<Z.length:=by rw [m.len]; exact hil
  have hk:Z[i].1=k:=by
   have e1:(xs.map Prod.fst)[i]'(by simpa using hil)=(Z.map Prod.fst)[i]'(by simpa using hzl):=by simp only [m.kys]
   simp only [List.getElem_map] at e1
   rw [← e1,hie]
  have hz:Z[i].2=g:=by
   have e2:Z[i]? = some (k,Z[i].2):=by rw [List.getElem?_eq_getElem hzl,← hk]
   have:=aF8 m.ndZ i e2
   rw [h2] at this
   exact (Option.some.inj this).symm
  refine List.mem_flatMap.2 ⟨(xs[i],Z[i]),List.mem_iff_getElem.2 ⟨i,by rw [List.length_zip]; omega,by rw [List.getElem_zip]⟩,?_⟩
  rw [hie]
  simp only
  rw [if_neg hh,hz]
  exact List.mem_singleton.2 rfl
theorem FamAt.look (m:FamAt kv SV.v (z7 R) b xs Z none mes mcl w) (k:K):RdS R (SV.v ((lkM Z k).getD A2)) ((lkM xs k).getD []) w:=RdS.of_row (m.row (by simp))
theorem Sat.takeR (h:Sat w0 M A es w) (j:Nat) (hp:av1 es j=some (.obj (n6 kv SV.v (z7 R) b xs Z none mes mcl),rs)) (k:K) :
  Sat w0 M A (.row R (SV.v ((lkM Z k).getD A2)) ((lkM xs k).getD []) :: .obj (n6 kv SV.v (z7 R) b xs Z (some k) mes mcl)::rs) w:=by
 have h1:=h.perm (an1 hp)
 have m:FamAt kv SV.v (z7 R) b xs Z none mes mcl w:=h1.okx _ (List.mem_cons_self ..)
 rcases m.lk k with ⟨h2,h3⟩ | ⟨x,g,h2,h3⟩
 ·rw [h2,h3]
  refine Sat.nil_row ?_ R
  refine h1.front (a:=[.obj (n6 kv SV.v (z7 R) b xs Z none mes mcl)]) (a':=[.obj (n6 kv SV.v (z7 R) b xs Z (some k) mes mcl)]) (rs:=rs) ⟨[],?_⟩ ?_ ?_
  ·rw [ag0,ag0,List.append_nil]
   show (b::l3 (T9 (z7 R) xs Z none)).Perm (b::l3 (T9 (z7 R) xs Z (some k)))
   rw [at8 m.kys h2]
  ·intro e he
   rw [List.mem_singleton.1 he]
   exact ⟨m.map,m.kys,fun e' he'=>m.own e' (by rw [at8 m.kys h2]; exact he')⟩
  ·intro F hF; simp at hF
 ·rw [h2,h3]
  exact h1.famTake h2 h3 (fun F hF=>by simp [z7] at hF)
theorem Sat.giveR (h:Sat w0 M A es w) (ks:List Nat) (hp:J.picks ks es=some ([.obj (n6 kv SV.v (z7 R) b xs Z (some k) mes mcl),.row R (SV.v ((lkM Z k).getD A2)) ys],rs)) :
  Sat w0 M A (.obj (n6 kv SV.v (z7 R) b (ab0 xs k ys) Z none mes mcl)::rs) w:=by
 have h1:Sat w0 M A (.obj (n6 kv SV.v (z7 R) b xs Z (some k) mes mcl)::(.row R (SV.v ((lkM Z k).getD A2)) ys::rs)) w:=h.perm (as5 hp)
 have m:FamAt kv SV.v (z7 R) b xs Z (some k) mes mcl w:=h1.okx _ (List.mem_cons_self ..)
 rcases m.lk k with ⟨h2,h3⟩ | ⟨x,g,h2,h3⟩
 ·rw [bA3 h2]
  refine Sat.front (a:=[.obj (n6 kv SV.v (z7 R) b xs Z (some k) mes mcl),.row R (SV.v ((lkM Z k).getD A2)) ys]) (a':=[.obj (n6 kv SV.v (z7 R) b xs Z none mes mcl)]) (rs:=rs) h1 ⟨l3 [.row R (SV.v ((lkM Z k).getD A2)) ys],?_⟩ ?_ ?_
  ·rw [H0,ag0]
   show ((b::l3 (T9 (z7 R) xs Z (some k)))++_).Perm ((b::l3 (T9 (z7 R) xs Z none))++_)
   rw [at8 m.kys h2]
  ·intro e he
   rw [List.mem_singleton.1 he]
   exact ⟨m.map,m.kys,fun e' he'=>m.own e' (by rw [← at8 m.kys h2]; exact he')⟩
  ·intro F hF; simp at hF
 ·rw [h3] at h1
  exact Sat.famGive (ents:=z7 R) (x:=ys) (g:=g) h1 h3
end
end Go.J
namespace Go.J
open Go Go.RowKit
set_option linter.unusedSimpArgs false
set_option linter.unusedSectionVars false
def KeptK {K G:Type} (ks:List K) (mes0:Array MapEntry) (mcl0:Nat) (Z:List (K × G)) (mes:Array MapEntry) (mcl:Nat):Prop :=
 Z.map Prod.fst=ks∧mcl=mcl0∧mes.toList.map (·.born)=mes0.toList.map (·.born)
theorem aL3 {b:Nat} {es es':Array MapEntry} {cl:Nat} {idx:List Nat} (h:es'.toList.map (·.born)=es.toList.map (·.born)):J3 b es' cl idx=J3 b es cl idx:=by
 unfold J3
 congr 2
 refine List.map_congr_left fun i _=>?_
 unfold W2
 have:=congrArg (·[i]?) h
 simp only [List.getElem?_map,Array.getElem?_toList] at this
 rw [this]
section
variable {P:Program} {K:Type} [DecidableEq K] {kv:K→Value} {b:Nat} {l:List (K × Value)} {es:Array MapEntry} {clock:Nat} {w:World} {T E Tk:TypeId} {k:K} {v:Value}
end
section
variable {P:Program} {R:Post} {Kk:List Lay} {N:NN} {l fr:Fr} {ops:Array Oper} {rest:List Oper} {d:Nat} {dd:Option Nat} {ty:Nat} {pos:String} {af:Array Edge} {g0:Option (Nat × Bool)} {x y u:Operand} {T E Tk:TypeId} {c:Code}
variable {w0:World} {M:List Nat} {A:Nat→Prop} {es rs:List Ent} {j n b rb:Nat} {K X G:Type} [DecidableEq K] {kv:K→Value} {vv:G→Value} {ents:X→G→List Ent} {xs:List (K × X)} {Z:List (K × G)} {hol:Option K} {k:K} {z:G} {mes mes0:Array MapEntry} {mcl mcl0:Nat} {ks:List K}
theorem bg4 {idx:List Nat} {i:Nat} (hM:FactAt es (FamAt kv vv ents b xs Z hol mes mcl)) (hkp:KeptK ks mes0 mcl0 Z mes mcl) (hk:nth es n=some (.obj (D4 rb (J3 b mes0 mcl0 (idx++[i]))))) (hi:ks[i]? = some k) (hx:ev l x=some (.pointer (some ⟨rb,0,none⟩))) :
  r4 P N ⟨dd,.entry x,ty,pos,af,g0⟩ l (Sat w0 M A es) (.tuple [kv k,vv ((lkM Z k).getD z)].toArray):=fun a w hf hw=>by
 have m:=hM.get hw
 have hit:w.heap[rb]? = some (J3 b mes0 mcl0 (idx++[i])):=hw.objAt hk
 rw [← hkp.2.1,← aL3 hkp.2.2] at hit
 have hZi:∃ v,Z[i]? = some (k,v):=by
  have h1:=hi
  rw [← hkp.1,List.getElem?_map] at h1
  cases hz:Z[i]? with
  | none=>rw [hz] at h1; cases h1
  | some p=>rw [hz] at h1; cases h1; exact ⟨p.2,rfl⟩
 obtain ⟨v,hv⟩:=hZi
 have hi':(mpV vv Z)[i]? = some (k,vv v):=by unfold mpV; rw [List.getElem?_map,hv]; rfl
 have h:=aJ2 (P:=P) m.map hit hi'
 rw [aF8 m.ndZ i hv]
 simp [execOp,hf.ev hx,h]
theorem KeptK.refl (xs:List (K × X)) (h:xs.map Prod.fst=Z.map Prod.fst):KeptK (xs.map Prod.fst) mes mcl Z mes mcl:=⟨h.symm,rfl,rfl⟩
theorem aH9 {σ γ ρ β : Type} {step:Nat→K → σ → Option (Flow σ ρ)} {s0 : σ} {Kf:Flow σ ρ → Option β} {res : β} {bodyc:Code} {b0 b1 r1 tn tc ti ty1 ty2:Nat} {p1 p2:String} {a1 a2:Array Edge} {H:World→Prop} (Zc : σ → γ → List (K × G)) (mesc : σ → γ → Array MapEntry) (mclc : σ → γ → Nat)
  (hs:∀ L',L'.Perm ks→(l8 step 0 L' s0).bind Kf=some res) (hrb:rb≠b) (g0 : γ) (l : σ → γ → Fr) (E : σ → γ → List Ent)
  (hl:SubF ((ti,.pointer (some ⟨rb,0,none⟩))::l s0 g0) fr) (hH:∀ w,H w→Sat w0 M A (.obj (D4 rb (J3 b mes mcl []))::E s0 g0) w)
  (hM:∀ s c,FactAt (E s c) (fun w=>MapAt kv b (mpV vv (Zc s c)) (mesc s c) (mclc s c) w∧KeptK ks mes mcl (Zc s c) (mesc s c) (mclc s c)))
  (hfr:∀ s c,look (l s c) tc=none∧look (l s c) tn=none∧look (l s c) ti=none) (hne:Nat.beq tc ti=false∧Nat.beq tn ti=false∧Nat.beq tc tn=false) (hb1:Nat.blt tc N.n=true) (hb2:Nat.blt tn N.n=true)
  (after:∀ s c,Kf (.brk s)=some res→NJ P R Kk N (l s c) (Sat w0 M A (E s c)))
  (body:(∀ s c,Kf (.brk s)=some res→NJ P R Kk N (l s c) (Sat w0 M A (E s c)))→∀ (i:Nat) (x:K) (s : σ) (c : γ) (idx:List Nat) (ix:Nat) (g:Flow σ ρ),ks[ix]? = some x→step i x s=some g→∀ J : σ → Prop,(∀ s',g = .nxt s'→J s') →
   (∀ s',g = .brk s'→Kf (.brk s')=some res)→(∀ v,g = .ret v→Kf (.ret v)=some res) →
   ∀ I:Act→World→Prop,(∀ (fr':Fr) (H':World→Prop) (s' : σ) (c' : γ),J s'→SubF ((ti,.pointer (some ⟨rb,0,none⟩))::l s' c') fr'→(∀ w,H' w→Sat w0 M A (.obj (D4 rb (J3 b mes mcl (idx++[ix])))::E s' c') w)→NJ P R (.inv I :: .blk b0::Kk) N fr' H') →
   CJ P R bodyc (.blk b1 :: .inv I :: .blk b0::Kk) N ((ti,.pointer (some ⟨rb,0,none⟩))::l s c) (Sat w0 M A (.obj (D4 rb (J3 b mes mcl (idx++[ix])))::E s c))) :
  CJ P R (.block b0 (.loop (.seq (.region r1 #[⟨some tn,.next (.tmp ti) false,ty1,p1,a1,none⟩,⟨some tc,.extract (.tmp tn) 0,ty2,p2,a2,none⟩] false) (.seq (.cond (.tmp tc) .skip (.exit b0)) (.block b1 bodyc))))) Kk N fr H:=by
 have n1:tc≠ti:=fun e=>by have:=hne.1; rw [e] at this; simp at this
 have n2:tn≠ti:=fun e=>by have:=hne.2.1; rw [e] at this; simp at this
 have n3:tc≠tn:=fun e=>by have:=hne.2.2; rw [e] at this; simp at this
 refine B4 (aP2 (σ:=List Nat × σ × γ) (fun q=>(ti,.pointer (some ⟨rb,0,none⟩))::l q.2.1 q.2.2) (fun q=>Sat w0 M A (.obj (D4 rb (J3 b mes mcl q.1))::E q.2.1 q.2.2))
  (fun n q=>n=ks.length - q.1.length∧q.1.Nodup∧(∀ i∈q.1,i<ks.length)∧∀ T,(met ks q.1++T).Perm ks→(l8 step q.1.length T q.2.1).bind Kf=some res) ks.length ([],s0,g0)
  ⟨by simp,List.nodup_nil,by simp,fun T hT=>hs T (by simpa [met] using hT)⟩ hl hH ?_)
 rintro n ⟨idx,s,c⟩ ⟨hn,hnd,hlt,hrun⟩
 simp only at hn hnd hlt hrun
 have le2:∀ v v',FLe ((ti,.pointer (some ⟨rb,0,none⟩))::l s c) ((tc,v)::(tn,v')::(ti,.pointer (some ⟨rb,0,none⟩))::l s c):=by
  intro v v' j u hj
  rw [m3]
  by_cases e:tc=j
  ·subst e
   rw [m3,if_neg n1.symm,(hfr s c).1] at hj
   cases hj
  ·rw [if_neg e,m3]
   by_cases e2:tn=j
   ·subst e2
    rw [m3,if_neg n2.symm,(hfr s c).2.1] at hj
    cases hj
   ·rw [if_neg e2]; exact hj
 intro a0 w1 hf0 hw1
 have hfact:=((hM s c).cons1 (e:=.obj (D4 rb (J3 b mes mcl idx)))).get hw1
 obtain ⟨hk1,hk2,hk3⟩:=hfact.2
 have hit:J3 b mes mcl idx=J3 b (mesc s c) (mclc s c) idx:=by rw [hk2,aL3 hk3]
 have hit':∀ i,J3 b mes mcl (idx++[i])=J3 b (mesc s c) (mclc s c) (idx++[i]):=fun i=>by rw [hk2,aL3 hk3]
 have hlen:(Zc s c).length=ks.length:=by rw [← hk1,List.length_map]
 rw [hit] at hw1
 refine (d9 (l0 (bs0 (k:=0) (b:=b) (kv:=kv) (vv:=vv) (L:=Zc s c) (mes:=mesc s c) (mcl:=mclc s c) (((hM s c).imp fun _ h=>h.1).cons1) rfl hrb (by rw [hlen]; exact hlt) ?_ hb2 (fun hall=>?_) (fun i kk v hni hi=>?_)))) a0 w1 hf0 hw1
 ·simp only [ev]; rw [m3,if_pos rfl]
 ·
  refine lp hb1 (l9 (vs:=[.bool false]) (v:=.bool false) ?_ rfl) (d3 (d9 (ah2 (c:=.tmp tc) ?_ ?_)))
  ·simp only [ev]; rw [m3,if_pos rfl]
  ·simp only [ev]; rw [m3,if_pos rfl]
  ·have hperm:(met ks idx++[]).Perm ks:=by
    rw [List.append_nil]
    have:=ay6 ks hnd hlt
    have he:((List.range ks.length).filter fun i=>!decide (i∈idx))=[]:=by
     rw [List.filter_eq_nil_iff]
     intro i hi
     have:=hall i (by rw [hlen]; exact List.mem_range.1 hi)
     simp [this]
    rw [he] at this
    simpa [met] using this
   have hk:=hrun [] hperm
   refine L2 (K':=Kk) ?_ (fun a w hf hw=>after s c hk a w (hf.le ?_) (hw.sublist (List.sublist_cons_self _ _)))
   ·simp [target]
   ·intro j u hj
    rw [m3,if_neg (fun e=>by subst e; rw [(hfr s c).1] at hj; cases hj),m3,if_neg (fun e=>by subst e; rw [(hfr s c).2.1] at hj; cases hj),m3,if_neg (fun e=>by subst e; rw [(hfr s c).2.2] at hj; cases hj)]
    exact hj
 ·
  have hki:ks[i]? = some kk:=by rw [← hk1,List.getElem?_map,hi]; rfl
  have hil:i<ks.length:=(List.getElem?_eq_some_iff.1 hki).1
  have hnd':(idx++[i]).Nodup:=by
   rw [List.nodup_append]
   exact ⟨hnd,by simp,fun a ha c hc=>by simp at hc; subst hc; exact fun e=>hni (e ▸ ha)⟩
  have hlt':∀ j∈idx++[i],j<ks.length:=fun j hj=>by
   rcases List.mem_append.1 hj with h | h
   ·exact hlt j h
   ·simp at h; subst h; exact hil
  have hrest:=ay6 ks hnd' hlt'
  rw [ay5 hki] at hrest
  generalize met ks ((List.range ks.length).filter fun j=>!decide (j∈idx++[i]))=T0 at hrest
  have h0:=hrun (kk::T0) (by simpa using hrest)
  have hstep:∀ T,(l8 step idx.length (kk::T) s)=(step idx.length kk s).bind fun f=>f.run (fun s'=>l8 step (idx.length+1) T s') (fun s'=>some (.brk s')) (fun v=>some (.ret v)):=fun T=>rfl
  rw [hstep] at h0
  cases hg:step idx.length kk s with
  | none=>rw [hg] at h0; cases h0
  | some g =>
   rw [hg] at h0
   refine lp hb1 (l9 (vs:=[.bool true,kv kk,vv v]) (v:=.bool true) ?_ rfl) (d3 (d9 (aH8 (c:=.tmp tc) ?_ (j3 (l7 (B4 ?_))))))
   ·simp only [ev]; rw [m3,if_pos rfl]
   ·simp only [ev]; rw [m3,if_pos rfl]
   ·have hbody:=body after idx.length kk s c idx i g hki hg (fun s'=>g = .nxt s') (fun s' e=>e) (fun s' e=>by subst e; exact h0) (fun v e=>by subst e; exact h0)
     (fun a w=>∃ (n':Nat) (s':List Nat × σ × γ),n'<n∧(n'=ks.length - s'.1.length∧s'.1.Nodup∧(∀ i∈s'.1,i<ks.length)∧∀ T,(met ks s'.1++T).Perm ks→(l8 step s'.1.length T s'.2.1).bind Kf=some res)∧Frm N ((ti,.pointer (some ⟨rb,0,none⟩))::l s'.2.1 s'.2.2) a∧Sat w0 M A (.obj (D4 rb (J3 b mes mcl s'.1))::E s'.2.1 s'.2.2) w)
     (fun fr' H' s' c' hJ hsub hH'=>ah4 fun a w hf hw=>by
      have hlen:idx.length<ks.length:=by
       have:=List.Nodup.length_le_of_subset hnd' (l₂:=List.range ks.length) (fun j hj=>List.mem_range.2 (hlt' j hj))
       simp at this; omega
      refine ⟨ks.length - (idx++[i]).length,(idx++[i],s',c'),by rw [hn]; simp; omega,⟨rfl,hnd',hlt',fun T hT=>?_⟩,hf.sub hsub,hH' w hw⟩
      have h1:=hrun (kk::T) (by rw [ay5 hki] at hT; simpa using hT)
      rw [hstep,hg,hJ] at h1
      have h1:(l8 step (idx.length+1) T s').bind Kf=some res:=h1
      simpa using h1)
    refine fun a w hf hw=>hbody a w (hf.le (le2 _ _)) ?_
    rw [hit']
    exact hw
end
end Go.J
namespace Go.J
open Go Go.RowKit
set_option linter.unusedSimpArgs false
set_option linter.unusedSectionVars false
theorem FactAt.fam {es:List Ent} {K X G:Type} [DecidableEq K] {kv:K→Value} {vv:G→Value} {ents:X→G→List Ent} {b:Nat} {xs:List (K × X)} {Z:List (K × G)} {hol:Option K} {mes:Array MapEntry} {mcl:Nat} (j:Nat)
  (h:nth es j=some (.obj (n6 kv vv ents b xs Z hol mes mcl))):FactAt es (FamAt kv vv ents b xs Z hol mes mcl):=.obj j h
def bL7 {α : Type} (o:Option α) (f : α → List Ent):List Ent:=match o with | none=>[] | some t=>f t
def bL6 {α : Type} (o:Option α) (v:Value):Value:=match o with | none=>.pointer none | some _=>v
theorem S5 {α : Type} (f : α → List Ent):bL7 none f=[]:=rfl
theorem S4 {α : Type} (t : α) (f : α → List Ent):bL7 (some t) f=f t:=rfl
theorem S3 {α : Type} (v:Value):bL6 (none:Option α) v = .pointer none:=rfl
theorem S0 {α : Type} (t : α) (v:Value):bL6 (some t) v=v:=rfl
def au2 {α β : Type} (o:Option α) (x:Option β) (f : α → Option β):Option β:=match o with | none=>x | some t=>f t
theorem ad4 {α β : Type} (x:Option β) (f : α → Option β):au2 none x f=x:=rfl
theorem K4 {α β : Type} (t : α) (x:Option β) (f : α → Option β):au2 (some t) x f=f t:=rfl
theorem aj4 {α β : Type} {o:Option α} {x:Option β} {f : α → Option β} {r : β} {C:Prop} (h:au2 o x f=some r) (h0:o=none→x=some r→C) (h1:∀ t,o=some t→f t=some r→C):C:=by
 cases o with
 | none=>exact h0 rfl h
 | some t=>exact h1 t rfl h
section
variable {P:Program} {Rp:Post} {Kk:List Lay} {N:NN} {l:Fr} {ops:Array Oper} {rest:List Oper} {d:Nat} {dd:Option Nat} {ty:Nat} {pos:String} {af:Array Edge} {g:Option (Nat × Bool)} {x y u:Operand} {T T' Te E Tk:TypeId} {H:World→Prop}
theorem bg2 {q:Option Addr} (hT:P.underlying T=some (.pointer Te)) (hx:ev l x=some (.pointer q)) (hy:ev l y=some (.pointer none)):r4 P N ⟨dd,.binOp .neq T x y T',ty,pos,af,g⟩ l H (.bool (!q.isNone)):=al0 hx hy fun w=>by
 have hg:(eqGuard .neq T x y (.pointer q) (.pointer none)).run P w = .ok () w:=by cases q <;> simp [eqGuard]
 have h:∀ d,(Op.equalIn (d+1) T (.pointer q) (.pointer none)).run P w = .ok q.isNone w:=fun d=>by
  cases q <;> simp [Op.equalIn,run_underlying hT]
 simp only [binOp]
 simp [hg,Op.equal,Op.maxDepth,h 9999]
end
section
variable {P:Program} {K:Type} [DecidableEq K] {kv:K→Value} {b:Nat} {l:List (K × Value)} {es:Array MapEntry} {clock:Nat} {w:World} {T E Tk:TypeId} {k:K} {v:Value}
end
section
variable {P:Program} {Rp:Post} {Kk:List Lay} {N:NN} {l:Fr} {ops:Array Oper} {rest:List Oper} {d:Nat} {dd:Option Nat} {ty:Nat} {pos:String} {af:Array Edge} {x y:Operand} {T T' E Tk:TypeId}
variable {w0:World} {M:List Nat} {A:Nat→Prop} {es:List Ent} {j b:Nat} {K V:Type} [DecidableEq K] {kv:K→Value} {vv:V→Value} {L:List (K × V)} {k:K} {mes:Array MapEntry} {mcl:Nat}
end
end Go.J
namespace Go.J
open Go Go.RowKit
section
variable {P:Program} {N:NN} {l:Fr} {dd:Option Nat} {ty:Nat} {pos:String} {af:Array Edge} {g:Option (Nat × Bool)} {x oh om:Operand} {T:TypeId}
variable {w0:World} {M:List Nat} {A:Nat→Prop} {es:List Ent} {α : Type} {R:Rep α} {s:SV} {xs qs:List α} {lo hi:Int} {by_:Nat} {zs:List Value}
end
end Go.J
namespace Go.J
open Go Go.RowKit
set_option linter.unusedSimpArgs false
set_option linter.unusedSectionVars false
def badO:OW:=⟨[],fun _=>False,fun _ h=>h,fun h=>h.elim⟩
def vvP {Q:Type} (h:Q→Nat) (g:Option Q):Value:=match g with | none=>.pointer none | some q=>.pointer (some ⟨h q,0,none⟩)
def m5 {X Q:Type} (f:X→Q→List Ent) (x:X) (g:Option Q):List Ent:=match g with | none=>[.obj badO] | some q=>f x q
section
variable {K X G:Type} [DecidableEq K] {kv:K→Value} {vv:G→Value} {ents:X→G→List Ent} {b:Nat} {xs:List (K × X)} {Z:List (K × G)} {hol:Option K} {mes:Array MapEntry} {mcl:Nat} {k:K} {x:X} {g g':G}
theorem aO4 {V:Type} {l:List (K × V)} {v:V} (h:lkM l k=some v):G3 l k=true:=by rw [av4,h]; rfl
theorem bu1 (hk:xs.map Prod.fst=Z.map Prod.fst) (hn:(Z.map Prod.fst).Nodup) (hg:lkM Z k=some g) :
  (T9 ents (ab0 xs k x) (ab0 Z k g') none).Perm (ents x g'++T9 ents xs Z (some k)):=by
 have hz:G3 Z k=true:=aO4 hg
 have hh:G3 xs k=true:=by rw [Y1,hk,← Y1]; exact hz
 have h:=aS0 (ents:=ents) (k:=k) (x:=x) (g:=g') hk hn
 rwa [ai3 hh,ai3 hz] at h
variable {w0 w:World} {M:List Nat} {A:Nat→Prop} {es rs:List Ent}
theorem Sat.famGiveG (h:Sat w0 M A (.obj (n6 kv vv ents b xs Z (some k) mes mcl)::(ents x g'++rs)) w) (hg:lkM Z k=some g) (hv:vv g'=vv g) :
  Sat w0 M A (.obj (n6 kv vv ents b (ab0 xs k x) (ab0 Z k g') none mes mcl)::rs) w:=by
 have m:FamAt kv vv ents b xs Z (some k) mes mcl w:=h.okx _ (List.mem_cons_self ..)
 have hp:=bu1 (ents:=ents) (x:=x) (g':=g') m.kys m.ndZ hg
 have h':Sat w0 M A (([.obj (n6 kv vv ents b xs Z (some k) mes mcl)]++ents x g')++rs) w:=by simpa using h
 have hmp:mpV vv (ab0 Z k g')=mpV vv Z:=by
  rw [← bE1,hv]
  exact aG8 (by rw [show (mpV vv Z).map Prod.fst=Z.map Prod.fst by unfold mpV; rw [List.map_map]; rfl]; exact m.ndZ) (by rw [ao6,hg]; rfl)
 refine h'.front (a':=[.obj (n6 kv vv ents b (ab0 xs k x) (ab0 Z k g') none mes mcl)]) ⟨[],?_⟩ ?_ ?_
 ·rw [ag0,E1,ag0,List.append_nil]
  show ((b::l3 (T9 ents xs Z (some k)))++l3 (ents x g')).Perm (b::l3 (T9 ents (ab0 xs k x) (ab0 Z k g') none))
  rw [List.cons_append]
  refine List.Perm.cons b ?_
  have:=ak7 hp
  rw [E1] at this
  exact List.perm_append_comm.trans this.symm
 ·intro e he
  rw [List.mem_singleton.1 he]
  refine ⟨by rw [hmp]; exact m.map,by rw [ar9,ar9]; exact m.kys,fun e' he'=>?_⟩
  rcases List.mem_append.1 (hp.subset he') with q | q
  ·exact h.okx e' (List.mem_cons_of_mem _ (List.mem_append_left _ q))
  ·exact m.own e' q
 ·intro F hF; simp at hF
end
section
variable {K X Q:Type} [DecidableEq K] {kv:K→Value} {h:Q→Nat} {f:X→Q→List Ent} {b:Nat} {xs:List (K × X)} {Z:List (K × Option Q)} {hol:Option K} {mes:Array MapEntry} {mcl:Nat} {k:K} {t:X} {q q':Q}
variable {P:Program} {Rp:Post} {Kk:List Lay} {N:NN} {l:Fr} {ops:Array Oper} {rest:List Oper} {d:Nat} {dd:Option Nat} {ty:Nat} {pos:String} {af:Array Edge} {g0:Option (Nat × Bool)} {x y u:Operand} {T E Tk:TypeId} {c:Code}
variable {w0:World} {M:List Nat} {A:Nat→Prop} {es rs:List Ent} {j:Nat}
theorem Sat.takeP {w:World} (hw:Sat w0 M A es w) (hp:av1 es j=some (.obj (n6 kv (vvP h) (m5 f) b xs Z none mes mcl),rs)) (hro:∀ t q F,Ent.ro F∉f t q) :
  (lkM xs k=none∧lkM Z k=none)∨∃ t q,lkM xs k=some t∧lkM Z k=some (some q)∧Sat w0 M A (f t q++(.obj (n6 kv (vvP h) (m5 f) b xs Z (some k) mes mcl)::rs)) w:=by
 have h1:=hw.perm (an1 hp)
 have m:FamAt kv (vvP h) (m5 f) b xs Z none mes mcl w:=h1.okx _ (List.mem_cons_self ..)
 rcases m.lk k with h2 | ⟨t,g,h2,h3⟩
 ·exact .inl h2
 ·have hpm:=aB1 (ents:=m5 f) m.kys m.ndZ h2 h3
  cases g with
  | none=>exact (m.own (.obj badO) (hpm.symm.subset (List.mem_append_left _ (List.mem_cons_self ..)))).elim
  | some q=>exact .inr ⟨t,q,h2,h3,h1.famTake (g:=some q) h2 h3 (fun F=>hro t q F)⟩
theorem aM7 (j:Nat) (hp:av1 es j=some (.obj (n6 kv (vvP h) (m5 f) b xs Z none mes mcl),rs)) (k:K) (hro:∀ t q F,Ent.ro F∉f t q)
  (h0:lkM xs k=none→lkM Z k=none→LJ P Rp ops rest Kk N l (Sat w0 M A es)) (h1:∀ t q,lkM xs k=some t→lkM Z k=some (some q)→LJ P Rp ops rest Kk N l (Sat w0 M A (f t q++(.obj (n6 kv (vvP h) (m5 f) b xs Z (some k) mes mcl)::rs)))) :
  LJ P Rp ops rest Kk N l (Sat w0 M A es):=fun a w hf hw=>by
 rcases hw.takeP (k:=k) hp hro with ⟨e1,e2⟩ | ⟨t,q,e1,e2,e3⟩
 ·exact h0 e1 e2 a w hf hw
 ·exact h1 t q e1 e2 a w hf e3
theorem aG3 (j:Nat) (hp:av1 es j=some (.obj (n6 kv (vvP h) (m5 f) b xs Z none mes mcl),rs)) (k:K) (hro:∀ t q F,Ent.ro F∉f t q)
  (h0:lkM xs k=none→lkM Z k=none→CJ P Rp c Kk N l (Sat w0 M A es)) (h1:∀ t q,lkM xs k=some t→lkM Z k=some (some q)→CJ P Rp c Kk N l (Sat w0 M A (f t q++(.obj (n6 kv (vvP h) (m5 f) b xs Z (some k) mes mcl)::rs)))) :
  CJ P Rp c Kk N l (Sat w0 M A es):=fun a w hf hw=>by
 rcases hw.takeP (k:=k) hp hro with ⟨e1,e2⟩ | ⟨t,q,e1,e2,e3⟩
 ·exact h0 e1 e2 a w hf hw
 ·exact h1 t q e1 e2 a w hf e3
theorem aN1 (hT:P.underlying T=some (.map Tk E)) (hK:KeyF P Tk kv) (hz:∀ w,(zeroValue E).run P w = .ok (.pointer none) w) (hj:FactAt es (FamAt kv (vvP h) (m5 f) b xs Z hol mes mcl)) (hq:lkM Z k=some (some q)) (hx:ev l x=some (.map (some b))) (hy:ev l y=some (kv k)) :
  r4 P N ⟨dd,.lookup T x y false,ty,pos,af,g0⟩ l (Sat w0 M A es) (.pointer (some ⟨h q,0,none⟩)):=fun a w hf hw=>by
 have hh:=X1 (dd:=dd) (ty:=ty) (pos:=pos) (af:=af) (g:=g0) (N:=N) (w0:=w0) (M:=M) (A:=A) (vv:=vvP h) (z:=none) hT hK hz (hj.imp fun _ h=>h.map) hx hy a w hf hw
 rw [hq] at hh
 exact hh
theorem az7 (hT:P.underlying T=some (.map Tk E)) (hK:KeyF P Tk kv) (hz:∀ w,(zeroValue E).run P w = .ok (.pointer none) w) (hj:FactAt es (FamAt kv (vvP h) (m5 f) b xs Z hol mes mcl)) (hq:lkM Z k=none) (hx:ev l x=some (.map (some b))) (hy:ev l y=some (kv k)) :
  r4 P N ⟨dd,.lookup T x y false,ty,pos,af,g0⟩ l (Sat w0 M A es) (.pointer none):=fun a w hf hw=>by
 have hh:=X1 (dd:=dd) (ty:=ty) (pos:=pos) (af:=af) (g:=g0) (N:=N) (w0:=w0) (M:=M) (A:=A) (vv:=vvP h) (z:=none) hT hK hz (hj.imp fun _ h=>h.map) hx hy a w hf hw
 rw [hq] at hh
 exact hh
theorem bU5 {idx:List Nat} {i n rb:Nat} {ks:List K} {mes0:Array MapEntry} {mcl0:Nat} (hM:FactAt es (FamAt kv (vvP h) (m5 f) b xs Z hol mes mcl)) (hkp:KeptK ks mes0 mcl0 Z mes mcl) (hq:lkM Z k=some (some q)) (hk:nth es n=some (.obj (D4 rb (J3 b mes0 mcl0 (idx++[i]))))) (hi:ks[i]? = some k) (hx:ev l x=some (.pointer (some ⟨rb,0,none⟩))) :
  r4 P N ⟨dd,.entry x,ty,pos,af,g0⟩ l (Sat w0 M A es) (.tuple [kv k,.pointer (some ⟨h q,0,none⟩)].toArray):=fun a w hf hw=>by
 have hh:=bg4 (P:=P) (dd:=dd) (ty:=ty) (pos:=pos) (af:=af) (g0:=g0) (N:=N) (w0:=w0) (M:=M) (A:=A) (z:=none) hM hkp hk hi hx a w hf hw
 rw [hq] at hh
 exact hh
theorem Sat.giveP {w:World} (hw:Sat w0 M A es w) (ks:List Nat) (hp:J.picks ks es=some (.obj (n6 kv (vvP h) (m5 f) b xs Z (some k) mes mcl)::f t q',rs)) (hq:lkM Z k=some (some q)) (hv:h q'=h q) :
  Sat w0 M A (.obj (n6 kv (vvP h) (m5 f) b (ab0 xs k t) (ab0 Z k (some q')) none mes mcl)::rs) w:=by
 have h1:Sat w0 M A (.obj (n6 kv (vvP h) (m5 f) b xs Z (some k) mes mcl)::(m5 f t (some q')++rs)) w:=hw.perm (as5 hp)
 exact h1.famGiveG hq (by show Value.pointer (some ⟨h q',0,none⟩) = .pointer (some ⟨h q,0,none⟩); rw [hv])
theorem Sat.giveP0 {w:World} (hw:Sat w0 M A es w) (ks:List Nat) (hp:J.picks ks es=some (.obj (n6 kv (vvP h) (m5 f) b xs Z (some k) mes mcl)::f t q,rs)) (hx:lkM xs k=some t) (hq:lkM Z k=some (some q)) :
  Sat w0 M A (.obj (n6 kv (vvP h) (m5 f) b xs Z none mes mcl)::rs) w:=by
 have h2:=hw.giveP ks hp hq rfl
 have m:FamAt kv (vvP h) (m5 f) b (ab0 xs k t) (ab0 Z k (some q)) none mes mcl w:=h2.okx _ (List.mem_cons_self ..)
 have hnZ:(Z.map Prod.fst).Nodup:=by have:=m.ndZ; rwa [ar9] at this
 have hnx:(xs.map Prod.fst).Nodup:=by have:=m.kys; rw [ar9,ar9] at this; rw [this]; exact hnZ
 rwa [aG8 hnx hx,aG8 hnZ hq] at h2
theorem Sat.takeK {w:World} (hw:Sat w0 M A es w) (j:Nat) (hp:av1 es j=some (.obj (n6 kv (vvP h) (m5 f) b xs Z none mes mcl),rs)) (hro:∀ t q F,Ent.ro F∉f t q) (hx:lkM xs k=some t) (hq:lkM Z k=some (some q)) :
  Sat w0 M A (f t q++(.obj (n6 kv (vvP h) (m5 f) b xs Z (some k) mes mcl)::rs)) w:=by
 have h1:=hw.perm (an1 hp)
 exact h1.famTake (g:=some q) hx hq (fun F=>hro t q F)
theorem aw1 {α β : Type} {o:Option α} {x:Option β} {f : α → Option β} {r : β} (h:o=none) (hm:au2 o x f=some r):x=some r:=by subst h; exact hm
theorem aw0 {α β : Type} {o:Option α} {x:Option β} {f : α → Option β} {r : β} {t : α} (h:o=some t) (hm:au2 o x f=some r):f t=some r:=by subst h; exact hm
end
end Go.J
namespace Go.J
open Go Go.RowKit
section
variable {K X Q:Type} [DecidableEq K] {kv:K→Value} {h:Q→Nat} {f:X→Q→List Ent} {b:Nat} {xs:List (K × X)} {Z:List (K × Option Q)} {mes:Array MapEntry} {mcl:Nat} {k:K} {t:X} {q:Q}
theorem FamAt.rowP {α : Type} {R:Rep α} {v:Value} {ys:List α} {w:World} (m:FamAt kv (vvP h) (m5 f) b xs Z none mes mcl w) (hx:lkM xs k=some t) (hq:lkM Z k=some (some q)) (i:Nat) (hn:nth (f t q) i=some (.row R v ys)):RdS R v ys w:=by
 have hpm:=aB1 (ents:=m5 f) m.kys m.ndZ hx hq
 have hmem:Ent.row R v ys∈T9 (m5 f) xs Z none:=hpm.symm.subset (List.mem_append_left _ (by
  show Ent.row R v ys∈f t q
  rw [ac3] at hn
  exact List.mem_of_getElem? hn))
 exact RdS.of_row (m.own _ hmem)
end
end Go.J
namespace Go.J
open Go Go.RowKit
set_option linter.unusedSimpArgs false
theorem Sat.newRowC {w0 w:World} {M:List Nat} {A:Nat→Prop} {es:List Ent} {α : Type} (R:Rep α) (h:Sat w0 M A es w) (xs:List α) (cap:Nat) {cs:List Value} (hcs:cs.take (xs.length*R.sz)=R.cells xs) (hcl:cs.length=cap*R.sz) (hle:xs.length≤cap) (hl:cap≤maxLen) :
  Sat w0 M A (.row R (SV.v ⟨some ⟨w.heap.size,0,none⟩,xs.length,cap⟩) xs::es) (w.alloc (.cells cs.toArray R.T)):=by
 have h1:=h.alloc R.T cs
 refine Sat.cast1 (fs:=[.box w.heap.size R.T cs]) (e:=.row R (SV.v ⟨some ⟨w.heap.size,0,none⟩,xs.length,cap⟩) xs) h1 (by simp [l3,Ent.kl,SV.v,Value.ownBlock]) ?_ (fun F hF=>by cases hF)
 have hb:=h1.box (k:=0) rfl
 exact ⟨R.cells_len xs,.inr ⟨w.heap.size,cap,_,rfl,Nat.zero_le _,hb,hle,hl,by rw [List.size_toArray,hcl],hcs⟩⟩
theorem Sat.newRow {w0 w:World} {M:List Nat} {A:Nat→Prop} {es:List Ent} {α : Type} (R:Rep α) (h:Sat w0 M A es w) (xs:List α) {cs:List Value} (hcs:R.cells xs=cs) (hl:xs.length≤maxLen) :
  Sat w0 M A (.row R (SV.v ⟨some ⟨w.heap.size,0,none⟩,xs.length,xs.length⟩) xs::es) (w.alloc (.cells cs.toArray R.T)):=by
 subst hcs
 exact h.newRowC R xs xs.length (by rw [← R.cells_len xs]; exact List.take_length) (R.cells_len xs) (Nat.le_refl _) hl
end Go.J
namespace Go.G
open Go Go.J
set_option linter.unusedSimpArgs false
section
variable {P:Program} {N:NN} {l:Fr} {H:World→Prop} {d:Option Nat} {ty:Nat} {pos:String} {af:Array Edge} {g:Option (Nat × Bool)} {x y:Operand} {m n r:Int} {T T':TypeId} {kk:IntKind}
end
section
variable {P:Program} {α : Type} {R:Rep α} {Rp:Post} {K:List Lay} {N:NN} {l:Fr} {ops:Array Oper} {rest:List Oper} {d:Nat} {ty:Nat} {pos:String} {af:Array Edge} {x y:Operand} {T by_:Nat} {zs:List Value}
variable {w0:World} {M:List Nat} {A:Nat→Prop} {es:List Ent} {m:Int} {q:List α} {z : α}
end
end Go.G
namespace Go.J
open Go Go.RowKit
set_option linter.unusedSimpArgs false
set_option linter.unusedSectionVars false
section
variable {w0 w:World} {M:List Nat} {A:Nat→Prop} {es rest:List Ent}
theorem Sat.castL {fs gs:List Ent} (h:Sat w0 M A (fs++es) w) (hk:(l3 gs).Perm (l3 fs)) (hok:∀ e,e∈gs→e.okx w) (hro:∀ e,e∈gs→∀ F,e ≠ .ro F):Sat w0 M A (gs++es) w:=by
 have hp:(l3 (gs++es)).Perm (l3 (fs++es)):=by rw [E1,E1]; exact hk.append_right _
 refine ⟨h.chg,h.dis,hp.nodup_iff.2 h.nodup,fun k hm=>h.fresh k (hp.subset hm),fun f hf=>?_,fun f hf=>?_⟩
 ·rcases List.mem_append.1 hf with h1 | h1
  ·exact hok f h1
  ·exact h.okx f (List.mem_append_right _ h1)
 ·rcases List.mem_append.1 hf with h1 | h1
  ·cases f with
   | ro F=>exact (hro _ h1 F rfl).elim
   | box b T cs=>trivial
   | row R v xs=>trivial
   | obj o=>trivial
  ·cases f with
   | ro F =>
    intro w' hw'
    exact h.okr _ (List.mem_append_right _ h1) w' ⟨hw'.1,fun b hb hA hn=>hw'.2 b hb hA (fun hm=>hn (hp.subset hm))⟩
   | box b T cs=>trivial
   | row R v xs=>trivial
   | obj o=>trivial
end
section
variable {P:Program} {α : Type} {R:Rep α} {w0 w:World} {M:List Nat} {A:Nat→Prop} {es rest:List Ent}
end
section
variable {P:Program} {α : Type} {R:Rep α} {Rp:Post} {K:List Lay} {N:NN} {l:Fr} {ops:Array Oper} {rest:List Oper} {d:Nat} {ty:Nat} {pos:String} {af:Array Edge} {x y:Operand} {T by_:Nat} {zs:List Value}
variable {w0:World} {M:List Nat} {A:Nat→Prop} {es rs:List Ent} {s t:SV} {xs ys qs:List α} {k:Nat}
end
end Go.J
namespace Go.J
open Go Go.RowKit
set_option linter.unusedSimpArgs false
set_option linter.unusedSectionVars false
section
variable {α : Type} {R:Rep α} {w0 w:World} {M:List Nat} {A:Nat→Prop} {es rest:List Ent}
end
end Go.J
namespace Go.G
open Go Go.J Go.RowKit
set_option linter.unusedSimpArgs false
set_option linter.unusedSectionVars false
section
variable {α G K:Type} [DecidableEq K] {D:Nst α G} {xs:List (K × α)} {xg:List (K × (α × G))} {w:World} {x z : α} {g gz:G} {k:K}
end
section
variable {P:Program} {N:NN} {l:Fr} {dd:Option Nat} {ty:Nat} {pos:String} {af:Array Edge} {g:Option (Nat × Bool)} {x y:Operand} {T E Tk:TypeId} {c:Bool}
variable {w0:World} {M:List Nat} {A:Nat→Prop} {es:List Ent} {b:Nat} {K V:Type} [DecidableEq K] {kv:K→Value} {vv:V→Value} {L:List (K × V)} {k:K} {z y0:V} {mes:Array MapEntry} {mcl:Nat}
end
end Go.G
namespace Go.J
open Go Go.RowKit
set_option linter.unusedSimpArgs false
set_option linter.unusedSectionVars false
set_option linter.unusedVariables false
section
variable {α : Type} {R:Rep α} {w0 w:World} {M:List Nat} {A:Nat→Prop} {es:List Ent} {s s':SV} {xs qs:List α}
end
section
variable {P:Program} {Rp:Post} {K:List Lay} {N:NN} {l:Fr} {ops:Array Oper} {rest:List Oper} {d:Nat} {ty:Nat} {pos:String} {af:Array Edge} {x y:Operand} {T:TypeId}
variable {w0:World} {M:List Nat} {A:Nat→Prop} {es:List Ent} {α : Type} {R:Rep α} {s t:SV} {xs ys qs:List α} {k by_:Nat} {zs:List Value}
end
end Go.J
namespace Go.G
open Go Go.J Go.RowKit
section
variable {P:Program} {α : Type} {R:Rep α} {Rp:Post} {K:List Lay} {N:NN} {l:Fr} {ops:Array Oper} {rest:List Oper} {d:Nat} {ty:Nat} {pos:String} {af:Array Edge} {x y:Operand} {T by_:Nat} {zs:List Value}
variable {w0:World} {M:List Nat} {A:Nat→Prop} {es:List Ent} {m:Int} {q:List α} {z : α}
end
end Go.G
namespace Go.J
open Go Go.RowKit
set_option linter.unusedSimpArgs false
set_option linter.unusedSectionVars false
section
variable {α : Type} {R:Rep α} {w0 w:World} {M:List Nat} {A:Nat→Prop} {es rest:List Ent}
end
end Go.J
namespace Go.J
open Go Go.RowKit
set_option linter.unusedSimpArgs false
set_option linter.unusedSectionVars false
section
variable {α β : Type} {R:Rep β} {f : α → List β} {w0 w:World} {M:List Nat} {A:Nat→Prop} {es rest:List Ent}
end
end Go.J
namespace Go.J
open Go Go.RowKit
set_option linter.unusedSimpArgs false
set_option linter.unusedSectionVars false
def aA8 (next:ByteArray→Option (ByteArray × ByteArray)):Nat→ByteArray→Option (List ByteArray)
 | 0,s=>if s.size=0 then some [] else none
 | n+1,s=>if s.size=0 then some [] else (next s).bind fun p=>(aA8 next n p.2).bind fun L=>some (p.1::L)
def bh5 (next:ByteArray→Option (ByteArray × ByteArray)) (s:ByteArray):Option (List ByteArray):=aA8 next s.size s
def bd6 (TS TI TB TF:Nat) (C1:Code) (p q r:String):Code :=
 .block 0 (.loop (.seq (.seq (.region 0 #[⟨some 5,.load TS (.tmp 1),TS,p,#[],none⟩,⟨some 6,.call { callee:=.builtin .len,args:=#[.tmp 5],argTypes:=#[TS] },TI,p,#[⟨0,.data⟩],none⟩,
   ⟨some 7,.binOp .gtr TI (.tmp 6) (.const (.int .i64 0)) TI,TB,p,#[⟨1,.data⟩],none⟩] false) (.cond (.tmp 7) .skip (.exit 0)))
  (.block 1 (.seq (.region 1 #[⟨some 3,.assign (.const (.string (ByteArray.mk #[]))),TS,q,#[],none⟩] false) (.seq C1
   (.seq (.region 6 #[⟨some 21,.move (.tmp 0),TF,r,#[],none⟩,⟨some 22,.move (.tmp 3),TS,r,#[],none⟩,⟨some 23,.call { callee:=.value (.tmp 21),args:=#[.tmp 22],argTypes:=#[TS] },TB,r,#[⟨0,.data⟩,⟨1,.data⟩],none⟩,
    ⟨some 24,.unOp .not TB (.tmp 23),TB,r,#[⟨2,.data⟩],none⟩] false) (.cond (.tmp 24) .ret .skip)))))))
section
variable {P:Program} {w0:World} {M:List Nat} {A:Nat→Prop} {σ γ ρ : Type} {fn:Func} {kb bx TS TI TB TF by2:Nat} {p q r:String} {zs2:List Value} {C1:Code} {next:ByteArray→Option (ByteArray × ByteArray)}
theorem bB1 (hfn:P.funcs[kb]? = some fn) (hbody:fn.body=some (bd6 TS TI TB TF C1 p q r)) (hnt:fn.ntmps=25) (hres:fn.results = #[]) (hU:P.underlying TS=some .string) (hS:TyF P TS false 1 by2 zs2) {lo:Nat} {rc:Loop} (hrp:rc.params.size=1) {o1:OW}
  (hC:∀ {es:List Ent} {s line rest:ByteArray},next s=some (line,rest)→∀ (I:Act→World→Prop),(∀ (fr:Fr) (H:World→Prop),SubF [(0,.func (.yield lo) #[] #[]),(1,.pointer (some ⟨bx,0,none⟩)),(3,.string line)] fr→(∀ w,H w→Sat w0 M A (.box bx TS [.string rest]::es) w)→NJ P RF [.inv I] ⟨25,[]⟩ fr H) →
   CJ P RF C1 [.inv I] ⟨25,[]⟩ [(3,.string ByteArray.empty),(0,.func (.yield lo) #[] #[]),(1,.pointer (some ⟨bx,0,none⟩))] (Sat w0 M A (.box bx TS [.string s]::es)))
  {step:Nat→ByteArray → σ → Option (Flow σ ρ)} {s0 : σ} {f:Flow σ ρ} {text:ByteArray} {L:List ByteArray} (hL:bh5 next text=some L) (hs:l8 step 0 L s0=some f) (es : σ → γ → List Ent) (g0 : γ)
  (round:∀ (i:Nat) (x:ByteArray) (s : σ) (c : γ) (g:Flow σ ρ),L[i]? = some x→step i x s=some g→∀ (oi:OW) W,Sat w0 M A (.obj o1 :: .obj (D4 lo (.loop rc)) :: .obj oi::es s c) W →
   RoundIn Fence.wide 0 P lo rc.fn ((rc.params.zip #[.string x]).foldl (fun tmps (t,a)=>tmps.setIfInBounds t a) rc.tmps) rc.assign rc.body W fun e W' =>
    e = .returned (.bool true)∧∃ s' c',g = .nxt s'∧Sat w0 M A (.obj o1 :: .obj (D4 lo (.loop rc)) :: .obj oi::es s' c') W')
  {W:World} (hW:Sat w0 M A (.obj o1 :: .obj (D4 lo (.loop rc)) :: .box bx TS [.string text]::es s0 g0) W) :
  CallsIn Fence.wide 0 P kb #[.func (.yield lo) #[] #[],.pointer (some ⟨bx,0,none⟩)] W fun e W'=>(∃ v,e = .returned v)∧∃ s c,f = .brk s∧Sat w0 M A (.obj o1 :: .obj (D4 lo (.loop rc))::es s c) W':=by
 refine callsIn_of_wp hfn hbody trivial ?_ rfl
 have hf0:=aH3 (vs:=[(0,.func (.yield lo) #[] #[]),(1,.pointer (some ⟨bx,0,none⟩))]) (args:=[.func (.yield lo) #[] #[],.pointer (some ⟨bx,0,none⟩)]) hnt rfl ⟨rfl,rfl,trivial⟩
 have hW:Sat w0 M A (.box bx TS [.string text] :: .obj o1 :: .obj (D4 lo (.loop rc))::es s0 g0) W:=hW.perm ((List.Perm.cons _ (List.Perm.swap _ _ _)).trans (List.Perm.swap _ _ _))
 refine wpIn_block (aJ7 (fun k a w=>∃ (s:ByteArray) (T:List ByteArray) (j:Nat) (u : σ) (c : γ),aA8 next k s=some T∧L.drop j=T∧l8 step j T u=some f ∧
  Frm ⟨25,[]⟩ [(0,.func (.yield lo) #[] #[]),(1,.pointer (some ⟨bx,0,none⟩))] a∧Sat w0 M A (.box bx TS [.string s] :: .obj o1 :: .obj (D4 lo (.loop rc))::es u c) w) text.size
  ⟨text,L,0,s0,g0,hL,rfl,hs,hf0,hW⟩ ?_)
 clear hW hf0 hs hL
 rintro k a w ⟨s,T,j,u,c,hT,hd,hrun,hf,hw⟩
 refine wpIn_seq (wpIn_seq (au8 (l0 (lp rfl (i8 hS rfl (j:=0) rfl rfl) (lp rfl (Q9 hU rfl) (lp rfl (X2 rfl rfl) (d5 (aw6 fun a w hf hw=>?_)))))) hf hw))
 by_cases h0:s.size=0
 ·
  have hb:decide (((s.size:Nat):Int)>0)=false:=decide_eq_false (by omega)
  rw [hb] at hf
  refine wpIn_cond_false (hf.ev rfl) (wpIn_exit ?_)
  have hTn:T=[]:=by
   cases k with
   | zero=>unfold aA8 at hT; rw [if_pos h0] at hT; exact (Option.some.inj hT).symm
   | succ k=>unfold aA8 at hT; rw [if_pos h0] at hT; exact (Option.some.inj hT).symm
  subst hTn
  have hkf:f = .brk u:=(Option.some.inj hrun).symm
  show _∧_
  refine ⟨hf.defers,.tuple #[],?_,⟨_,rfl⟩,u,c,hkf,hw.sublist (List.sublist_cons_self _ _)⟩
  simp [results,hres]
 ·
  have hb:decide (((s.size:Nat):Int)>0)=true:=decide_eq_true (by omega)
  rw [hb] at hf
  cases k with
  | zero=>unfold aA8 at hT; rw [if_neg h0] at hT; cases hT
  | succ k =>
   unfold aA8 at hT
   rw [if_neg h0] at hT
   obtain ⟨⟨line,rest⟩,hn,hT⟩:=d6 hT
   obtain ⟨T',hT',hT⟩:=d6 hT
   obtain rfl:=Option.some.inj hT
   have hx:L[j]? = some line:=by
    have:(L.drop j)[0]? = some line:=by rw [hd]; rfl
    simpa using this
   have hd':L.drop (j+1)=T':=by
    have:(L.drop j).drop 1=T':=by rw [hd]; rfl
    simpa [Nat.add_comm] using this
   obtain ⟨g,hg,h2⟩:=d6 hrun
   refine wpIn_cond_true (hf.ev rfl) (wpIn_skip ?_)
   refine wpIn_block (wpIn_seq (au8 (l0 (lp rfl (G9 (v:=.string (ByteArray.mk #[])) rfl) (d5 (aw6 fun a w hf hw=>?_)))) hf hw))
   have hf:Frm ⟨25,[]⟩ [(3,.string ByteArray.empty),(0,.func (.yield lo) #[] #[]),(1,.pointer (some ⟨bx,0,none⟩))] a:=hf.sub ⟨rfl,rfl,rfl,trivial⟩
   have hc:=hC (es:=.obj o1 :: .obj (D4 lo (.loop rc))::es u c) hn (fun a' w'=>Frm ⟨25,[]⟩ [(0,.func (.yield lo) #[] #[]),(1,.pointer (some ⟨bx,0,none⟩)),(3,.string line)] a'∧Sat w0 M A (.box bx TS [.string rest] :: .obj o1 :: .obj (D4 lo (.loop rc))::es u c) w')
    (fun fr H hsub hH=>ah4 fun a w hf hw=>⟨hf.sub hsub,hH w hw⟩)
   refine wpIn_seq (wpIn_mono (wpIn_wide.2 (bf3 (hc a w hf hw))) ?_)
   intro e a w he
   cases e with
   | exit id=>exact he.elim
   | goto l=>exact he.elim
   | ret=>exact he.elim
   | panic c=>exact he.elim
   | outgrown=>exact he.elim
   | normal =>
    obtain ⟨hf,hw⟩:=he
    refine wpIn_seq (wpIn_region ?_)
    show wpOpsIn Fence.wide 0 P _ _ [0,1,2,3] _ _
    refine ah1 rfl rfl rfl rfl (m0 (v:=.func (.yield lo) #[] #[]) rfl) hf hw fun a hf=>ah1 rfl rfl rfl rfl (m0 (v:=.string line) rfl) hf hw fun a hf=>?_
    have hl:w.heap[lo]? = some (.loop rc):=hw.objAt (k:=2) rfl
    unfold wpOpsIn
    simp only [List.getElem?_toArray,List.getElem?_cons_succ,List.getElem?_cons_zero]
    rw [if_pos (by simp [Region.wanted])]
    refine ⟨fun _ _=>trivial,?_⟩
    rw [show Fence.wide.round=none from rfl,Oper.semAt_none]
    have hy:=run_yield (P:=P) (args:=#[.string line]) hl (by simp [hrp])
    have hcall:(execOp a.eval ⟨some 23,.call { callee:=.value (.tmp 21),args:=#[.tmp 22],argTypes:=#[TS] },TB,r,#[⟨0,.data⟩,⟨1,.data⟩],none⟩).run P w =
      .ok (.round lo rc.fn ((rc.params.zip #[.string line]).foldl (fun tmps (t,a)=>tmps.setIfInBounds t a) rc.tmps) rc.assign rc.body) w:=by
     have h10:a.eval (.tmp 21) = .func (.yield lo) #[] #[]:=hf.ev rfl
     have h11:a.eval (.tmp 22) = .string line:=hf.ev rfl
     simp [execOp,resolve,Deferred.ofValue,h10,h11,invoke,hy]
    rw [hcall]
    have hw:Sat w0 M A (.obj o1 :: .obj (D4 lo (.loop rc)) :: .obj (D4 bx (.cells [.string rest].toArray TS (0,0)))::es u c) w:=by
     have h5:Sat w0 M A ([.obj (D4 bx (.cells [.string rest].toArray TS (0,0)))]++(.obj o1 :: .obj (D4 lo (.loop rc))::es u c)) w :=
      Sat.castL (fs:=[.box bx TS [.string rest]]) hw (by simp [l3,Ent.kl,D4]) (fun e he=>by rw [List.mem_singleton.1 he]; exact hw.okx (.box bx TS [.string rest]) (List.mem_cons_self ..)) (fun e he F=>by rw [List.mem_singleton.1 he]; intro h; cases h)
     exact Sat.perm h5 ((List.Perm.swap _ _ _).trans (List.Perm.cons _ (List.Perm.swap _ _ _)))
    refine ⟨fun h=>by simp [Fence.wide] at h,(round j line u c g hx hg _ w hw).mono ?_⟩
    rintro e w' ⟨rfl,s',c',rfl,hw'⟩
    have hw':Sat w0 M A (.box bx TS [.string rest] :: .obj o1 :: .obj (D4 lo (.loop rc))::es s' c') w':=by
     have h5:=hw'.perm (es':=.obj (D4 bx (.cells [.string rest].toArray TS (0,0))) :: .obj o1 :: .obj (D4 lo (.loop rc))::es s' c') ((List.Perm.cons _ (List.Perm.swap _ _ _)).trans (List.Perm.swap _ _ _))
     exact Sat.castL (fs:=[Ent.obj (D4 bx (Obj.cells #[Value.string rest] TS (0,0)))]) (gs:=[Ent.box bx TS [Value.string rest]]) h5 (by simp [l3,Ent.kl,D4]) (fun e he=>by rw [List.mem_singleton.1 he]; exact h5.objAt (k:=0) rfl) (fun e he F=>by rw [List.mem_singleton.1 he]; intro h; cases h)
    have hf':=hf.put (d:=23) rfl (.bool true)
    refine ah1 (v:=.bool false) rfl rfl rfl rfl (p4 (b:=true) rfl) hf' hw' fun a hf=>?_
    refine wpIn_cond_false (hf.ev rfl) (wpIn_skip ?_)
    exact ⟨k,Nat.lt_succ_self _,rest,T',j+1,s',c',hT',hd',h2,hf.sub ⟨rfl,rfl,trivial⟩,hw'⟩
theorem bH9 {Rp:Post} {Kk:List Lay} {l:Fr} {H:World→Prop} {n tf p1 b0 b1:Nat} {asg bodyc:Code} (hfn:P.funcs[kb]? = some fn) (hbody:fn.body=some (bd6 TS TI TB TF C1 p q r)) (hnt:fn.ntmps=25) (hres:fn.results = #[])
  (hU:P.underlying TS=some .string) (hS:TyF P TS false 1 by2 zs2)
  (hC:∀ {lo:Nat} {es:List Ent} {s line rest:ByteArray},next s=some (line,rest)→∀ (I:Act→World→Prop),(∀ (fr:Fr) (H:World→Prop),SubF [(0,.func (.yield lo) #[] #[]),(1,.pointer (some ⟨bx,0,none⟩)),(3,.string line)] fr→(∀ w,H w→Sat w0 M A (.box bx TS [.string rest]::es) w)→NJ P RF [.inv I] ⟨25,[]⟩ fr H) →
   CJ P RF C1 [.inv I] ⟨25,[]⟩ [(3,.string ByteArray.empty),(0,.func (.yield lo) #[] #[]),(1,.pointer (some ⟨bx,0,none⟩))] (Sat w0 M A (.box bx TS [.string s]::es))) (hcf:∀ args w,(callFunc kb args).run P w = .ok (.enter kb args) w)
  (hfv:ev l (.tmp tf)=some (.func (.func kb) #[] [.pointer (some ⟨bx,0,none⟩)].toArray)) (h1:Nat.blt p1 n=true) (hra:as3 asg=true) (hrb:as3 bodyc=true)
  {step:Nat→ByteArray → σ → Option (Flow σ ρ)} {s0 : σ} {f:Flow σ ρ} {text:ByteArray} {L:List ByteArray} (hL:bh5 next text=some L) (hs:l8 step 0 L s0=some f) (es : σ → γ → List Ent) (g0 : γ) (hH:∀ w,H w→Sat w0 M A (.box bx TS [.string text]::es s0 g0) w)
  (after:∀ s c D,f = .brk s→NJ P Rp Kk ⟨n,[aA4 D]⟩ l (Sat w0 M A (.obj (am1 D)::es s c)))
  (body:∀ (i:Nat) (x:ByteArray) (s : σ) (c : γ) (g:Flow σ ρ),L[i]? = some x→step i x s=some g→∀ (o1 o2 o3 oi:OW) (I I0:Act→World→Prop),
   (∀ (fr':Fr) (H':World→Prop) (s' : σ) (c' : γ),g = .nxt s'→(∀ w,H' w→Sat w0 M A (.obj o1 :: .obj o3 :: .obj oi::es s' c') w)→NJ P RF [.inv I] ⟨n,[]⟩ fr' H') →
   (∀ (fr':Fr) (H':World→Prop) (es':List Ent),(∀ w,H' w→Sat w0 M A (.obj o1 :: .obj o2::es') w)→CJ P RF (.block b1 bodyc) [.inv I] ⟨n,[]⟩ fr' (Sat w0 M A (.obj o1 :: .obj o3::es'))→NJ P RF [.inv I0] ⟨n,[]⟩ fr' H') →
   CJ P RF asg [.inv I0] ⟨n,[]⟩ ((p1,.string x)::l) (Sat w0 M A (.obj o1 :: .obj o2 :: .obj oi::es s c))) :
  CJ P Rp (.block b0 (.rangeFunc (.tmp tf) #[p1] asg (.block b1 bodyc))) Kk ⟨n,[]⟩ l H:=by
 intro a w hf hw
 refine aG7 ?_
 show (Code.rangeFunc (.tmp tf) #[p1] asg (.block b1 bodyc)).wp P (Exit.inBlock b0 (QK P Rp Kk)) a w
 rw [← wpIn_wide (n:=0)]
 refine wpIn_rangeFunc fun fnn _=>?_
 let rc:Loop:={ state:=.ready,pending:=none,fn:=fnn,tmps:=a.tmps,params:=#[p1],assign:=asg,body:=.block b1 bodyc,defers:=w.heap.size }
 have hw1:Sat w0 M A (.obj (D4 (w.heap.size+1) (.loop rc)) :: .obj (am1 w.heap.size) :: .box bx TS [.string text]::es s0 g0) ((w.alloc (.deferred (some []))).alloc (.loop rc)):=by
  have e1:=(hH w hw).allocO (.deferred (some []))
  have e2:=e1.allocO (.loop rc)
  rw [World.size_alloc] at e2
  exact e2
 have hw2:=hw1.picks [1,0] (xs:=.obj (am1 w.heap.size) :: .obj (D4 (w.heap.size+1) (.loop rc))::[]) rfl
 have hfe:a.eval (.tmp tf) = .func (.func kb) #[] #[.pointer (some ⟨bx,0,none⟩)]:=hf.ev hfv
 have hperm:Sat w0 M A (.obj (am1 w.heap.size) :: .obj (D4 (w.heap.size+1) (.loop rc)) :: .box bx TS [.string text]::es s0 g0) ((w.alloc (.deferred (some []))).alloc (.loop rc)):=hw1.perm (List.Perm.swap _ _ _)
 clear hw2 hw1
 let W1:=(w.alloc (.deferred (some []))).alloc (.loop rc)
 have hres1:(resolve a.eval (rangeCall (.tmp tf) (w.heap.size+1)) 0).run P W1 = .ok { target:=.fn (.func kb) #[.pointer (some ⟨bx,0,none⟩)],args:=#[.func (.yield (w.heap.size+1)) #[] #[]] } W1:=by
  show (Deferred.ofValue (a.eval (.tmp tf)) _).run P _=_
  rw [hfe]
  simp [Deferred.ofValue,Act.eval]
 have hinv:(invoke (.fn (.func kb) #[.pointer (some ⟨bx,0,none⟩)]) #[.func (.yield (w.heap.size+1)) #[] #[]]).run P W1 = .ok (.enter kb #[.func (.yield (w.heap.size+1)) #[] #[],.pointer (some ⟨bx,0,none⟩)]) W1:=by
  simp [invoke,hcf]
 refine ⟨w.heap.size+1,[aA4 w.heap.size],W1,_,W1,kb,_,W1,run_enterLoop_outer _ _ _ _ _,hres1,fun _ _=>trivial,hinv,fun h=>by simp [Fence.wide] at h,?_⟩
 have hdf:a.defers=[]:=hf.defers
 refine (bB1 (o1:=am1 w.heap.size) (rc:=rc) hfn hbody hnt hres hU hS rfl (fun hn I hk=>hC hn I hk) hL hs es g0 ?_ hperm).mono ?_
 ·
  intro i x s c g hx hg oi W hW
  refine roundIn_of_wpIn trivial ?_
  have hl:∀ {es'},∀ {W:World},Sat w0 M A (.obj (am1 w.heap.size) :: .obj (D4 (w.heap.size+1) (.loop rc))::es') W→W.heap[w.heap.size+1]? = some (.loop rc):=fun h=>h.objAt (k:=1) rfl
  have hfr:Frm ⟨n,[]⟩ ((p1,.string x)::l) { tmps:=(rc.params.zip #[.string x]).foldl (fun tmps (t,a)=>tmps.setIfInBounds t a) rc.tmps,defers:=[] }:=by
   have e1:=hf.put (d:=p1) h1 (.string x)
   have e2:(a.put (some p1) (.string x))={ tmps:=(rc.params.zip #[.string x]).foldl (fun tmps (t,a)=>tmps.setIfInBounds t a) rc.tmps,defers:=[] }:=by
    simp [Act.put,hdf,rc]
   rw [e2] at e1
   exact e1
  let rb:Loop:={ rc with state:=.busy }
  let I:Act→World→Prop:=fun _ W'=>∃ s' c',g = .nxt s'∧Sat w0 M A (.obj (am1 w.heap.size) :: .obj (D4 (w.heap.size+1) (.loop rb)) :: .obj oi::es s' c') W'
  have hb:=body i x s c g hx hg (am1 w.heap.size) (D4 (w.heap.size+1) (.loop rc)) (D4 (w.heap.size+1) (.loop rb)) oi I
   (fun a₁ w₁=>∃ w₂,(Instr.beginRound (w.heap.size+1)).run P w₁ = .ok () w₂∧Code.wpIn (Fence.wide.inRound (w.heap.size+1)) 0 P (.block b1 bodyc)
    (roundPost P (w.heap.size+1) fun e W'=>e = .returned (.bool true)∧∃ s' c',g = .nxt s'∧Sat w0 M A (.obj (am1 w.heap.size) :: .obj (D4 (w.heap.size+1) (.loop rc)) :: .obj oi::es s' c') W') a₁ w₂)
   (fun fr' H' s' c' hg' hH'=>ah4 fun a w _ hw=>⟨s',c',hg',hH' w hw⟩)
   (fun fr' H' es' hH' hc=>ah4 fun a1 w1 hf1 hw1=>by
    have hs1:=hH' w1 hw1
    refine ⟨_,run_beginRound (hl hs1) rfl,?_⟩
    have hs2:=hs1.putO (k:=1) (o':=.loop rb) rfl
    refine wpIn_mono (ar6 _ _ (by exact hrb) (fun _ _ h=>h) (hc a1 _ hf1 hs2)) ?_
    intro e a2 w2 h
    cases e with
    | normal =>
     obtain ⟨s',c',hg',hs3⟩:=h
     have hb3:w2.heap[w.heap.size+1]? = some (.loop rb):=hs3.objAt (k:=1) rfl
     exact ⟨_,_,run_endRound none hb3,rfl,s',c',hg',hs3.putO (k:=1) rfl⟩
    | exit id=>exact h.elim
    | goto l=>exact h.elim
    | ret=>exact h.elim
    | panic c=>exact h.elim
    | outgrown=>exact h.elim)
  refine wpIn_mono (ar6 _ _ hra (fun _ _ h=>h) (hb _ _ hfr hW)) ?_
  intro e a1 w1 h
  cases e <;> first | exact h | exact h.elim
 ·rintro e W ⟨⟨v,rfl⟩,s,c,hfs,hW⟩
  have hl:W.heap[w.heap.size+1]? = some (.loop rc):=hW.objAt (k:=1) rfl
  refine ⟨none,_,run_endLoop hl (by simp [rc]),?_⟩
  have hW2:=hW.putO (k:=1) (o':=.loop { rc with state:=.exhausted }) rfl
  refine after s c w.heap.size hfs _ _ ?_ (hW2.sublist (List.Sublist.cons_cons _ (List.sublist_cons_self _ _)))
  refine ⟨by simp [hdf],hf.size,hf.vals⟩
end
end Go.J
namespace Go.G
open Go Go.J
theorem c1 {α0:Sort _} {a0 : α0}:a0=a0∧True:=⟨rfl,trivial⟩
theorem c2 {α0:Sort _} {a0 : α0} {α1:Sort _} {a1 : α1}:a0=a0∧a1=a1∧True:=⟨rfl,rfl,trivial⟩
theorem c3 {α0:Sort _} {a0 : α0} {α1:Sort _} {a1 : α1} {α2:Sort _} {a2 : α2}:a0=a0∧a1=a1∧a2=a2∧True:=⟨rfl,rfl,rfl,trivial⟩
theorem c4 {α0:Sort _} {a0 : α0} {α1:Sort _} {a1 : α1} {α2:Sort _} {a2 : α2} {α3:Sort _} {a3 : α3}:a0=a0∧a1=a1∧a2=a2∧a3=a3∧True:=⟨rfl,rfl,rfl,rfl,trivial⟩
theorem c5 {α0:Sort _} {a0 : α0} {α1:Sort _} {a1 : α1} {α2:Sort _} {a2 : α2} {α3:Sort _} {a3 : α3} {α4:Sort _} {a4 : α4}:a0=a0∧a1=a1∧a2=a2∧a3=a3∧a4=a4∧True:=⟨rfl,rfl,rfl,rfl,rfl,trivial⟩
theorem c6 {α0:Sort _} {a0 : α0} {α1:Sort _} {a1 : α1} {α2:Sort _} {a2 : α2} {α3:Sort _} {a3 : α3} {α4:Sort _} {a4 : α4} {α5:Sort _} {a5 : α5}:a0=a0∧a1=a1∧a2=a2∧a3=a3∧a4=a4∧a5=a5∧True:=⟨rfl,rfl,rfl,rfl,rfl,rfl,trivial⟩
theorem c7 {α0:Sort _} {a0 : α0} {α1:Sort _} {a1 : α1} {α2:Sort _} {a2 : α2} {α3:Sort _} {a3 : α3} {α4:Sort _} {a4 : α4} {α5:Sort _} {a5 : α5} {α6:Sort _} {a6 : α6}:a0=a0∧a1=a1∧a2=a2∧a3=a3∧a4=a4∧a5=a5∧a6=a6∧True:=⟨rfl,rfl,rfl,rfl,rfl,rfl,rfl,trivial⟩
theorem c8 {α0:Sort _} {a0 : α0} {α1:Sort _} {a1 : α1} {α2:Sort _} {a2 : α2} {α3:Sort _} {a3 : α3} {α4:Sort _} {a4 : α4} {α5:Sort _} {a5 : α5} {α6:Sort _} {a6 : α6} {α7:Sort _} {a7 : α7}:a0=a0∧a1=a1∧a2=a2∧a3=a3∧a4=a4∧a5=a5∧a6=a6∧a7=a7∧True:=⟨rfl,rfl,rfl,rfl,rfl,rfl,rfl,rfl,trivial⟩
theorem c9 {α0:Sort _} {a0 : α0} {α1:Sort _} {a1 : α1} {α2:Sort _} {a2 : α2} {α3:Sort _} {a3 : α3} {α4:Sort _} {a4 : α4} {α5:Sort _} {a5 : α5} {α6:Sort _} {a6 : α6} {α7:Sort _} {a7 : α7} {α8:Sort _} {a8 : α8}:a0=a0∧a1=a1∧a2=a2∧a3=a3∧a4=a4∧a5=a5∧a6=a6∧a7=a7∧a8=a8∧True:=⟨rfl,rfl,rfl,rfl,rfl,rfl,rfl,rfl,rfl,trivial⟩
theorem c10 {α0:Sort _} {a0 : α0} {α1:Sort _} {a1 : α1} {α2:Sort _} {a2 : α2} {α3:Sort _} {a3 : α3} {α4:Sort _} {a4 : α4} {α5:Sort _} {a5 : α5} {α6:Sort _} {a6 : α6} {α7:Sort _} {a7 : α7} {α8:Sort _} {a8 : α8} {α9:Sort _} {a9 : α9}:a0=a0∧a1=a1∧a2=a2∧a3=a3∧a4=a4∧a5=a5∧a6=a6∧a7=a7∧a8=a8∧a9=a9∧True:=⟨rfl,rfl,rfl,rfl,rfl,rfl,rfl,rfl,rfl,rfl,trivial⟩
theorem c11 {α0:Sort _} {a0 : α0} {α1:Sort _} {a1 : α1} {α2:Sort _} {a2 : α2} {α3:Sort _} {a3 : α3} {α4:Sort _} {a4 : α4} {α5:Sort _} {a5 : α5} {α6:Sort _} {a6 : α6} {α7:Sort _} {a7 : α7} {α8:Sort _} {a8 : α8} {α9:Sort _} {a9 : α9} {α10:Sort _} {a10 : α10}:a0=a0∧a1=a1∧a2=a2∧a3=a3∧a4=a4∧a5=a5∧a6=a6∧a7=a7∧a8=a8∧a9=a9∧a10=a10∧True:=⟨rfl,rfl,rfl,rfl,rfl,rfl,rfl,rfl,rfl,rfl,rfl,trivial⟩
theorem c12 {α0:Sort _} {a0 : α0} {α1:Sort _} {a1 : α1} {α2:Sort _} {a2 : α2} {α3:Sort _} {a3 : α3} {α4:Sort _} {a4 : α4} {α5:Sort _} {a5 : α5} {α6:Sort _} {a6 : α6} {α7:Sort _} {a7 : α7} {α8:Sort _} {a8 : α8} {α9:Sort _} {a9 : α9} {α10:Sort _} {a10 : α10} {α11:Sort _} {a11 : α11}:a0=a0∧a1=a1∧a2=a2∧a3=a3∧a4=a4∧a5=a5∧a6=a6∧a7=a7∧a8=a8∧a9=a9∧a10=a10∧a11=a11∧True:=⟨rfl,rfl,rfl,rfl,rfl,rfl,rfl,rfl,rfl,rfl,rfl,rfl,trivial⟩
theorem c13 {α0:Sort _} {a0 : α0} {α1:Sort _} {a1 : α1} {α2:Sort _} {a2 : α2} {α3:Sort _} {a3 : α3} {α4:Sort _} {a4 : α4} {α5:Sort _} {a5 : α5} {α6:Sort _} {a6 : α6} {α7:Sort _} {a7 : α7} {α8:Sort _} {a8 : α8} {α9:Sort _} {a9 : α9} {α10:Sort _} {a10 : α10} {α11:Sort _} {a11 : α11} {α12:Sort _} {a12 : α12}:a0=a0∧a1=a1∧a2=a2∧a3=a3∧a4=a4∧a5=a5∧a6=a6∧a7=a7∧a8=a8∧a9=a9∧a10=a10∧a11=a11∧a12=a12∧True:=⟨rfl,rfl,rfl,rfl,rfl,rfl,rfl,rfl,rfl,rfl,rfl,rfl,rfl,trivial⟩
theorem c14 {α0:Sort _} {a0 : α0} {α1:Sort _} {a1 : α1} {α2:Sort _} {a2 : α2} {α3:Sort _} {a3 : α3} {α4:Sort _} {a4 : α4} {α5:Sort _} {a5 : α5} {α6:Sort _} {a6 : α6} {α7:Sort _} {a7 : α7} {α8:Sort _} {a8 : α8} {α9:Sort _} {a9 : α9} {α10:Sort _} {a10 : α10} {α11:Sort _} {a11 : α11} {α12:Sort _} {a12 : α12} {α13:Sort _} {a13 : α13}:a0=a0∧a1=a1∧a2=a2∧a3=a3∧a4=a4∧a5=a5∧a6=a6∧a7=a7∧a8=a8∧a9=a9∧a10=a10∧a11=a11∧a12=a12∧a13=a13∧True:=⟨rfl,rfl,rfl,rfl,rfl,rfl,rfl,rfl,rfl,rfl,rfl,rfl,rfl,rfl,trivial⟩
theorem c15 {α0:Sort _} {a0 : α0} {α1:Sort _} {a1 : α1} {α2:Sort _} {a2 : α2} {α3:Sort _} {a3 : α3} {α4:Sort _} {a4 : α4} {α5:Sort _} {a5 : α5} {α6:Sort _} {a6 : α6} {α7:Sort _} {a7 : α7} {α8:Sort _} {a8 : α8} {α9:Sort _} {a9 : α9} {α10:Sort _} {a10 : α10} {α11:Sort _} {a11 : α11} {α12:Sort _} {a12 : α12} {α13:Sort _} {a13 : α13} {α14:Sort _} {a14 : α14}:a0=a0∧a1=a1∧a2=a2∧a3=a3∧a4=a4∧a5=a5∧a6=a6∧a7=a7∧a8=a8∧a9=a9∧a10=a10∧a11=a11∧a12=a12∧a13=a13∧a14=a14∧True:=⟨rfl,rfl,rfl,rfl,rfl,rfl,rfl,rfl,rfl,rfl,rfl,rfl,rfl,rfl,rfl,trivial⟩
theorem c16 {α0:Sort _} {a0 : α0} {α1:Sort _} {a1 : α1} {α2:Sort _} {a2 : α2} {α3:Sort _} {a3 : α3} {α4:Sort _} {a4 : α4} {α5:Sort _} {a5 : α5} {α6:Sort _} {a6 : α6} {α7:Sort _} {a7 : α7} {α8:Sort _} {a8 : α8} {α9:Sort _} {a9 : α9} {α10:Sort _} {a10 : α10} {α11:Sort _} {a11 : α11} {α12:Sort _} {a12 : α12} {α13:Sort _} {a13 : α13} {α14:Sort _} {a14 : α14} {α15:Sort _} {a15 : α15}:a0=a0∧a1=a1∧a2=a2∧a3=a3∧a4=a4∧a5=a5∧a6=a6∧a7=a7∧a8=a8∧a9=a9∧a10=a10∧a11=a11∧a12=a12∧a13=a13∧a14=a14∧a15=a15∧True:=⟨rfl,rfl,rfl,rfl,rfl,rfl,rfl,rfl,rfl,rfl,rfl,rfl,rfl,rfl,rfl,rfl,trivial⟩
theorem c17 {α0:Sort _} {a0 : α0} {α1:Sort _} {a1 : α1} {α2:Sort _} {a2 : α2} {α3:Sort _} {a3 : α3} {α4:Sort _} {a4 : α4} {α5:Sort _} {a5 : α5} {α6:Sort _} {a6 : α6} {α7:Sort _} {a7 : α7} {α8:Sort _} {a8 : α8} {α9:Sort _} {a9 : α9} {α10:Sort _} {a10 : α10} {α11:Sort _} {a11 : α11} {α12:Sort _} {a12 : α12} {α13:Sort _} {a13 : α13} {α14:Sort _} {a14 : α14} {α15:Sort _} {a15 : α15} {α16:Sort _} {a16 : α16}:a0=a0∧a1=a1∧a2=a2∧a3=a3∧a4=a4∧a5=a5∧a6=a6∧a7=a7∧a8=a8∧a9=a9∧a10=a10∧a11=a11∧a12=a12∧a13=a13∧a14=a14∧a15=a15∧a16=a16∧True:=⟨rfl,rfl,rfl,rfl,rfl,rfl,rfl,rfl,rfl,rfl,rfl,rfl,rfl,rfl,rfl,rfl,rfl,trivial⟩
theorem c18 {α0:Sort _} {a0 : α0} {α1:Sort _} {a1 : α1} {α2:Sort _} {a2 : α2} {α3:Sort _} {a3 : α3} {α4:Sort _} {a4 : α4} {α5:Sort _} {a5 : α5} {α6:Sort _} {a6 : α6} {α7:Sort _} {a7 : α7} {α8:Sort _} {a8 : α8} {α9:Sort _} {a9 : α9} {α10:Sort _} {a10 : α10} {α11:Sort _} {a11 : α11} {α12:Sort _} {a12 : α12} {α13:Sort _} {a13 : α13} {α14:Sort _} {a14 : α14} {α15:Sort _} {a15 : α15} {α16:Sort _} {a16 : α16} {α17:Sort _} {a17 : α17}:a0=a0∧a1=a1∧a2=a2∧a3=a3∧a4=a4∧a5=a5∧a6=a6∧a7=a7∧a8=a8∧a9=a9∧a10=a10∧a11=a11∧a12=a12∧a13=a13∧a14=a14∧a15=a15∧a16=a16∧a17=a17∧True:=⟨rfl,rfl,rfl,rfl,rfl,rfl,rfl,rfl,rfl,rfl,rfl,rfl,rfl,rfl,rfl,rfl,rfl,rfl,trivial⟩
theorem osi {α : Type _} {a b : α} (h:some a=some b):a=b:=Option.some.inj h
section
variable {P:Program} {R Rp:Post} {K:List Lay} {N:NN} {l:Fr} {H:World→Prop} {ops:Array Oper} {rest:List Oper} {d ty:Nat} {pos:String} {af:Array Edge} {v:Value} {x:Operand}
theorem lm (hd:Nat.blt d N.n=true) (hx:ev l x=some v) (h:LJ P R ops rest K N ((d,v)::l) H):LJ P R ops (⟨some d,.move x,ty,pos,af,none⟩::rest) K N l H:=lp hd (m0 hx) h
theorem la (hd:Nat.blt d N.n=true) (hx:ev l x=some v) (h:LJ P R ops rest K N ((d,v)::l) H):LJ P R ops (⟨some d,.assign x,ty,pos,af,none⟩::rest) K N l H:=lp hd (G9 hx) h
variable {id:Nat} {opl:List Oper} {y:Code}
theorem cq (h:LJ P R opl.toArray opl (.seq y::K) N l H):CJ P R (.seq (.region id opl.toArray false) y) K N l H:=d9 (l0 h)
theorem lq {z:Code} (h:LJ P R opl.toArray opl (.seq z::K) N l H):LJ P R ops [] (.seq (.seq (.region id opl.toArray false) z)::K) N l H:=d3 (cq h)
theorem nq {z:Code} (h:LJ P R opl.toArray opl (.seq z::K) N l H):NJ P R (.seq (.seq (.region id opl.toArray false) z)::K) N l H:=l7 (cq h)
variable {w0:World} {M:List Nat} {A:Nat→Prop} {es xs r:List Ent}
theorem pk (ks:List Nat) (hp:J.picks ks es=some (xs,r)):∀ w,Sat w0 M A es w→Sat w0 M A xs w:=fun _ h=>h.picks ks hp
end
end Go.G
