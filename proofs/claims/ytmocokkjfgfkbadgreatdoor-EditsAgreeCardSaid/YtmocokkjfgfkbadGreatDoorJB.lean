/- JB: the rules (J17..J42), in one text. No program in sight. -/
import Derived.Test.YtmocokkjfgfkbadGreatDoorJA
import Derived.RangeFuncRecord
import Derived.RangeFuncIn
import Derived.Lib.AppendStr
import Derived.Lib.UnsafeStr
import Derived.Lib.Builder
import Derived.MapKept
import Derived.Lib.Bytealg
import Derived.Lib.SlicesCompact
import Derived.Lib.AppendZeros
import Derived.Laws.MakeOwn
namespace Go.J
open Go Go.RowKit
section
variable {P:Program} {N:NN} {l:Fr} {H:World→Prop} {dd:Option Nat} {ty:Nat} {pos:String} {af:Array Edge} {g:Option (Nat × Bool)} {x:Operand} {T T':TypeId} {m:Int} {k k':IntKind} {dS:TypeDesc}
theorem p_cvi (hS:P.underlying T=some dS) (hT:P.underlying T'=some (.int k)) (hx:ev l x=some (.int k' m)):PureOp P N ⟨dd,.convert T T' x,ty,pos,af,g⟩ l H (.int k (k.wrap m)):=fun a w hf _=>by
 simp [execOp,hf.ev hx,convert,run_underlying hS,run_underlying hT,Conv.intToInt]
end
end Go.J
namespace Go.J
open Go Go.RowKit
def noDefer (o:Oper):Bool:=match o.op with | .defer _=>false | _=>true
def rcode:Code→Bool
 | .seq x y=>rcode x&&rcode y
 | .region _ ops _=>ops.toList.all noDefer
 | .cond _ x y=>rcode x&&rcode y
 | .block _ c=>rcode c
 | .loop c=>rcode c
 | .exit _ | .ret | .skip=>true
 | _=>false
theorem noDefer_ne {o:Oper} (h:noDefer o=true):∀ c,o.op ≠ .defer c:=by
 intro c e
 unfold noDefer at h
 rw [e] at h
 cases h
theorem callsIn_round {P:Program} {f:FuncId} {args:Array Value} {w:World} {R:Ending→World→Prop} (l n:Nat) (h:Calls P f args w R):CallsIn (Fence.wide.inRound l) n P f args w R :=
 (callsIn_wide (n:=n)).2 h
theorem wpOp_round {P:Program} {o:Oper} {a:Act} {w:World} {K K':Act→World→Prop} {Q:Post} (l n:Nat) (hd:noDefer o=true) (hK:∀ a w,K a w→K' a w) (hQ:¬ LetsOut Q) (h:o.wp P a w K Q) :
  o.wpIn (Fence.wide.inRound l) n P a w K' Q:=by
 refine ⟨fun _ _=>trivial,?_⟩
 rw [show (Fence.wide.inRound l).round=some l from rfl,Oper.semAt_eq _ _ _ (noDefer_ne hd)]
 unfold Oper.wp at h
 generalize (execOp a.eval o).run P w=r at *
 cases r with
 | ok x w' =>
  cases x with
  | value v=>exact hK _ _ h
  | skip=>exact hK _ _ h
  | defer d=>exact hK _ _ h
  | enter f args =>
   refine ⟨fun h=>by simp [Fence.wide,Fence.inRound] at h,callsIn_round l _ (Calls.mono h fun e w'' he=>?_)⟩
   cases e with
   | returned v=>exact hK _ _ he
   | panicked c=>exact he
   | outgrown=>exact (hQ he).elim
  | row row args =>
   refine ⟨fun h=>by simp [Fence.wide,Fence.inRound] at h,fun c cs _=>?_⟩
   obtain ⟨v,w1,h1,h2⟩:=h c cs
   exact ⟨v,w1,hK _ _ h1,stepsIn_wide.2 h2⟩
  | round l f tmps x y=>exact h.elim
  | _=>exact h.elim
 | halt x w'=>cases x <;> first | exact h | exact h.elim
theorem wpOps_round {P:Program} {ops:Array Oper} {Q:Post} (l n:Nat) (hd:ops.toList.all noDefer=true) (hQ:¬ LetsOut Q):∀ (is:List Nat) (a:Act) (w:World),wpOps P ops Q is a w→wpOpsIn (Fence.wide.inRound l) n P ops Q is a w
 | [],_,_,h=>h
 | i::is,a,w,h=>by
  unfold wpOps at h
  unfold wpOpsIn
  cases ho:ops[i]? with
  | none =>
   rw [ho] at h
   exact wpOps_round l n hd hQ is a w h
  | some o =>
   rw [ho] at h
   simp only at h ⊢
   have hm:noDefer o=true:=List.all_eq_true.1 hd o (by simpa using Array.mem_of_getElem? ho)
   by_cases hw:Region.wanted o (yielded ops a.tmps)=true
   ·rw [if_pos hw] at h ⊢
    rcases h with h | ⟨_,h⟩
    ·exact wpOp_round l n hm (fun a w=>wpOps_round l n hd hQ is a w) hQ h
    ·exact (hQ h).elim
   ·rw [if_neg hw] at h ⊢
    exact ⟨fun _ _=>trivial,wpOps_round l n hd hQ is _ w h⟩
theorem wpS_round {P:Program} {c:Code} (l n:Nat) (hc:rcode c=true) {Q:Post} (hQ:∀ a w,¬ Q .outgrown a w) {a:Act} {w:World} (h:Code.wpS P c Q a w):c.wpIn (Fence.wide.inRound l) n P Q a w:=by
 have lo:∀ {Q:Post},(∀ a w,¬ Q .outgrown a w)→¬ LetsOut Q:=fun hQ ⟨a,w,h⟩=>hQ a w h
 induction c generalizing Q a w with
 | seq x y hx hy =>
  simp only [rcode,Bool.and_eq_true] at hc
  refine wpIn_seq (wpIn_mono (hx hc.1 (Q:=Exit.then (Code.wpS P y Q) Q) hQ h) ?_)
  intro e a w h
  cases e <;> first | exact hy hc.2 hQ h | exact h
 | region id ops d =>
  cases d with
  | false=>exact wpIn_region (wpOps_round l n hc (lo hQ) _ _ _ (h.1 rfl))
  | true=>exact wpIn_region_draw fun t=>wpOps_round l n hc (lo hQ) _ _ _ (h.2 rfl t)
 | cond c x y hx hy =>
  simp only [rcode,Bool.and_eq_true] at hc
  obtain ⟨t,h0,h1,h2⟩:=h
  exact wpIn_cond_split h0 (fun e=>hx hc.1 hQ (h1 e)) (fun e=>hy hc.2 hQ (h2 e))
 | block id c ih=>exact wpIn_block (ih hc (Q:=Exit.inBlock id Q) hQ h)
 | loop c ih =>
  obtain ⟨I,n0,h0,h1⟩:=h
  refine wpIn_loop (fun a w=>∃ k,I k a w) (fun a w=>leastOf (fun k=>I k a w)) ⟨n0,h0⟩ ?_
  intro a w hI
  refine wpIn_mono (ih hc (Q:=Exit.then _ Q) (by exact hQ) (h1 _ a w (leastOf_spec hI).1)) ?_
  intro e a' w' hq
  cases e with
  | normal =>
   obtain ⟨k',hlt,hI'⟩:=hq
   exact show (∃ k,I k a' w')∧leastOf (fun k=>I k a' w')<leastOf (fun k=>I k a w) from ⟨⟨k',hI'⟩,Nat.lt_of_le_of_lt ((leastOf_spec ⟨k',hI'⟩).2 k' hI') hlt⟩
  | exit id=>exact hq
  | goto l=>exact hq
  | ret=>exact hq
  | panic c=>exact hq
  | outgrown=>exact hq
 | exit id=>exact wpIn_exit h
 | ret=>exact wpIn_ret h
 | skip=>exact wpIn_skip h
 | goto l=>cases hc
 | label l=>cases hc
 | scope c _=>cases hc
 | rangeFunc f p x y _ _=>cases hc
 | refuse s=>cases hc
def oneO (b:Nat) (o:Obj):OW:=⟨[b],fun w=>w.heap[b]? = some o,fun h hk=>(h b (by simp)).trans hk,fun h k hk=>by simp at hk; subst hk; exact (Array.getElem?_eq_some_iff.1 h).1⟩
section
variable {w0 w:World} {M:List Nat} {A:Nat→Prop} {es:List Ent} {b k:Nat} {o o':Obj}
theorem Sat.allocO (h:Sat w0 M A es w) (o:Obj):Sat w0 M A (.obj (oneO w.heap.size o)::es) (w.alloc o):=by
 have:=h.step (w':=w.alloc o) [] (by simp) ⟨rfl,rfl,rfl,by simp,fun b hb _=>Below.heap_alloc w _ b hb⟩ es [.obj (oneO w.heap.size o)] (List.Sublist.refl _) (by simp)
  (by simp [keys,Ent.kl,oneO]) (by intro k hk; simp [keys,Ent.kl,oneO] at hk; subst hk; exact ⟨by simp,.inl (Nat.le_refl _)⟩)
  (by intro e he; simp at he; subst he; exact Go.heap_alloc_new w _) (by intro e he; simp at he; subst he; intros; trivial)
 exact this.perm List.perm_append_comm
theorem Sat.objAt (h:Sat w0 M A es w) {q:OW} (hk:nth es k=some (.obj q)):q.ok w:=h.okx _ (nth_mem hk)
theorem Sat.putO (h:Sat w0 M A es w) (hk:nth es k=some (.obj (oneO b o))):Sat w0 M A (setN es k (.obj (oneO b o'))) (w.putObj b o'):=by
 have hb:w.heap[b]? = some o:=h.objAt hk
 have hlt:=(Array.getElem?_eq_some_iff.1 hb).1
 refine h.swap' hk ⟨rfl,rfl,rfl,by simp,fun x _ hx=>World.putObj_heap_other (fun e=>hx (by simp [Ent.kl,oneO,e]))⟩ (World.putObj_heap_same hlt) (by simp [Ent.kl,oneO]) ?_ (fun F hF=>by cases hF)
 intro x hx
 simp [Ent.kl,oneO] at hx
 subst hx
 exact ⟨by simpa using hlt,.inr (by simp [Ent.kl,oneO])⟩
end
def markOf (D:Nat):Deferred:={ target:=.collected D,args:=#[] }
def defO (D:Nat):OW:=oneO D (.deferred (some []))
def markPost (P:Program) (fn:Func) (R:Ending→World→Prop):Post:=fun e a w=>match e with
 | .normal | .ret=>LeavesInM Fence.wide 0 P fn a.tmps R a.defers .returning w
 | _=>False
instance {P:Program} {fn:Func} {R:Ending→World→Prop}:PanicOk (markPost P fn R):=⟨fun _ _ _ _ _ h=>h⟩
section
variable {P:Program} {K:List Lay} {l:Fr} {w0:World} {M:List Nat} {A:Nat→Prop} {es r:List Ent} {rs:List ResultVar} {vs:List Value} {fn:Func} {X:Type} {V:X→Value} {post:X→List Ent}
theorem leaves1 {n D kD:Nat} {a:Act} {w:World} (x:X) (ks:List Nat) (hres:fn.results=rs.toArray) (hD:nth es kD=some (.obj (defO D))) (h:ResOK P l (setN es kD (.obj (oneO D (.deferred none)))) rs vs) (hv:packV vs=V x)
  (hp:picks ks (setN es kD (.obj (oneO D (.deferred none))))=some (post x,r)) (hf:Frm ⟨n,[markOf D]⟩ l a) (hw:Sat w0 M A es w) :
  LeavesInM Fence.wide 0 P fn a.tmps (fun e w'=>∃ x,e = .returned (V x)∧Sat w0 M A (post x) w') a.defers .returning w:=by
 rw [show a.defers=[markOf D] from hf.defers]
 have hb:w.heap[D]? = some (.deferred (some [])):=hw.objAt hD
 have hw2:=hw.putO (o':=.deferred none) hD
 exact ⟨by simp,.inl ⟨D,_,rfl,run_takeDeferred hb,_,results_ok hres h hf hw2,x,by rw [hv],hw2.picks ks hp⟩⟩
theorem cj_rtM {n D:Nat} (kD:Nat) (x:X) (ks:List Nat) (hres:fn.results=rs.toArray) (hD:nth es kD=some (.obj (defO D))) (h:ResOK P l (setN es kD (.obj (oneO D (.deferred none)))) rs vs) (hv:packV vs=V x)
  (hp:picks ks (setN es kD (.obj (oneO D (.deferred none))))=some (post x,r)) :
  CJ P (markPost P fn fun e w'=>∃ x,e = .returned (V x)∧Sat w0 M A (post x) w') .ret K ⟨n,[markOf D]⟩ l (Sat w0 M A es):=cj_ret fun _ _ hf hw=>leaves1 x ks hres hD h hv hp hf hw
end
theorem frm_enter {n:Nat} {fn:Func} {args:List Value} {vs:Fr} (hn:fn.ntmps=n) (hlen:Nat.ble args.length n=true) (hvs:SubA vs args) :
  Frm ⟨n,[]⟩ vs { tmps:=args.toArray++Array.replicate (fn.ntmps - args.toArray.size) undef,defers:=[] }:=by
 have hle:args.length≤n:=by simpa [Nat.ble_eq] using hlen
 refine ⟨rfl,by simp [hn]; omega,fun i v hv=>?_⟩
 have h1:=hvs.look i v hv
 have h2:i<args.length:=(List.getElem?_eq_some_iff.1 h1).1
 rw [Array.getD_eq_getD_getElem?,Array.getElem?_append_left (by simpa using h2)]
 simp [h1]
theorem ctr_mkM {P:Program} {n:Nat} {f:FuncId} {fn:Func} {c:Code} {args:List Value} {xs:List Ent} {fs:List (World→Prop)} {X:Type} {V:X→Value} {post:X→List Ent} {vs:Fr} (hf:P.funcs[f]? = some fn) (hb:fn.body=some c) (hn:fn.ntmps=n)
  (hlen:Nat.ble args.length n=true) (hvs:SubA vs args)
  (h:∀ w0 A,CJ P (markPost P fn fun e w'=>∃ x,e = .returned (V x)∧Sat w0 (keys xs) A (post x) w') c [] ⟨n,[]⟩ vs (Sat w0 (keys xs) A (xs++fs.map Ent.ro))) :
  Ctr P f args.toArray xs fs V post:=by
 intro w A hs
 refine callsIn_wide.1 (callsIn_of_wp_marks (F:=Fence.wide) (n:=0) hf hb trivial (wpIn_mono (wpIn_wide.2 (wpS_wp (h w A _ w ?_ hs))) ?_))
 ·exact frm_enter hn hlen hvs
 ·intro e a w h
  cases e <;> first | exact h | exact h.elim
end Go.J
namespace Go.J
open Go Go.RowKit
def rangeB {α σ ρ : Type} (step:Nat → α → σ → Option (Flow σ ρ)) (xs:List α) (s : σ):Option (Flow σ ρ):=rangeM (fun j x s=>step (xs.length - 1 - j) x s) 0 xs.reverse s
def backCode (TS TE TF TI TB:Nat) (p q:String):Code :=
 .seq (.region 0 #[⟨some 4,.load TS (.tmp 1),TS,p,#[],none⟩,⟨some 5,.call { callee:=.builtin .len,args:=#[.tmp 4],argTypes:=#[TS] },TI,p,#[⟨0,.data⟩],none⟩,
   ⟨some 6,.binOp .sub TI (.tmp 5) (.const (.int .i64 1)) TI,TI,p,#[⟨1,.data⟩],none⟩,⟨some 3,.assign (.tmp 6),TI,p,#[⟨2,.data⟩,⟨0,.phase⟩,⟨1,.phase⟩,⟨2,.phase⟩],none⟩] false)
  (.block 0 (.loop (.seq (.seq (.region 1 #[⟨some 7,.move (.tmp 3),TI,p,#[],none⟩,⟨some 8,.binOp .geq TI (.tmp 7) (.const (.int .i64 0)) TI,TB,p,#[⟨0,.data⟩],none⟩] false) (.cond (.tmp 8) .skip (.exit 0)))
   (.seq (.block 1 (.seq (.region 3 #[⟨some 11,.move (.tmp 0),TF,q,#[],none⟩,⟨some 12,.move (.tmp 3),TI,q,#[],none⟩,⟨some 13,.load TS (.tmp 1),TS,q,#[],none⟩,⟨some 14,.move (.tmp 3),TI,q,#[],none⟩,
     ⟨some 15,.indexAddr TS (.tmp 13) (.tmp 14),0,q,#[⟨2,.data⟩,⟨3,.data⟩],none⟩,⟨some 16,.load TE (.tmp 15),TE,q,#[⟨4,.data⟩],none⟩,
     ⟨some 17,.call { callee:=.value (.tmp 11),args:=#[.tmp 12,.tmp 16],argTypes:=#[TI,TE] },TB,q,#[⟨0,.data⟩,⟨1,.data⟩,⟨5,.data⟩],none⟩,⟨some 18,.unOp .not TB (.tmp 17),TB,q,#[⟨6,.data⟩],none⟩] false) (.cond (.tmp 18) .ret .skip)))
    (.region 2 #[⟨some 9,.move (.tmp 3),TI,p,#[],none⟩,⟨some 10,.binOp .sub TI (.tmp 9) (.const (.int .i64 1)) TI,TI,p,#[⟨0,.data⟩],none⟩,
     ⟨some 3,.assign (.tmp 10),TI,p,#[⟨1,.data⟩,⟨0,.phase⟩,⟨1,.phase⟩],none⟩] false)))))
theorem wpIn_ghost {F:Fence} {n:Nat} {P:Program} {Q:Post} {a:Act} {w:World} {c:Code} (I:Nat→Act→World→Prop) (n₀ : Nat) (h₀ : I n₀ a w)
  (round:∀ k a w,I k a w→c.wpIn F n P (Exit.then (fun a' w'=>∃ k',k'<k∧I k' a' w') Q) a w):(Code.loop c).wpIn F n P Q a w:=by
 refine wpIn_loop (fun a w=>∃ k,I k a w) (fun a w=>leastOf (fun k=>I k a w)) ⟨n₀,h₀⟩ fun a w hI=>wpIn_mono (round _ a w (leastOf_spec hI).1) ?_
 intro e a' w' hq
 cases e <;> first | exact hq | (obtain ⟨k',hlt,hI'⟩:=hq; exact show (∃ k,I k a' w')∧leastOf (fun k=>I k a' w')<leastOf (fun k=>I k a w) from ⟨⟨k',hI'⟩,Nat.lt_of_le_of_lt ((leastOf_spec ⟨k',hI'⟩).2 k' hI') hlt⟩)
section
variable {P:Program} {N:NN} {l:Fr} {H:World→Prop} {Q:Post} {a:Act} {w:World} {ops:Array Oper}
theorem wpIn_cj {c:Code} (h:CJ P Q c [] N l H) (hf:Frm N l a) (hw:H w):c.wpIn Fence.wide 0 P Q a w:=wpIn_wide.2 (wpS_wp (h a w hf hw))
theorem in_pure {i d:Nat} {rest:List Nat} {o:Oper} {v:Value} (ho:ops[i]? = some o) (hg:o.guard=none) (hd:o.dst=some d) (hdb:Nat.blt d N.n=true) (hp:PureOp P N o l H v) (hf:Frm N l a) (hw:H w)
  (h:∀ a',Frm N ((d,v)::l) a'→wpOpsIn Fence.wide 0 P ops Q rest a' w):wpOpsIn Fence.wide 0 P ops Q (i::rest) a w:=by
 unfold wpOpsIn
 rw [ho]
 simp only
 rw [if_pos (by simp [Region.wanted,hg])]
 refine ⟨fun _ _=>trivial,?_⟩
 rw [show Fence.wide.round=none from rfl,Oper.semAt_none,hp a w hf hw,Oper.uponIn_value,hd]
 exact h _ (hf.put hdb v)
end
section
variable {P:Program} {w0:World} {M:List Nat} {A:Nat→Prop} {α σ γ ρ : Type} {R:Rep α} {xs:List α} {sv:SV} {fn:Func} {kb bx TS TE TF TI TB by_ by2:Nat} {p q:String} {zs zs2:List Value}
theorem back_run (hfn:P.funcs[kb]? = some fn) (hbody:fn.body=some (backCode TS TE TF TI TB p q)) (hnt:fn.ntmps=19) (hres:fn.results = #[]) (hT:P.underlying TS=some (.slice R.T)) (hTE:TE=R.T)
  (hE:TyF P R.T true R.sz by_ zs) (hS:TyF P TS false 1 by2 zs2) {lo:Nat} {rc:Loop} (hrp:rc.params.size=2) {o1:OW}
  {step:Nat → α → σ → Option (Flow σ ρ)} {s0 : σ} {f:Flow σ ρ} (hs:rangeB step xs s0=some f) (es : σ → γ → List Ent) (g0 : γ)
  (hbx:∀ s c,FactAt (es s c) (BoxS bx TS [sv.v])) (hrd:∀ s c,FactAt (es s c) (RdS R sv.v xs))
  (round:∀ (i:Nat) (x : α) (s : σ) (c : γ) (g:Flow σ ρ),xs[i]? = some x→step i x s=some g→∀ W,Sat w0 M A (.obj o1 :: .obj (oneO lo (.loop rc))::es s c) W →
   RoundIn Fence.wide 0 P lo rc.fn ((rc.params.zip #[.int .i64 i,.agg (R.enc x).toArray]).foldl (fun tmps (t,a)=>tmps.setIfInBounds t a) rc.tmps) rc.assign rc.body W fun e W' =>
    e = .returned (.bool true)∧∃ s' c',g = .nxt s'∧Sat w0 M A (.obj o1 :: .obj (oneO lo (.loop rc))::es s' c') W')
  {W:World} (hW:Sat w0 M A (.obj o1 :: .obj (oneO lo (.loop rc))::es s0 g0) W) :
  CallsIn Fence.wide 0 P kb #[.func (.yield lo) #[] #[],.pointer (some ⟨bx,0,none⟩)] W fun e W'=>(∃ v,e = .returned v)∧∃ s c,f = .brk s∧Sat w0 M A (.obj o1 :: .obj (oneO lo (.loop rc))::es s c) W':=by
 subst hTE
 have two:∀ {F:World→Prop} {s : σ} {c : γ},FactAt (es s c) F→FactAt (.obj o1 :: .obj (oneO lo (.loop rc))::es s c) F:=by
  intro F s c h
  induction h with
  | ro j h=>exact .ro (j+2) h
  | row j h=>exact .row (j+2) h
  | box j h=>exact .box (j+2) h
  | obj j h=>exact .obj (j+2) h
  | der _ h ih=>exact .der ih h
 have hmax:xs.length≤maxLen:=((hrd s0 g0).get (hW.sublist ((List.sublist_cons_self _ _).trans (List.sublist_cons_self _ _)))).1
 refine callsIn_of_wp hfn hbody trivial ?_ rfl
 have hf0:=frm_enter (vs:=[(0,.func (.yield lo) #[] #[]),(1,.pointer (some ⟨bx,0,none⟩))]) (args:=[.func (.yield lo) #[] #[],.pointer (some ⟨bx,0,none⟩)]) hnt rfl ⟨rfl,rfl,trivial⟩
 have ldS:∀ {l:Fr} {d:Option Nat} {ty:Nat} {pos:String} {af:Array Edge} {s : σ} {c : γ},ev l (.tmp 1)=some (.pointer (some ⟨bx,0,none⟩)) →
   PureOp P ⟨19,[]⟩ ⟨d,.load TS (.tmp 1),ty,pos,af,none⟩ l (Sat w0 M A (.obj o1 :: .obj (oneO lo (.loop rc))::es s c)) sv.v:=by
  intro l d ty pos af s c hx a w hf hw
  have hb:w.heap[bx]? = some (.cells [sv.v].toArray TS (0,0)):=(two (hbx s c)).get hw
  have h:w.cell? ⟨bx,0,none⟩=some sv.v:=by rw [cell_of_row w bx 0 _ _ _ hb]; rfl
  simp [execOp,hf.ev hx,Instr.loadAt,Instr.sureAddr,run_loadVar_s hS h]
 refine wpIn_seq (wpIn_cj (cj_reg (lp rfl (ldS rfl) (lp rfl (p_len (R:=R) hT rfl (two (hrd s0 g0))) (lp rfl (p_sub rfl rfl) (lp rfl (p_as rfl) (lj_nil (nj_end fun a w hf hw=>?_))))))) hf0 hW)
 have hw64:∀ k:Nat,k≤xs.length→w64 ((k:Int) - 1)=(k:Int) - 1:=fun k hk=>w64_id (by unfold maxLen at hmax; omega)
 refine wpIn_block (wpIn_ghost (fun k a w=>∃ s c,k≤xs.length∧rangeM (fun j x s=>step (xs.length - 1 - j) x s) (xs.length - k) (xs.reverse.drop (xs.length - k)) s=some f ∧
  Frm ⟨19,[]⟩ [(0,.func (.yield lo) #[] #[]),(1,.pointer (some ⟨bx,0,none⟩)),(3,.int .i64 ((k:Int) - 1))] a∧Sat w0 M A (.obj o1 :: .obj (oneO lo (.loop rc))::es s c) w) xs.length
  ⟨s0,g0,Nat.le_refl _,by rw [Nat.sub_self]; exact hs,hf.sub ⟨rfl,rfl,by simp only [look]; rw [hw64 _ (Nat.le_refl _)]; first | done | rfl,trivial⟩,hw⟩ ?_)
 clear hf hw hW hf0 hs
 rintro k a w ⟨s,c,hk,hrun,hf,hw⟩
 refine wpIn_seq (wpIn_seq (wpIn_cj (cj_reg (lp rfl (p_mv rfl) (lp rfl (p_geq rfl rfl) (lj_nil (nj_end fun a w hf hw=>?_))))) hf hw))
 refine wpIn_cond_split (t:=decide ((k:Int) - 1≥0)) (hf.ev rfl) (fun ht=>?_) (fun ht=>?_)
 ·
  obtain ⟨k',rfl⟩:∃ k',k=k'+1:=⟨k - 1,by have:=of_decide_eq_true ht; omega⟩
  have e1:((k'+1:Nat):Int) - 1=(k':Int):=by omega
  rw [e1] at hf
  have hlt:xs.length - (k'+1)<xs.reverse.length:=by simp; omega
  have hd:xs.reverse.drop (xs.length - (k'+1))=xs[k']::xs.reverse.drop (xs.length - k'):=by
   rw [List.drop_eq_getElem_cons hlt]
   congr 1
   ·rw [List.getElem_reverse]; congr 1; omega
   ·congr 1; omega
  rw [hd] at hrun
  have hkk:xs.length - 1 - (xs.length - (k'+1))=k':=by omega
  obtain ⟨g,hg,h2⟩:=bindS hrun
  have hg:step (xs.length - 1 - (xs.length - (k'+1))) xs[k'] s=some g:=hg
  rw [hkk] at hg
  have hx:xs[k']? = some xs[k']:=List.getElem?_eq_getElem (by omega)
  refine wpIn_skip (wpIn_seq (wpIn_block (wpIn_seq (wpIn_region ?_))))
  show wpOpsIn Fence.wide 0 P _ _ [0,1,2,3,4,5,6,7] _ _
  refine in_pure rfl rfl rfl rfl (p_mv (v:=.func (.yield lo) #[] #[]) rfl) hf hw fun a hf=>in_pure rfl rfl rfl rfl (p_mv (v:=.int .i64 (k':Int)) rfl) hf hw fun a hf=>in_pure rfl rfl rfl rfl (ldS rfl) hf hw fun a hf =>
   in_pure rfl rfl rfl rfl (p_mv (v:=.int .i64 (k':Int)) rfl) hf hw fun a hf=>in_pure rfl rfl rfl rfl (p_idx (R:=R) hT hE rfl rfl (two (hrd s c)) (getI_nat.trans hx)) hf hw fun a hf =>
   in_pure rfl rfl rfl rfl (p_lea (R:=R) (i:=k') hE rfl (two (hrd s c)) hx) hf hw fun a hf=>?_
  have hl:w.heap[lo]? = some (.loop rc):=hw.objAt (k:=1) rfl
  unfold wpOpsIn
  simp only [List.getElem?_toArray,List.getElem?_cons_succ,List.getElem?_cons_zero]
  rw [if_pos (by simp [Region.wanted])]
  refine ⟨fun _ _=>trivial,?_⟩
  rw [show Fence.wide.round=none from rfl,Oper.semAt_none]
  have hy:=run_yield (P:=P) (args:=#[.int .i64 (k':Int),.agg (R.enc xs[k']).toArray]) hl (by simp [hrp])
  have hcall:(execOp a.eval ⟨some 17,.call { callee:=.value (.tmp 11),args:=#[.tmp 12,.tmp 16],argTypes:=#[TI,R.T] },TB,q,#[⟨0,.data⟩,⟨1,.data⟩,⟨5,.data⟩],none⟩).run P w =
    .ok (.round lo rc.fn ((rc.params.zip #[.int .i64 (k':Int),.agg (R.enc xs[k']).toArray]).foldl (fun tmps (t,a)=>tmps.setIfInBounds t a) rc.tmps) rc.assign rc.body) w:=by
   have h11:a.eval (.tmp 11) = .func (.yield lo) #[] #[]:=hf.ev rfl
   have h12:a.eval (.tmp 12) = .int .i64 (k':Int):=hf.ev rfl
   have h16:a.eval (.tmp 16) = .agg (R.enc xs[k']).toArray:=hf.ev rfl
   simp [execOp,resolve,Deferred.ofValue,h11,h12,h16,invoke,hy]
  rw [hcall]
  refine ⟨fun h=>by simp [Fence.wide] at h,(round k' xs[k'] s c g hx hg w hw).mono ?_⟩
  rintro e w' ⟨rfl,s',c',rfl,hw'⟩
  have hf':=hf.put (d:=17) rfl (.bool true)
  refine in_pure (v:=.bool false) rfl rfl rfl rfl (p_not (b:=true) rfl) hf' hw' fun a hf=>?_
  refine wpIn_cond_false (hf.ev rfl) (wpIn_skip ?_)
  refine wpIn_cj (cj_reg (lp rfl (p_mv (v:=.int .i64 (k':Int)) rfl) (lp rfl (p_sub (m:=(k':Int)) (n:=1) rfl rfl) (lp rfl (p_as rfl) (lj_nil (nj_end fun a w hf hw=>?_)))))) hf hw'
  refine ⟨k',Nat.lt_succ_self _,s',c',by omega,?_,hf.sub ⟨rfl,rfl,by simp only [look]; rw [hw64 _ (by omega)]; first | done | rfl,trivial⟩,hw⟩
  have:xs.length - (k'+1)+1=xs.length - k':=by omega
  rw [← this]
  rw [← this] at h2
  exact h2
 ·
  obtain rfl:k=0:=by have:=of_decide_eq_false ht; omega
  have hd:xs.reverse.drop (xs.length - 0)=[]:=List.drop_eq_nil_of_le (by simp)
  rw [hd] at hrun
  simp only [rangeM,Option.some.injEq] at hrun
  refine wpIn_exit ?_
  show _∧_
  refine ⟨hf.defers,.tuple #[],?_,⟨_,rfl⟩,s,c,hrun.symm,hw⟩
  simp [results,hres]
theorem cj_backward {Rp:Post} {K:List Lay} {l:Fr} {H:World→Prop} {n tf p1 p2 b0 b1:Nat} {asg bodyc:Code} (hfn:P.funcs[kb]? = some fn) (hbody:fn.body=some (backCode TS R.T TF TI TB p q)) (hnt:fn.ntmps=19) (hres:fn.results = #[]) (hT:P.underlying TS=some (.slice R.T))
  (hE:TyF P R.T true R.sz by_ zs) (hS:TyF P TS false 1 by2 zs2) (hcf:∀ args w,(callFunc kb args).run P w = .ok (.enter kb args) w)
  (hfv:ev l (.tmp tf)=some (.func (.func kb) #[] [.pointer (some ⟨bx,0,none⟩)].toArray)) (h1:Nat.blt p1 n=true) (h2:Nat.blt p2 n=true) (hra:rcode asg=true) (hrb:rcode bodyc=true)
  {step:Nat → α → σ → Option (Flow σ ρ)} {s0 : σ} {f:Flow σ ρ} (hs:rangeB step xs s0=some f) (es : σ → γ → List Ent) (g0 : γ) (hH:∀ w,H w→Sat w0 M A (es s0 g0) w)
  (hbx:∀ s c,FactAt (es s c) (BoxS bx TS [sv.v])) (hrd:∀ s c,FactAt (es s c) (RdS R sv.v xs))
  (after:∀ s c D,f = .brk s→NJ P Rp K ⟨n,[markOf D]⟩ l (Sat w0 M A (.obj (defO D)::es s c)))
  (body:∀ (i:Nat) (x : α) (s : σ) (c : γ) (g:Flow σ ρ),xs[i]? = some x→step i x s=some g→∀ (o1 o2 o3:OW) (I I0:Act→World→Prop),
   (∀ (fr':Fr) (H':World→Prop) (s' : σ) (c' : γ),g = .nxt s'→(∀ w,H' w→Sat w0 M A (.obj o1 :: .obj o3::es s' c') w)→NJ P RF [.inv I] ⟨n,[]⟩ fr' H') →
   (∀ (fr':Fr) (H':World→Prop) (es':List Ent),(∀ w,H' w→Sat w0 M A (.obj o1 :: .obj o2::es') w)→CJ P RF (.block b1 bodyc) [.inv I] ⟨n,[]⟩ fr' (Sat w0 M A (.obj o1 :: .obj o3::es'))→NJ P RF [.inv I0] ⟨n,[]⟩ fr' H') →
   CJ P RF asg [.inv I0] ⟨n,[]⟩ ((p2,.agg (R.enc x).toArray)::(p1,.int .i64 i)::l) (Sat w0 M A (.obj o1 :: .obj o2::es s c))) :
  CJ P Rp (.block b0 (.rangeFunc (.tmp tf) #[p1,p2] asg (.block b1 bodyc))) K ⟨n,[]⟩ l H:=by
 intro a w hf hw
 refine wpS_block ?_
 show (Code.rangeFunc (.tmp tf) #[p1,p2] asg (.block b1 bodyc)).wp P (Exit.inBlock b0 (QK P Rp K)) a w
 rw [← wpIn_wide (n:=0)]
 refine wpIn_rangeFunc fun fnn _=>?_
 let rc:Loop:={ state:=.ready,pending:=none,fn:=fnn,tmps:=a.tmps,params:=#[p1,p2],assign:=asg,body:=.block b1 bodyc,defers:=w.heap.size }
 have hw1:Sat w0 M A (.obj (oneO (w.heap.size+1) (.loop rc)) :: .obj (defO w.heap.size)::es s0 g0) ((w.alloc (.deferred (some []))).alloc (.loop rc)):=by
  have e1:=(hH w hw).allocO (.deferred (some []))
  have e2:=e1.allocO (.loop rc)
  rw [World.size_alloc] at e2
  exact e2
 have hw2:=hw1.picks [1,0] (xs:=.obj (defO w.heap.size) :: .obj (oneO (w.heap.size+1) (.loop rc))::[]) rfl
 have hfe:a.eval (.tmp tf) = .func (.func kb) #[] #[.pointer (some ⟨bx,0,none⟩)]:=hf.ev hfv
 have hperm:Sat w0 M A (.obj (defO w.heap.size) :: .obj (oneO (w.heap.size+1) (.loop rc))::es s0 g0) ((w.alloc (.deferred (some []))).alloc (.loop rc)):=hw1.perm (List.Perm.swap _ _ _)
 clear hw2 hw1
 let W1:=(w.alloc (.deferred (some []))).alloc (.loop rc)
 have hres1:(resolve a.eval (rangeCall (.tmp tf) (w.heap.size+1)) 0).run P W1 = .ok { target:=.fn (.func kb) #[.pointer (some ⟨bx,0,none⟩)],args:=#[.func (.yield (w.heap.size+1)) #[] #[]] } W1:=by
  show (Deferred.ofValue (a.eval (.tmp tf)) _).run P _=_
  rw [hfe]
  simp [Deferred.ofValue,Act.eval]
 have hinv:(invoke (.fn (.func kb) #[.pointer (some ⟨bx,0,none⟩)]) #[.func (.yield (w.heap.size+1)) #[] #[]]).run P W1 = .ok (.enter kb #[.func (.yield (w.heap.size+1)) #[] #[],.pointer (some ⟨bx,0,none⟩)]) W1:=by
  simp [invoke,hcf]
 refine ⟨w.heap.size+1,[markOf w.heap.size],W1,_,W1,kb,_,W1,run_enterLoop_outer _ _ _ _ _,hres1,fun _ _=>trivial,hinv,fun h=>by simp [Fence.wide] at h,?_⟩
 have hdf:a.defers=[]:=hf.defers
 refine (back_run (o1:=defO w.heap.size) (rc:=rc) hfn hbody hnt hres hT rfl hE hS rfl hs es g0 hbx hrd ?_ hperm).mono ?_
 ·
  intro i x s c g hx hg W hW
  refine roundIn_of_wpIn trivial ?_
  have hl:∀ {es'},∀ {W:World},Sat w0 M A (.obj (defO w.heap.size) :: .obj (oneO (w.heap.size+1) (.loop rc))::es') W→W.heap[w.heap.size+1]? = some (.loop rc):=fun h=>h.objAt (k:=1) rfl
  have hfr:Frm ⟨n,[]⟩ ((p2,.agg (R.enc x).toArray)::(p1,.int .i64 i)::l) { tmps:=(rc.params.zip #[.int .i64 i,.agg (R.enc x).toArray]).foldl (fun tmps (t,a)=>tmps.setIfInBounds t a) rc.tmps,defers:=[] }:=by
   have e1:=(hf.put (d:=p1) h1 (.int .i64 i)).put (d:=p2) h2 (.agg (R.enc x).toArray)
   have e2:((a.put (some p1) (.int .i64 i)).put (some p2) (.agg (R.enc x).toArray))={ tmps:=(rc.params.zip #[.int .i64 i,.agg (R.enc x).toArray]).foldl (fun tmps (t,a)=>tmps.setIfInBounds t a) rc.tmps,defers:=[] }:=by
    simp [Act.put,hdf,rc]
   rw [e2] at e1
   exact e1
  let rb:Loop:={ rc with state:=.busy }
  let I:Act→World→Prop:=fun _ W'=>∃ s' c',g = .nxt s'∧Sat w0 M A (.obj (defO w.heap.size) :: .obj (oneO (w.heap.size+1) (.loop rb))::es s' c') W'
  have hb:=body i x s c g hx hg (defO w.heap.size) (oneO (w.heap.size+1) (.loop rc)) (oneO (w.heap.size+1) (.loop rb)) I
   (fun a₁ w₁=>∃ w₂,(Instr.beginRound (w.heap.size+1)).run P w₁ = .ok () w₂∧Code.wpIn (Fence.wide.inRound (w.heap.size+1)) 0 P (.block b1 bodyc)
    (roundPost P (w.heap.size+1) fun e W'=>e = .returned (.bool true)∧∃ s' c',g = .nxt s'∧Sat w0 M A (.obj (defO w.heap.size) :: .obj (oneO (w.heap.size+1) (.loop rc))::es s' c') W') a₁ w₂)
   (fun fr' H' s' c' hg' hH'=>nj_inv fun a w _ hw=>⟨s',c',hg',hH' w hw⟩)
   (fun fr' H' es' hH' hc=>nj_inv fun a1 w1 hf1 hw1=>by
    have hs1:=hH' w1 hw1
    refine ⟨_,run_beginRound (hl hs1) rfl,?_⟩
    have hs2:=hs1.putO (k:=1) (o':=.loop rb) rfl
    refine wpIn_mono (wpS_round _ _ (by exact hrb) (fun _ _ h=>h) (hc a1 _ hf1 hs2)) ?_
    intro e a2 w2 h
    cases e with
    | normal =>
     obtain ⟨s',c',hg',hs3⟩:=h
     have hb3:w2.heap[w.heap.size+1]? = some (.loop rb):=hs3.objAt (k:=1) rfl
     exact ⟨_,_,run_endRound none hb3,rfl,s',c',hg',hs3.putO (k:=1) rfl⟩
    | exit id=>exact h.elim
    | goto l=>exact h.elim
    | ret=>exact h.elim
    | panic c=>exact h.elim
    | outgrown=>exact h.elim)
  refine wpIn_mono (wpS_round _ _ hra (fun _ _ h=>h) (hb _ _ hfr hW)) ?_
  intro e a1 w1 h
  cases e <;> first | exact h | exact h.elim
 ·rintro e W ⟨⟨v,rfl⟩,s,c,hfs,hW⟩
  have hl:W.heap[w.heap.size+1]? = some (.loop rc):=hW.objAt (k:=1) rfl
  refine ⟨none,_,run_endLoop hl (by simp [rc]),?_⟩
  have hW2:=hW.putO (k:=1) (o':=.loop { rc with state:=.exhausted }) rfl
  refine after s c w.heap.size hfs _ _ ?_ (hW2.sublist (List.Sublist.cons_cons _ (List.sublist_cons_self _ _)))
  refine ⟨by simp [hdf],hf.size,hf.vals⟩
end
end Go.J
namespace Go.J
open Go Go.RowKit
set_option linter.unusedSimpArgs false
section
variable {w0 w:World} {M:List Nat} {A:Nat→Prop} {es:List Ent} {Tb T8 b:Nat} {s:SV} {l:List UInt8}
theorem Sat.cast1 {fs:List Ent} {e:Ent} (h:Sat w0 M A (fs++es) w) (hk:keys fs=e.kl) (hok:e.okx w) (hro:∀ F,e ≠ .ro F):Sat w0 M A (e::es) w:=by
 have hkk:keys (e::es)=keys (fs++es):=by rw [keys_append,keys_cons,hk]
 refine ⟨h.chg,h.dis,by rw [hkk]; exact h.nodup,fun k hm=>h.fresh k (by rw [← hkk]; exact hm),fun f hf=>?_,fun f hf=>?_⟩
 ·rcases List.mem_cons.1 hf with h1 | h1
  ·subst h1; exact hok
  ·exact h.okx f (List.mem_append_right _ h1)
 ·rcases List.mem_cons.1 hf with h1 | h1
  ·subst h1
   cases f with
   | ro F=>exact (hro F rfl).elim
   | box b T cs=>trivial
   | row R v xs=>trivial
   | obj o=>trivial
  ·rw [hkk]; exact h.okr f (List.mem_append_right _ h1)
end
section
variable {P:Program} {Rp:Post} {K:List Lay} {N:NN} {l:Fr} {ops:Array Oper} {rest:List Oper} {d:Nat} {dd:Option Nat} {ty:Nat} {pos:String} {af:Array Edge} {g:Option (Nat × Bool)} {x y:Operand} {T T' T8 Tb b:TypeId} {c:Code}
variable {w0:World} {M:List Nat} {A:Nat→Prop} {es:List Ent} {s:SV} {bs:List UInt8} {t:ByteArray} {k:Nat} {zs:List Value}
end
end Go.J
namespace Go.J
open Go Go.RowKit
section
variable {P:Program} {Rp:Post} {K:List Lay} {N:NN} {l:Fr} {ops:Array Oper} {rest:List Oper} {d:Nat} {dd:Option Nat} {ty:Nat} {pos:String} {af:Array Edge} {g:Option (Nat × Bool)} {x y:Operand} {T T' Te Tb:TypeId}
variable {w0:World} {M:List Nat} {A:Nat→Prop} {es:List Ent} {H:World→Prop} {k b:Nat} {cs:List Value}
theorem p_eqpn {q:Option Addr} (hT:P.underlying T=some (.pointer Te)) (hx:ev l x=some (.pointer q)) (hy:ev l y=some (.pointer none)):PureOp P N ⟨dd,.binOp .eql T x y T',ty,pos,af,g⟩ l H (.bool q.isNone):=p_bin hx hy fun w=>by
 have hg:(eqGuard .eql T x y (.pointer q) (.pointer none)).run P w = .ok () w:=by cases q <;> simp [eqGuard]
 have h:∀ d,(Op.equalIn (d+1) T (.pointer q) (.pointer none)).run P w = .ok q.isNone w:=fun d=>by
  cases q <;> simp [Op.equalIn,run_underlying hT]
 simp only [binOp]
 simp [hg,Op.equal,Op.maxDepth,h 9999]
end
end Go.J
namespace Go.J
open Go Go.RowKit
set_option linter.unusedSimpArgs false
set_option linter.unusedSectionVars false
section
variable {K V V':Type} [DecidableEq K]
def lkM (l:List (K × V)) (k:K):Option V:=(l.find? fun p=>decide (p.1=k)).map (·.2)
def hasM (l:List (K × V)) (k:K):Bool:=l.any fun p=>decide (p.1=k)
def putM (l:List (K × V)) (k:K) (v:V):List (K × V):=if hasM l k then l.map (fun p=>if p.1=k then (k,v) else p) else l++[(k,v)]
def delM (l:List (K × V)) (k:K):List (K × V):=l.filter fun p=>!decide (p.1=k)
def mpV (f:V→V') (l:List (K × V)):List (K × V'):=l.map fun p=>(p.1,f p.2)
theorem lkM_map (f:V→V') (l:List (K × V)) (k:K):lkM (mpV f l) k=(lkM l k).map f:=by
 unfold lkM mpV
 induction l with
 | nil=>rfl
 | cons p l ih =>
  simp only [List.map_cons,List.find?_cons]
  cases decide (p.1=k)
  ·exact ih
  ·rfl
theorem hasM_map (f:V→V') (l:List (K × V)) (k:K):hasM (mpV f l) k=hasM l k:=by
 unfold hasM mpV
 rw [List.any_map]; rfl
theorem putM_map (f:V→V') (l:List (K × V)) (k:K) (v:V):putM (mpV f l) k (f v)=mpV f (putM l k v):=by
 unfold putM
 rw [hasM_map]
 split
 ·simp only [mpV,List.map_map]
  refine List.map_congr_left fun p _=>?_
  simp only [Function.comp]
  by_cases h:p.1=k <;> simp [h]
 ·simp [mpV]
theorem delM_map (f:V→V') (l:List (K × V)) (k:K):delM (mpV f l) k=mpV f (delM l k):=by
 unfold delM mpV
 rw [List.filter_map]; rfl
theorem hasM_iff (l:List (K × V)) (k:K):hasM l k=true↔k∈l.map Prod.fst:=by
 unfold hasM
 simp only [List.any_eq_true,decide_eq_true_eq,List.mem_map]
theorem lkM_some {l:List (K × V)} {k:K} {v:V} (hn:(l.map Prod.fst).Nodup) (i:Nat) (h:l[i]? = some (k,v)):lkM l k=some v:=by
 induction l generalizing i with
 | nil=>cases h
 | cons p l ih =>
  simp only [List.map_cons,List.nodup_cons] at hn
  cases i with
  | zero=>simp at h; subst h; simp [lkM]
  | succ i =>
   have h':l[i]? = some (k,v):=by simpa using h
   have hne:p.1≠k:=fun e=>hn.1 (by rw [e]; exact List.mem_map.2 ⟨(k,v),List.mem_of_getElem? h',rfl⟩)
   have:=ih hn.2 i h'
   unfold lkM at this ⊢
   rw [List.find?_cons,decide_eq_false hne]
   exact this
theorem lkM_none {l:List (K × V)} {k:K} (h:∀ p∈l,p.1≠k):lkM l k=none:=by
 unfold lkM
 rw [List.find?_eq_none.2 (fun p hp=>by simpa using h p hp)]; rfl
theorem hasM_none {l:List (K × V)} {k:K} (h:∀ p∈l,p.1≠k):hasM l k=false:=by
 unfold hasM
 rw [List.any_eq_false]
 exact fun p hp=>by simpa using h p hp
theorem putM_at {l:List (K × V)} {k:K} {v u:V} (hn:(l.map Prod.fst).Nodup) (i:Nat) (h:l[i]? = some (k,u)):putM l k v=l.set i (k,v):=by
 have hh:hasM l k=true:=(hasM_iff l k).2 (List.mem_map.2 ⟨(k,u),List.mem_of_getElem? h,rfl⟩)
 unfold putM
 rw [if_pos hh]
 refine List.ext_getElem? fun j=>?_
 rw [List.getElem?_map,List.getElem?_set]
 by_cases hij:i=j
 ·subst hij
  have hi:=(List.getElem?_eq_some_iff.1 h).1
  rw [h]; simp [hi]
 ·rw [if_neg hij]
  cases hj:l[j]? with
  | none=>rfl
  | some p =>
   have hne:p.1≠k:=fun e=>hij (by
    have hi:=(List.getElem?_eq_some_iff.1 h)
    have hj:=(List.getElem?_eq_some_iff.1 hj)
    have h1:(l.map Prod.fst)[i]'(by simpa using hi.1)=(l.map Prod.fst)[j]'(by simpa using hj.1):=by
     simp only [List.getElem_map]
     rw [hi.2,hj.2]
     exact e.symm
    exact (List.getElem_inj hn).1 h1)
   simp [hne]
theorem putM_new {l:List (K × V)} {k:K} {v:V} (h:∀ p∈l,p.1≠k):putM l k v=l++[(k,v)]:=by
 unfold putM
 rw [if_neg (by rw [hasM_none h]; simp)]
theorem putM_keys (l:List (K × V)) (k:K) (v:V):(putM l k v).map Prod.fst=if hasM l k then l.map Prod.fst else l.map Prod.fst++[k]:=by
 unfold putM
 split
 ·rw [List.map_map]
  refine List.map_congr_left fun p _=>?_
  simp only [Function.comp]
  by_cases h:p.1=k <;> simp [h]
 ·simp
end
structure KeyF (P:Program) (T:TypeId) {K:Type} [DecidableEq K] (kv:K→Value):Prop where
 chk:∀ em k w,(Instr.checkKey em 10000 T (kv k)).run P w = .ok () w
 eq:∀ x y w,(Op.equal T (kv x) (kv y)).run P w = .ok (decide (x=y)) w
 now:∃ d,P.underlying T=some d∧((∀ x y,Instr.sameNow d (kv x) (kv y)=some (decide (x=y)))∨∀ x y,Instr.sameNow d (kv x) (kv y)=none)
 same:∀ k,Instr.sameBits 10000 (kv k) (kv k)=true
section
variable {P:Program} {T:TypeId} {K:Type} [DecidableEq K] {kv:K→Value}
def EL (kv:K→Value) (es:List MapEntry) (l:List (K × Value)):Prop:=es.map (fun e=>(e.key,e.val))=l.map fun p=>(kv p.1,p.2)
theorem findNow_some {d:TypeDesc} (h:∀ x y,Instr.sameNow d (kv x) (kv y)=some (decide (x=y))) (k:K):∀ (l:List (K × Value)) (es:List MapEntry) (n:Nat),EL kv es l →
  (∃ i v,Instr.findNow d (kv k) es n=some (some (n+i,v))∧l[i]? = some (k,v))∨(Instr.findNow d (kv k) es n=some none∧∀ p∈l,p.1≠k):=by
 intro l
 induction l with
 | nil=>intro es n he; right; cases es with
  | nil=>exact ⟨rfl,fun p hp=>by cases hp⟩
  | cons e es=>simp [EL] at he
 | cons p l ih =>
  intro es n he
  cases es with
  | nil=>simp [EL] at he
  | cons e es =>
   simp only [EL,List.map_cons,List.cons.injEq,Prod.mk.injEq] at he
   obtain ⟨⟨h1,h2⟩,h3⟩:=he
   simp only [Instr.findNow,h1,h]
   by_cases hk:k=p.1
   ·left
    rw [decide_eq_true hk]
    exact ⟨0,e.val,rfl,by rw [hk,h2]; rfl⟩
   ·rw [decide_eq_false hk]
    rcases ih es (n+1) h3 with ⟨i,v,a,b⟩ | ⟨a,b⟩
    ·left; exact ⟨i+1,v,by show Instr.findNow d (kv k) es (n+1)=_; rw [a,Nat.add_assoc,Nat.add_comm 1],by simpa using b⟩
    ·right; exact ⟨a,fun q hq=>by
      rcases List.mem_cons.1 hq with rfl | hq
      ·exact fun e=>hk e.symm
      ·exact b q hq⟩
theorem findAsk_some (h:∀ x y w,(Op.equal T (kv x) (kv y)).run P w = .ok (decide (x=y)) w) (k:K) (w:World):∀ (l:List (K × Value)) (es:List MapEntry) (n:Nat),EL kv es l →
  (∃ i v,(Instr.findAsking T (kv k) es n).run P w = .ok (some (n+i,v)) w∧l[i]? = some (k,v))∨((Instr.findAsking T (kv k) es n).run P w = .ok none w∧∀ p∈l,p.1≠k):=by
 intro l
 induction l with
 | nil=>intro es n he; right; cases es with
  | nil=>exact ⟨by simp [Instr.findAsking],fun p hp=>by cases hp⟩
  | cons e es=>simp [EL] at he
 | cons p l ih =>
  intro es n he
  cases es with
  | nil=>simp [EL] at he
  | cons e es =>
   simp only [EL,List.map_cons,List.cons.injEq,Prod.mk.injEq] at he
   obtain ⟨⟨h1,h2⟩,h3⟩:=he
   by_cases hk:k=p.1
   ·left
    refine ⟨0,e.val,?_,by rw [hk,h2]; rfl⟩
    simp [Instr.findAsking,h1,h,hk]
   ·rcases ih es (n+1) h3 with ⟨i,v,a,b⟩ | ⟨a,b⟩
    ·left; exact ⟨i+1,v,by simp [Instr.findAsking,h1,h,hk,a,Nat.add_assoc,Nat.add_comm 1],by simpa using b⟩
    ·right; exact ⟨by simp [Instr.findAsking,h1,h,hk,a],fun q hq=>by
      rcases List.mem_cons.1 hq with rfl | hq
      ·exact fun e=>hk e.symm
      ·exact b q hq⟩
theorem findNow_none {d:TypeDesc} (h:∀ x y,Instr.sameNow d (kv x) (kv y)=none) (k:K) (l:List (K × Value)) (es:List MapEntry) (he:EL kv es l):Instr.findNow d (kv k) es 0=none∨(es=[]∧l=[]):=by
 cases l with
 | nil=>cases es with
  | nil=>exact .inr ⟨rfl,rfl⟩
  | cons e es=>simp [EL] at he
 | cons p l=>cases es with
  | nil=>simp [EL] at he
  | cons e es =>
   simp only [EL,List.map_cons,List.cons.injEq,Prod.mk.injEq] at he
   left
   simp [Instr.findNow,he.1.1,h]
theorem KeyF.find (hK:KeyF P T kv) (k:K) (w:World) (l:List (K × Value)) (es:List MapEntry) (he:EL kv es l) :
  (∃ i v,(Instr.findKey T (kv k) es).run P w = .ok (some (i,v)) w∧l[i]? = some (k,v))∨((Instr.findKey T (kv k) es).run P w = .ok none w∧∀ p∈l,p.1≠k):=by
 obtain ⟨d,hd,h | h⟩:=hK.now
 ·rcases findNow_some h k l es 0 he with ⟨i,v,a,b⟩ | ⟨a,b⟩
  ·left; exact ⟨i,v,by simp [Instr.findKey,run_underlying hd,a],b⟩
  ·right; exact ⟨by simp [Instr.findKey,run_underlying hd,a],b⟩
 ·rcases findNow_none h k l es he with a | ⟨rfl,rfl⟩
  ·rcases findAsk_some hK.eq k w l es 0 he with ⟨i,v,c,b⟩ | ⟨c,b⟩
   ·left; exact ⟨i,v,by simp [Instr.findKey,run_underlying hd,a,c],b⟩
   ·right; exact ⟨by simp [Instr.findKey,run_underlying hd,a,c],b⟩
  ·right; exact ⟨by simp [Instr.findKey,run_underlying hd,Instr.findNow],fun p hp=>by cases hp⟩
end
section
variable {K:Type} [DecidableEq K]
structure MapAt (kv:K→Value) (b:Nat) (l:List (K × Value)) (es:Array MapEntry) (clock:Nat) (w:World):Prop where
 heap:w.heap[b]? = some (.map es clock)
 el:EL kv es.toList l
 nd:(l.map Prod.fst).Nodup
 born:∀ e∈es.toList,e.born<clock
 bnd:(es.toList.map (·.born)).Nodup
def mapO (kv:K→Value) (b:Nat) (l:List (K × Value)) (es:Array MapEntry) (clock:Nat):OW:={
 ks:=[b]
 ok:=MapAt kv b l es clock
 stay:=fun {w w'} h m=>⟨(h b (List.mem_singleton.2 rfl)).trans m.heap,m.el,m.nd,m.born,m.bnd⟩
 lt:=fun {w} m k hkm=>by
  rw [List.mem_singleton.1 hkm]
  exact (Array.getElem?_eq_some_iff.1 m.heap).1 }
theorem EL.len {kv:K→Value} {es:List MapEntry} {l:List (K × Value)} (h:EL kv es l):es.length=l.length:=by
 have:=congrArg List.length h
 simpa using this
theorem EL.set {kv:K→Value} {es:List MapEntry} {l:List (K × Value)} (h:EL kv es l) (i:Nat) (k:K) (v:Value) (f:MapEntry→MapEntry) (hf:∀ e,es[i]? = some e→(f e).key=kv k∧(f e).val=v) :
  EL kv (es.modify i f) (l.set i (k,v)):=by
 unfold EL at h ⊢
 refine List.ext_getElem? fun j=>?_
 have hj:=congrArg (·[j]?) h
 simp only [List.getElem?_map] at hj ⊢
 rw [List.getElem?_modify,List.getElem?_set]
 by_cases hij:i=j
 ·subst hij
  rw [if_pos rfl]
  cases he:es[i]? with
  | none =>
   have:¬ i<l.length:=by
    rw [← EL.len h]
    exact fun hlt=>by rw [List.getElem?_eq_getElem hlt] at he; cases he
   simp [this]
  | some e =>
   have:i<l.length:=by
    rw [← EL.len h]
    exact (List.getElem?_eq_some_iff.1 he).1
   have h1:=hf e he
   simp [this,h1.1,h1.2]
 ·rw [if_neg hij]
  simp only [if_neg hij]
  simpa using hj
theorem EL.push {kv:K→Value} {es:List MapEntry} {l:List (K × Value)} (h:EL kv es l) (k:K) (v:Value) (e:MapEntry) (h1:e.key=kv k) (h2:e.val=v):EL kv (es++[e]) (l++[(k,v)]):=by
 unfold EL at h ⊢
 rw [List.map_append,List.map_append,h]
 simp [h1,h2]
theorem mod_born (es:List MapEntry) (i:Nat) (f:MapEntry→MapEntry) (hf:∀ e,(f e).born=e.born):(es.modify i f).map (·.born)=es.map (·.born):=by
 refine List.ext_getElem? fun j=>?_
 simp only [List.getElem?_map,List.getElem?_modify]
 by_cases hij:i=j
 ·subst hij; cases es[i]? <;> simp [hf]
 ·simp only [if_neg hij]; cases es[j]? <;> rfl
theorem MapAt.put {kv:K→Value} {b:Nat} {l:List (K × Value)} {es:Array MapEntry} {clock:Nat} {w w':World} (m:MapAt kv b l es clock w) {i:Nat} {k:K} {v u:Value} (hi:l[i]? = some (k,u)) (f:MapEntry→MapEntry)
  (hf:∀ e,es[i]? = some e→(f e).key=kv k∧(f e).val=v) (hb:∀ e,(f e).born=e.born) (hw:w'.heap[b]? = some (.map (es.modify i f) clock)):MapAt kv b (l.set i (k,v)) (es.modify i f) clock w':=by
 have hbm:=mod_born es.toList i f hb
 refine ⟨hw,?_,?_,?_,?_⟩
 ·rw [Array.toList_modify]
  exact m.el.set i k v f fun e he=>hf e (by simpa using he)
 ·have:(l.set i (k,v)).map Prod.fst=l.map Prod.fst:=by
   rw [List.map_set]
   have h2:=List.getElem?_eq_some_iff.1 hi
   have h3:k=(l.map Prod.fst)[i]'(by simpa using h2.1):=by simp [h2.2]
   show (l.map Prod.fst).set i k=_
   conv=>lhs; rw [h3]
   rw [List.set_getElem_self]
  rw [this]; exact m.nd
 ·rw [Array.toList_modify]
  intro e he
  have:e.born∈(es.toList.modify i f).map (·.born):=List.mem_map_of_mem he
  rw [hbm] at this
  obtain ⟨e',he',h⟩:=List.mem_map.1 this
  rw [← h]; exact m.born e' he'
 ·rw [Array.toList_modify,hbm]; exact m.bnd
theorem MapAt.push {kv:K→Value} {b:Nat} {l:List (K × Value)} {es:Array MapEntry} {clock:Nat} {w w':World} (m:MapAt kv b l es clock w) {k:K} {v:Value} (hk:∀ p∈l,p.1≠k) (hw:w'.heap[b]? = some (.map (es.push ⟨kv k,v,clock⟩) (clock+1))) :
  MapAt kv b (l++[(k,v)]) (es.push ⟨kv k,v,clock⟩) (clock+1) w':=by
 refine ⟨hw,?_,?_,?_,?_⟩
 ·rw [Array.toList_push]; exact m.el.push k v _ rfl rfl
 ·rw [List.map_append,List.nodup_append]
  refine ⟨m.nd,by simp,fun a ha c hc=>?_⟩
  simp at hc; subst hc
  obtain ⟨p,hp,rfl⟩:=List.mem_map.1 ha
  exact hk p hp
 ·rw [Array.toList_push]
  intro e he
  rcases List.mem_append.1 he with h | h
  ·have:=m.born e h; omega
  ·simp at h; subst h; simp
 ·rw [Array.toList_push,List.map_append,List.nodup_append]
  refine ⟨m.bnd,by simp,fun a ha c hc=>?_⟩
  simp at hc; subst hc
  obtain ⟨e,he,rfl⟩:=List.mem_map.1 ha
  have:=m.born e he
  omega
end
end Go.J
namespace Go.J
open Go Go.RowKit
set_option linter.unusedSimpArgs false
set_option linter.unusedSectionVars false
section
variable {P:Program} {K:Type} [DecidableEq K] {kv:K→Value} {b:Nat} {l:List (K × Value)} {es:Array MapEntry} {clock:Nat} {w:World} {T E Tk:TypeId} {k:K} {z v:Value}
theorem MapAt.entry (m:MapAt kv b l es clock w) {i:Nat} {u:Value} (h:l[i]? = some (k,u)):∃ e,es.toList[i]? = some e∧e.key=kv k∧e.val=u:=by
 have hj:=congrArg (·[i]?) m.el
 simp only [List.getElem?_map,h] at hj
 cases he:es.toList[i]? with
 | none=>rw [he] at hj; cases hj
 | some e =>
  rw [he] at hj
  simp at hj
  exact ⟨e,rfl,hj.1,hj.2⟩
theorem run_lookup_own (hT:P.underlying T=some (.map Tk E)) (hK:KeyF P Tk kv) (hz:∀ w,(zeroValue E).run P w = .ok z w) (m:MapAt kv b l es clock w) (c:Bool) :
  (Instr.lookup T (.map (some b)) (kv k) c).run P w = .ok (if c then .tuple #[(lkM l k).getD z,.bool (hasM l k)] else (lkM l k).getD z) w:=by
 rcases hK.find k w l es.toList m.el with ⟨i,v,h1,h2⟩ | ⟨h1,h2⟩
 ·have h3:=lkM_some m.nd i h2
  have h4:hasM l k=true:=(hasM_iff l k).2 (List.mem_map.2 ⟨(k,v),List.mem_of_getElem? h2,rfl⟩)
  cases c <;> simp [Instr.lookup,run_underlying hT,MapKept.run_getObj_map m.heap,hK.chk,h1,h3,h4]
 ·have h3:=lkM_none h2
  have h4:=hasM_none h2
  cases c <;> simp [Instr.lookup,run_underlying hT,MapKept.run_getObj_map m.heap,hK.chk,h1,h3,h4,hz]
theorem keyStays (hK:KeyF P Tk kv) (k:K) (w:World):(Instr.keyThatStays (kv k) (kv k)).run P w = .ok (kv k) w:=by
 simp [Instr.keyThatStays,hK.same k]
theorem run_mapUpdate_own (hT:P.underlying T=some (.map Tk E)) (hK:KeyF P Tk kv) (m:MapAt kv b l es clock w):∃ es' clock',(Instr.mapUpdate T (.map (some b)) (kv k) v).run P w = .ok () (w.putObj b (.map es' clock'))∧MapAt kv b (putM l k v) es' clock' (w.putObj b (.map es' clock')):=by
 have hlt:=(Array.getElem?_eq_some_iff.1 m.heap).1
 have hput:∀ o:Obj,(setObj b o).run P w = .ok () (w.putObj b o):=fun o=>by rw [MapKept.run_setObj_map o m.heap]; rfl
 rcases hK.find k w l es.toList m.el with ⟨i,u,h1,h2⟩ | ⟨h1,h2⟩
 ·obtain ⟨e,he,hk,hv⟩:=m.entry h2
  have he':es[i]? = some e:=by simpa using he
  refine ⟨es.modify i fun e=>{ e with key:=kv k,val:=v },clock,?_,?_⟩
  ·simp [Instr.mapUpdate,run_underlying hT,MapKept.run_getObj_map m.heap,hK.chk,h1,he',hk,keyStays hK,hput]
  ·rw [putM_at m.nd i h2]
   exact m.put h2 _ (fun e _=>⟨rfl,rfl⟩) (fun _=>rfl) (World.putObj_heap_same hlt)
 ·refine ⟨es.push ⟨kv k,v,clock⟩,clock+1,?_,?_⟩
  ·simp [Instr.mapUpdate,run_underlying hT,MapKept.run_getObj_map m.heap,hK.chk,h1,hput]
  ·rw [putM_new h2]
   exact m.push h2 (World.putObj_heap_same hlt)
end
section
variable {P:Program} {Rp:Post} {Kk:List Lay} {N:NN} {l:Fr} {ops:Array Oper} {rest:List Oper} {d:Nat} {dd:Option Nat} {ty:Nat} {pos:String} {af:Array Edge} {g:Option (Nat × Bool)} {x y u:Operand} {T E Tk:TypeId} {c:Code}
variable {w0:World} {M:List Nat} {A:Nat→Prop} {es:List Ent} {j b:Nat} {K V:Type} [DecidableEq K] {kv:K→Value} {vv:V→Value} {L:List (K × V)} {k:K} {v z:V} {mes:Array MapEntry} {mcl:Nat}
theorem Sat.swapO {w w':World} {o o':OW} (h:Sat w0 M A es w) (hk:nth es j=some (.obj o)) (h1:o.ks=[b]) (h2:o'.ks=[b]) (hc:Chg [b] w w') (hok:o'.ok w'):Sat w0 M A (setN es j (.obj o')) w':=by
 have hlt:b<w.heap.size:=o.lt (h.objAt hk) b (by rw [h1]; exact List.mem_singleton.2 rfl)
 refine h.swap' hk (by show Chg o.ks w w'; rw [h1]; exact hc) hok (by show o'.ks.Nodup; rw [h2]; simp) (fun q hq=>?_) (fun F hF=>by cases hF)
 have hq':q∈o'.ks:=hq
 rw [h2] at hq'
 rw [List.mem_singleton.1 hq']
 exact ⟨Nat.lt_of_lt_of_le hlt hc.size,.inr (by show b∈o.ks; rw [h1]; exact List.mem_singleton.2 rfl)⟩
theorem chg_put {w:World} {o o':Obj} (_:w.heap[b]? = some o):Chg [b] w (w.putObj b o'):=⟨rfl,rfl,rfl,by simp,fun x _ hx=>World.putObj_heap_other (fun e=>hx (by simp [e]))⟩
theorem r_mkmap (kv:K→Value) (vv:V→Value) (hd:Nat.blt d N.n=true) (h:∀ b,LJ P Rp ops rest Kk N ((d,.map (some b))::l) (Sat w0 M A (.obj (mapO kv b (mpV vv []) #[] 0)::es))) :
  LJ P Rp ops (⟨some d,.makeMap T none,ty,pos,af,none⟩::rest) Kk N l (Sat w0 M A es):=by
 intro a w hf hw
 refine wpList_plain rfl fun K' hK=>?_
 unfold Oper.wp
 have:(execOp a.eval ⟨some d,.makeMap T none,ty,pos,af,none⟩).run P w = .ok (.value (.map (some w.heap.size))) (w.alloc (.map #[] 0)):=by
  simp [execOp,Instr.makeMap]
 rw [this]
 refine hK _ _ (h _ _ _ (hf.put hd _) ?_)
 have hal:=hw.allocO (.map #[] 0)
 refine Sat.swapO (b:=w.heap.size) (j:=0) hal rfl rfl rfl (Chg.refl _ _) ?_
 exact ⟨Go.heap_alloc_new w _,rfl,by simp [mpV],by simp,by simp⟩
theorem p_lkm (hT:P.underlying T=some (.map Tk E)) (hK:KeyF P Tk kv) (hz:∀ w,(zeroValue E).run P w = .ok (vv z) w) (hj:FactAt es (MapAt kv b (mpV vv L) mes mcl)) (hx:ev l x=some (.map (some b))) (hy:ev l y=some (kv k)) :
  PureOp P N ⟨dd,.lookup T x y false,ty,pos,af,g⟩ l (Sat w0 M A es) (vv ((lkM L k).getD z)):=fun a w hf hw=>by
 have m:=hj.get hw
 have h:=run_lookup_own (P:=P) (k:=k) hT hK hz m false
 rw [lkM_map] at h
 have e:(Option.map vv (lkM L k)).getD (vv z)=vv ((lkM L k).getD z):=by cases lkM L k <;> rfl
 simp only [e] at h
 simp [execOp,hf.ev hx,hf.ev hy,h]
theorem p_lko (hT:P.underlying T=some (.map Tk E)) (hK:KeyF P Tk kv) (hz:∀ w,(zeroValue E).run P w = .ok (vv z) w) (hj:FactAt es (MapAt kv b (mpV vv L) mes mcl)) (hx:ev l x=some (.map (some b))) (hy:ev l y=some (kv k)) :
  PureOp P N ⟨dd,.lookup T x y true,ty,pos,af,g⟩ l (Sat w0 M A es) (.tuple #[vv ((lkM L k).getD z),.bool (hasM L k)]):=fun a w hf hw=>by
 have m:=hj.get hw
 have h:=run_lookup_own (P:=P) (k:=k) hT hK hz m true
 rw [lkM_map,hasM_map] at h
 have e:(Option.map vv (lkM L k)).getD (vv z)=vv ((lkM L k).getD z):=by cases lkM L k <;> rfl
 simp only [e] at h
 simp [execOp,hf.ev hx,hf.ev hy,h]
theorem r_mpu (hT:P.underlying T=some (.map Tk E)) (hK:KeyF P Tk kv) (hj:nth es j=some (.obj (mapO kv b (mpV vv L) mes mcl))) (hx:ev l x=some (.map (some b))) (hy:ev l y=some (kv k)) (hu:ev l u=some (vv v))
  (h:∀ es' cl',LJ P Rp ops rest Kk N l (Sat w0 M A (setN es j (.obj (mapO kv b (mpV vv (putM L k v)) es' cl'))))) :
  LJ P Rp ops (⟨none,.mapUpdate T x y u,ty,pos,af,none⟩::rest) Kk N l (Sat w0 M A es):=by
 intro a w hf hw
 refine wpList_plain rfl fun K' hKk=>?_
 unfold Oper.wp
 have m:MapAt kv b (mpV vv L) mes mcl w:=hw.objAt hj
 obtain ⟨es2,cl2,h1,h2⟩:=run_mapUpdate_own (P:=P) (k:=k) (v:=vv v) hT hK m
 have:(execOp a.eval ⟨none,.mapUpdate T x y u,ty,pos,af,none⟩).run P w = .ok .skip (w.putObj b (.map es2 cl2)):=by
  simp [execOp,hf.ev hx,hf.ev hy,hf.ev hu,h1]
 rw [this]
 rw [putM_map] at h2
 exact hKk _ _ (h es2 cl2 _ _ (hf.put_none undef) (Sat.swapO hw hj rfl rfl (chg_put m.heap) h2))
end
end Go.J
namespace Go.J
open Go Go.RowKit
set_option linter.unusedSimpArgs false
section
variable {P:Program} {T:TypeId}
theorem ba_dec (x y:ByteArray):(x==y)=decide (x=y):=by
 rw [Bool.eq_iff_iff]; simp [ba_beq]
theorem keyF_str (h:P.underlying T=some .string):KeyF P T (fun s:ByteArray=>.string s) where
 chk:=fun em k w=>by
  have:∀ n,(Instr.checkKey em (n+1) T (.string k)).run P w = .ok () w:=fun n=>by simp [Instr.checkKey,run_underlying h]
  exact this 9999
 eq:=fun x y w=>by
  have h1:=run_equalIn_string (P:=P) w 9999 T x y h
  rw [← beq_toListBytes,ba_dec] at h1
  simp [Op.equal,Op.maxDepth,h1]
 now:=⟨_,h,.inl fun x y=>by simp only [Instr.sameNow]; rw [ba_dec]⟩
 same:=fun k=>by simp only [Instr.sameBits]; rw [ba_dec]; simp
theorem sb_agg (vs:List Value) (h:∀ v,v∈vs→Instr.sameBits 9999 v v=true):Instr.sameBits 10000 (.agg vs.toArray) (.agg vs.toArray)=true:=by
 simp only [Instr.sameBits,beq_self_eq_true,Bool.true_and,List.all_eq_true]
 rintro ⟨a,b⟩ hab
 have:a=b∧a∈vs:=by
  rw [List.mem_iff_getElem] at hab
  obtain ⟨i,hi,he⟩:=hab
  simp at he
  obtain ⟨rfl,rfl⟩:=he
  exact ⟨rfl,List.getElem_mem _⟩
 obtain ⟨rfl,hv⟩:=this
 exact h a hv
theorem keyF_agg {K:Type} [DecidableEq K] {R:Rep K} {fs:Array Field} (hu:P.underlying T=some (.struct fs)) (hchk:∀ em k w,(Instr.checkKey em 10000 T (.agg (R.enc k).toArray)).run P w = .ok () w)
  (heq:∀ x y:K,EqV P 10000 T (.agg (R.enc x).toArray) (.agg (R.enc y).toArray) (decide (x=y))) (hs:∀ k v,v∈R.enc k→Instr.sameBits 9999 v v=true):KeyF P T (fun k:K=>.agg (R.enc k).toArray) where
 chk:=hchk
 eq:=fun x y w=>by
  have h1:=heq x y w
  simp [Op.equal,Op.maxDepth,h1]
 now:=⟨_,hu,.inr fun _ _=>rfl⟩
 same:=fun k=>sb_agg _ (hs k)
end
theorem FactAt.map {es:List Ent} {K:Type} {kv:K→Value} [DecidableEq K] {b:Nat} {l:List (K × Value)} {mes:Array MapEntry} {mcl:Nat} (j:Nat) (h:nth es j=some (.obj (mapO kv b l mes mcl))):FactAt es (MapAt kv b l mes mcl):=.obj j h
end Go.J
namespace Go.J
open Go Go.RowKit
set_option linter.unusedSimpArgs false
set_option linter.unusedSectionVars false
noncomputable def anyOrd {α β : Type} (L:List α) (f:List α → Option β):Option β:=by
 classical exact if h:∃ r,∀ L',L'.Perm L→f L'=some r then some h.choose else none
theorem anyOrd_spec {α β : Type} {L:List α} {f:List α → Option β} {r : β} (h:anyOrd L f=some r):∀ L',L'.Perm L→f L'=some r:=by
 unfold anyOrd at h
 split at h
 ·rename_i hx
  cases h
  exact hx.choose_spec
 ·cases h
theorem anyOrd_of {α β : Type} {L:List α} {f:List α → Option β} {r : β} (h:∀ L',L'.Perm L→f L'=some r):anyOrd L f=some r:=by
 unfold anyOrd
 have hx:∃ r,∀ L',L'.Perm L→f L'=some r:=⟨r,h⟩
 rw [dif_pos hx]
 have:=hx.choose_spec L (List.Perm.refl _)
 rw [h L (List.Perm.refl _)] at this
 exact this.symm
def bornOf (es:Array MapEntry) (i:Nat):Nat:=((es[i]?).map (·.born)).getD 0
def itObj (b:Nat) (es:Array MapEntry) (clock:Nat) (idx:List Nat):Obj:=.mapIter (some b) clock (idx.map (bornOf es)).toArray clock
section
variable {P:Program} {K:Type} [DecidableEq K] {kv:K→Value} {b r:Nat} {l:List (K × Value)} {es:Array MapEntry} {clock:Nat} {w:World}
theorem MapAt.bornOf_inj (m:MapAt kv b l es clock w) {i j:Nat} (hi:i<es.size) (hj:j<es.size) (h:bornOf es i=bornOf es j):i=j:=by
 unfold bornOf at h
 rw [Array.getElem?_eq_getElem hi,Array.getElem?_eq_getElem hj] at h
 have h1:(es.toList.map (·.born))[i]'(by simpa using hi)=(es.toList.map (·.born))[j]'(by simpa using hj):=by simpa using h
 exact (List.getElem_inj m.bnd).1 h1
theorem MapAt.size (m:MapAt kv b l es clock w):es.size=l.length:=by
 have:=EL.len m.el
 simpa using this
theorem run_next_own (m:MapAt kv b l es clock w) (_:r≠b) {idx:List Nat} (hit:w.heap[r]? = some (itObj b es clock idx)) (hlt:∀ i∈idx,i<l.length) (ty:Nat) :
  ((∀ i,i<l.length→i∈idx)∧(Instr.next (.pointer (some ⟨r,0,none⟩)) false ty).run P w = .ok (.tuple #[.bool false]) w) ∨
  ∃ (i:Nat) (k:K) (v:Value) (w':World),i∉idx∧l[i]? = some (k,v)∧(w'=w∨w'=w.drew)∧(Instr.next (.pointer (some ⟨r,0,none⟩)) false ty).run P w = .ok (.tuple #[.bool true,kv k,v]) (w'.putObj r (itObj b es clock (idx++[i]))):=by
 have hget:(getObj r).run P w = .ok (itObj b es clock idx) w:=by simp [getObj,Sem.run,hit,itObj]
 have hgm:=MapKept.run_getObj_map (P:=P) m.heap
 have hsz:=m.size
 -- which are left
 have hold:∀ e,e∈es→e.born<clock:=fun e he=>m.born e (by simpa using he)
 have hcheck:(!(idx.map (bornOf es)).toArray.isEmpty && !es.isEmpty&&es.all (·.born≥clock))=false:=by
  by_cases h0:es.isEmpty=true
  ·simp [h0]
  ·have:es.all (·.born≥clock)=false:=by
    rw [← Bool.not_eq_true,Array.all_eq_true]
    intro h
    have hpos:0<es.size:=by
     rcases Nat.eq_zero_or_pos es.size with h1 | h1
     ·exact absurd (by simpa using h1) h0
     ·exact h1
    have h1:=h 0 hpos
    have h2:=hold es[0] (Array.getElem_mem _)
    simp at h1
    omega
   simp [this]
 have hmem:∀ i,i<es.size→((idx.map (bornOf es)).toArray.contains (bornOf es i)=true↔i∈idx):=fun i hi=>by
  simp only [List.contains_toArray,List.contains_eq_mem,decide_eq_true_eq,List.mem_map]
  constructor
  ·rintro ⟨j,hj,h⟩
   rw [← m.bornOf_inj (by rw [hsz]; exact hlt j hj) hi h]
   exact hj
  ·exact fun h=>⟨i,h,rfl⟩
 generalize hleft:(es.filter fun e=>!(idx.map (bornOf es)).toArray.contains e.born)=left
 have hleftold:left.filter (fun e=>decide (e.born<clock))=left:=by
  rw [Array.filter_eq_self]
  intro e he
  rw [← hleft] at he
  simp at he
  simpa using hold e he.1
 have hleftnew:left.filter (fun e=>decide (e.born≥clock)) = #[]:=by
  rw [Array.filter_eq_empty_iff]
  intro e he
  rw [← hleft] at he
  simp at he
  have:=hold e he.1
  simpa using this
 have hput:∀ (w1:World) (o:Obj),w1.heap=w.heap→(setObj r o).run P w1 = .ok () (w1.putObj r o):=fun w1 o h=>by
  have:w1.heap[r]? = some (itObj b es clock idx):=by rw [h]; exact hit
  simp [setObj,Sem.run,this,World.putObj,itObj]
 have hbase:(Instr.next (.pointer (some ⟨r,0,none⟩)) false ty).run P w=((choose (.mapNext ((if left.isEmpty then #[none] else #[])++left.map some:Array (Option MapEntry)).size)).run P w).andThen fun c w1 =>
   (match ((if left.isEmpty then #[none] else #[])++left.map some:Array (Option MapEntry))[c]? with
   | some (some e)=>do setObj r (.mapIter (some b) clock ((idx.map (bornOf es)).toArray.push e.born) clock); pure (.tuple #[.bool true,e.key,e.val])
   | some none=>pure (.tuple #[.bool false])
   | none => stuck "Next: no such candidate" : Sem Value).run P w1 := by
  simp only [itObj] at hget
  unfold Instr.next
  simp only [Sem.run_bind,hget,Result.andThen_ok,hgm,hcheck,Bool.false_eq_true,if_false]
  simp only [hleft,hleftold,hleftnew,Array.append_empty]
  rfl
 rw [hbase]
 have hch:∀ n,0<n→∃ c w1,(choose (.mapNext n)).run P w = .ok c w1∧c<n∧(w1=w∨w1=w.drew):=fun n hn=>by
  rw [run_choose_drew]
  by_cases hf:(Question.mapNext n).forced=true
  ·exact ⟨0,w,by rw [if_pos hf],hn,.inl rfl⟩
  ·exact ⟨w.tape w.drawn (.mapNext n) % n,w.drew,by rw [if_neg hf]; rfl,Nat.mod_lt _ hn,.inr rfl⟩
 by_cases h0:left.isEmpty=true
 ·left
  refine ⟨fun i hi=>?_,?_⟩
  ·have hie:i<es.size:=by rw [hsz]; exact hi
   rw [← hmem i hie]
   have hb:bornOf es i=es[i].born:=by unfold bornOf; rw [Array.getElem?_eq_getElem hie]; rfl
   have:¬ es[i]∈left:=by
    have:left = #[]:=by simpa using h0
    rw [this]; simp
   rw [← hleft,Array.mem_filter] at this
   rw [hb]
   have hm:es[i]∈es:=Array.getElem_mem _
   by_cases hc:(idx.map (bornOf es)).toArray.contains es[i].born=true
   ·exact hc
   ·exact absurd ⟨hm,by simpa using hc⟩ this
  ·have hl:left = #[]:=by simpa using h0
   subst hl
   rw [if_pos h0]
   have hf:(Question.mapNext ((#[none]:Array (Option MapEntry))++(#[]:Array MapEntry).map some).size).forced=true:=by simp [Question.forced]
   rw [run_choose_drew,if_pos hf]
   simp
 ·right
  rw [if_neg h0,Array.empty_append]
  have hpos:0<left.size:=by
   rcases Nat.eq_zero_or_pos left.size with h1 | h1
   ·exact absurd (by simpa using h1) h0
   ·exact h1
  obtain ⟨c,w1,h1,h2,h3⟩:=hch (left.map some).size (by simpa using hpos)
  rw [h1]
  have h2':c<left.size:=by simpa using h2
  simp only [Result.andThen_ok]
  have hcand:(left.map some)[c]? = some (some left[c]):=by simp [h2']
  rw [hcand]
  have hinl:∀ e,e∈left→e∈es∧(!(idx.map (bornOf es)).toArray.contains e.born)=true:=by
   rw [← hleft]
   exact fun e he=>Array.mem_filter.1 he
  have hin:=hinl left[c] (Array.getElem_mem h2')
  obtain ⟨i,hi,he⟩:=Array.mem_iff_getElem.1 hin.1
  have hil:i<l.length:=by rw [← hsz]; exact hi
  have hb:bornOf es i=left[c].born:=by unfold bornOf; rw [Array.getElem?_eq_getElem hi,he]; rfl
  obtain ⟨e,he1,hk,hv⟩:=m.entry (k:=l[i].1) (u:=l[i].2) (List.getElem?_eq_getElem hil)
  have hee:e=left[c]:=by
   rw [Array.getElem?_toList,Array.getElem?_eq_getElem hi,he] at he1
   exact (Option.some.inj he1).symm
  have hpush:(idx.map (bornOf es)).toArray.push left[c].born=((idx++[i]).map (bornOf es)).toArray:=by
   rw [List.map_append,List.map_cons,List.map_nil,hb]
   simp
  refine ⟨i,l[i].1,l[i].2,w1,?_,List.getElem?_eq_getElem hil,h3,?_⟩
  ·intro hx
   have:=(hmem i hi).2 hx
   rw [hb] at this
   rw [this] at hin
   cases hin.2
  ·have hw1:w1.heap=w.heap:=by rcases h3 with rfl | rfl <;> rfl
   rw [← hk,← hv,hee]
   simp only [Sem.run_bind,hput w1 _ hw1,Result.andThen_ok,itObj]
   rw [hpush]
   rfl
end
end Go.J
namespace Go.J
open Go Go.RowKit
set_option linter.unusedSimpArgs false
set_option linter.unusedSectionVars false
section
variable {P:Program} {K:Type} [DecidableEq K] {kv:K→Value} {b r:Nat} {l:List (K × Value)} {es:Array MapEntry} {clock:Nat} {w:World}
theorem run_entry_own (m:MapAt kv b l es clock w) {idx:List Nat} {i:Nat} {k:K} {v:Value} (hit:w.heap[r]? = some (itObj b es clock (idx++[i]))) (hi:l[i]? = some (k,v)) :
  (Instr.entry (.pointer (some ⟨r,0,none⟩))).run P w = .ok (.tuple #[kv k,v]) w:=by
 have hget:(getObj r).run P w = .ok (itObj b es clock (idx++[i])) w:=by simp [getObj,Sem.run,hit,itObj]
 have hgm:=MapKept.run_getObj_map (P:=P) m.heap
 obtain ⟨e,he,hk,hv⟩:=m.entry hi
 have he':es[i]? = some e:=by simpa using he
 have hb:bornOf es i=e.born:=by unfold bornOf; rw [he']; rfl
 have hfind:es.find? (fun x=>x.born==e.born)=some e:=by
  rw [Array.find?_eq_some_iff_getElem]
  obtain ⟨hlt,hge⟩:=Array.getElem?_eq_some_iff.1 he'
  refine ⟨by simp,i,hlt,hge,fun j hj=>?_⟩
  have hjs:j<es.size:=by omega
  have:es[j].born≠e.born:=fun h=>by
   have h1:bornOf es j=bornOf es i:=by rw [hb]; unfold bornOf; rw [Array.getElem?_eq_getElem hjs]; exact h
   have:=m.bornOf_inj hjs hlt h1
   omega
  simpa using this
 have hback:((idx++[i]).map (bornOf es)).toArray.back? = some e.born:=by
  rw [List.map_append,List.map_cons,List.map_nil,hb]
  simp
 simp only [itObj] at hget
 unfold Instr.entry
 simp only [Sem.run_bind,hget,Result.andThen_ok,hback,hgm,bne_self_eq_false,Bool.false_eq_true,if_false,hfind]
 rw [← hk,← hv]; rfl
end
theorem FactAt.cons1 {es:List Ent} {F:World→Prop} {e:Ent} (h:FactAt es F):FactAt (e::es) F:=by
 induction h with
 | ro j h=>exact .ro (j+1) h
 | row j h=>exact .row (j+1) h
 | box j h=>exact .box (j+1) h
 | obj j h=>exact .obj (j+1) h
 | der _ h ih=>exact .der ih h
def met {α : Type} (L:List α) (idx:List Nat):List α:=idx.filterMap (L[·]?)
theorem met_snoc {α : Type} {L:List α} {idx:List Nat} {i:Nat} {x : α} (h:L[i]? = some x):met L (idx++[i])=met L idx++[x]:=by
 unfold met
 rw [List.filterMap_append]
 simp [h]
theorem met_range {α : Type} (L:List α):met L (List.range L.length)=L:=by
 unfold met
 induction L with
 | nil=>rfl
 | cons x L ih =>
  rw [List.length_cons,List.range_succ_eq_map,List.filterMap_cons]
  simp only [List.getElem?_cons_zero,List.filterMap_map]
  rw [show ((fun i=>(x::L)[i]?) ∘ Nat.succ)=fun i=>L[i]? from funext fun i=>by simp]
  exact congrArg (x :: ·) ih
theorem met_perm {α : Type} {L:List α} {idx jdx:List Nat} (h:idx.Perm jdx):(met L idx).Perm (met L jdx):=h.filterMap _
theorem met_append {α : Type} (L:List α) (a b:List Nat):met L (a++b)=met L a++met L b:=List.filterMap_append ..
theorem met_rest {α : Type} (L:List α) {idx:List Nat} (hn:idx.Nodup) (hlt:∀ i∈idx,i<L.length):(met L idx++met L ((List.range L.length).filter fun i=>!decide (i∈idx))).Perm L:=by
 have hp:(idx++(List.range L.length).filter fun i=>!decide (i∈idx)).Perm (List.range L.length):=by
  rw [List.perm_ext_iff_of_nodup]
  ·intro a
   simp only [List.mem_append,List.mem_filter,List.mem_range,Bool.not_eq_true',decide_eq_false_iff_not]
   constructor
   ·rintro (h | h)
    ·exact hlt a h
    ·exact h.1
   ·intro h
    by_cases ha:a∈idx
    ·exact .inl ha
    ·exact .inr ⟨h,ha⟩
  ·rw [List.nodup_append]
   refine ⟨hn,List.Pairwise.filter _ List.nodup_range,fun a ha c hc=>?_⟩
   simp only [List.mem_filter,Bool.not_eq_true',decide_eq_false_iff_not] at hc
   exact fun e=>hc.2 (e ▸ ha)
  ·exact List.nodup_range
 rw [← met_append]
 exact (met_perm hp).trans (by rw [met_range])
section
variable {P:Program} {R:Post} {Kk:List Lay} {N:NN} {fr l:Fr} {ops:Array Oper} {rest:List Oper} {d:Nat} {dd:Option Nat} {ty:Nat} {pos:String} {af:Array Edge} {g:Option (Nat × Bool)} {x y u:Operand} {T E Tk:TypeId} {c:Code}
variable {w0:World} {M:List Nat} {A:Nat→Prop} {es:List Ent} {j k b rb:Nat} {K V:Type} [DecidableEq K] {kv:K→Value} {vv:V→Value} {L:List (K × V)} {v z:V} {mes:Array MapEntry} {mcl:Nat}
theorem r_rng (hT:P.underlying T=some (.map Tk E)) (hM:FactAt es (MapAt kv b (mpV vv L) mes mcl)) (hx:ev l x=some (.map (some b))) (hd:Nat.blt d N.n=true)
  (h:∀ rb,rb≠b→LJ P R ops rest Kk N ((d,.pointer (some ⟨rb,0,none⟩))::l) (Sat w0 M A (.obj (oneO rb (itObj b mes mcl []))::es))) :
  LJ P R ops (⟨some d,.range T x,ty,pos,af,none⟩::rest) Kk N l (Sat w0 M A es):=by
 intro a w hf hw
 refine wpList_plain rfl fun K' hK=>?_
 unfold Oper.wp
 have m:=hM.get hw
 have hlt:b<w.heap.size:=(Array.getElem?_eq_some_iff.1 m.heap).1
 have:(execOp a.eval ⟨some d,.range T x,ty,pos,af,none⟩).run P w = .ok (.value (.pointer (some ⟨w.heap.size,0,none⟩))) (w.alloc (itObj b mes mcl [])):=by
  simp [execOp,hf.ev hx,Instr.range,run_underlying hT,MapKept.run_getObj_map m.heap,itObj]
 rw [this]
 exact hK _ _ (h w.heap.size (by omega) _ _ (hf.put hd _) (hw.allocO (itObj b mes mcl [])))
theorem p_ent {idx:List Nat} {i:Nat} {kk:K} (hM:FactAt es (MapAt kv b (mpV vv L) mes mcl)) (hk:nth es k=some (.obj (oneO rb (itObj b mes mcl (idx++[i]))))) (hi:L[i]? = some (kk,v)) (hx:ev l x=some (.pointer (some ⟨rb,0,none⟩))) :
  PureOp P N ⟨dd,.entry x,ty,pos,af,g⟩ l (Sat w0 M A es) (.tuple [kv kk,vv v].toArray):=fun a w hf hw=>by
 have m:=hM.get hw
 have hit:w.heap[rb]? = some (itObj b mes mcl (idx++[i])):=hw.objAt hk
 have hi':(mpV vv L)[i]? = some (kk,vv v):=by unfold mpV; rw [List.getElem?_map,hi]; rfl
 have h:=run_entry_own (P:=P) m hit hi'
 simp [execOp,hf.ev hx,h]
theorem r_next {idx:List Nat} (hM:FactAt es (MapAt kv b (mpV vv L) mes mcl)) (hk:nth es k=some (.obj (oneO rb (itObj b mes mcl idx)))) (hrb:rb≠b) (hlt:∀ i∈idx,i<L.length) (hx:ev l x=some (.pointer (some ⟨rb,0,none⟩))) (hd:Nat.blt d N.n=true)
  (h0:(∀ i,i<L.length→i∈idx)→LJ P R ops rest Kk N ((d,.tuple [.bool false].toArray)::l) (Sat w0 M A es))
  (h1:∀ i kk v,i∉idx→L[i]? = some (kk,v)→LJ P R ops rest Kk N ((d,.tuple [.bool true,kv kk,vv v].toArray)::l) (Sat w0 M A (setN es k (.obj (oneO rb (itObj b mes mcl (idx++[i]))))))) :
  LJ P R ops (⟨some d,.next x false,ty,pos,af,none⟩::rest) Kk N l (Sat w0 M A es):=by
 intro a w hf hw
 refine wpList_plain rfl fun K' hK=>?_
 unfold Oper.wp
 have m:=hM.get hw
 have hit:w.heap[rb]? = some (itObj b mes mcl idx):=hw.objAt hk
 have hlen:(mpV vv L).length=L.length:=by simp [mpV]
 rcases run_next_own (P:=P) m hrb hit (by rw [hlen]; exact hlt) ty with ⟨hall,hrun⟩ | ⟨i,kk,v',w',hni,hli,hww,hrun⟩
 ·have:(execOp a.eval ⟨some d,.next x false,ty,pos,af,none⟩).run P w = .ok (.value (.tuple #[.bool false])) w:=by
   simp [execOp,hf.ev hx,hrun]
  rw [this]
  exact hK _ _ (h0 (by rw [hlen] at hall; exact hall) _ _ (hf.put hd _) hw)
 ·have hli':∃ v,L[i]? = some (kk,v)∧v'=vv v:=by
   unfold mpV at hli
   rw [List.getElem?_map] at hli
   cases hL:L[i]? with
   | none=>rw [hL] at hli; cases hli
   | some p =>
    rw [hL] at hli
    simp at hli
    exact ⟨p.2,by rw [← hli.1],hli.2.symm⟩
  obtain ⟨v,hv1,rfl⟩:=hli'
  have:(execOp a.eval ⟨some d,.next x false,ty,pos,af,none⟩).run P w = .ok (.value (.tuple #[.bool true,kv kk,vv v])) (w'.putObj rb (itObj b mes mcl (idx++[i]))):=by
   simp [execOp,hf.ev hx,hrun]
  rw [this]
  have hw':Sat w0 M A es w':=by
   rcases hww with rfl | rfl
   ·exact hw
   ·exact hw.drew
  exact hK _ _ (h1 i kk v hni hv1 _ _ (hf.put hd _) (hw'.putO hk))
theorem cj_mrange {σ γ ρ β : Type} {step:Nat→K × V → σ → Option (Flow σ ρ)} {s0 : σ} {Kf:Flow σ ρ → Option β} {res : β} {bodyc:Code} {b0 b1 r1 tn tc ti ty1 ty2:Nat} {p1 p2:String} {a1 a2:Array Edge} {H:World→Prop}
  (hs:∀ L',L'.Perm L→(rangeM step 0 L' s0).bind Kf=some res) (hrb:rb≠b) (g0 : γ) (l : σ → γ → Fr) (E : σ → γ → List Ent)
  (hl:SubF ((ti,.pointer (some ⟨rb,0,none⟩))::l s0 g0) fr) (hH:∀ w,H w→Sat w0 M A (.obj (oneO rb (itObj b mes mcl []))::E s0 g0) w)
  (hM:∀ s c,FactAt (E s c) (MapAt kv b (mpV vv L) mes mcl))
  (hfr:∀ s c,look (l s c) tc=none∧look (l s c) tn=none∧look (l s c) ti=none) (hne:Nat.beq tc ti=false∧Nat.beq tn ti=false∧Nat.beq tc tn=false) (hb1:Nat.blt tc N.n=true) (hb2:Nat.blt tn N.n=true)
  (after:∀ s c,Kf (.brk s)=some res→NJ P R Kk N (l s c) (Sat w0 M A (E s c)))
  (body:(∀ s c,Kf (.brk s)=some res→NJ P R Kk N (l s c) (Sat w0 M A (E s c)))→∀ (i:Nat) (x:K × V) (s : σ) (c : γ) (idx:List Nat) (ix:Nat) (g:Flow σ ρ),L[ix]? = some (x.1,x.2)→step i x s=some g→∀ J : σ → Prop,(∀ s',g = .nxt s'→J s') →
   (∀ s',g = .brk s'→Kf (.brk s')=some res)→(∀ v,g = .ret v→Kf (.ret v)=some res) →
   ∀ I:Act→World→Prop,(∀ (fr':Fr) (H':World→Prop) (s' : σ) (c' : γ),J s'→SubF ((ti,.pointer (some ⟨rb,0,none⟩))::l s' c') fr'→(∀ w,H' w→Sat w0 M A (.obj (oneO rb (itObj b mes mcl (idx++[ix])))::E s' c') w)→NJ P R (.inv I :: .blk b0::Kk) N fr' H') →
   CJ P R bodyc (.blk b1 :: .inv I :: .blk b0::Kk) N ((ti,.pointer (some ⟨rb,0,none⟩))::l s c) (Sat w0 M A (.obj (oneO rb (itObj b mes mcl (idx++[ix])))::E s c))) :
  CJ P R (.block b0 (.loop (.seq (.region r1 #[⟨some tn,.next (.tmp ti) false,ty1,p1,a1,none⟩,⟨some tc,.extract (.tmp tn) 0,ty2,p2,a2,none⟩] false) (.seq (.cond (.tmp tc) .skip (.exit b0)) (.block b1 bodyc))))) Kk N fr H:=by
 have n1:tc≠ti:=fun e=>by have:=hne.1; rw [e] at this; simp at this
 have n2:tn≠ti:=fun e=>by have:=hne.2.1; rw [e] at this; simp at this
 have n3:tc≠tn:=fun e=>by have:=hne.2.2; rw [e] at this; simp at this
 refine cj_blk (cj_loop (σ:=List Nat × σ × γ) (fun q=>(ti,.pointer (some ⟨rb,0,none⟩))::l q.2.1 q.2.2) (fun q=>Sat w0 M A (.obj (oneO rb (itObj b mes mcl q.1))::E q.2.1 q.2.2))
  (fun n q=>n=L.length - q.1.length∧q.1.Nodup∧(∀ i∈q.1,i<L.length)∧∀ T,(met L q.1++T).Perm L→(rangeM step q.1.length T q.2.1).bind Kf=some res) L.length ([],s0,g0)
  ⟨by simp,List.nodup_nil,by simp,fun T hT=>hs T (by simpa [met] using hT)⟩ hl hH ?_)
 rintro n ⟨idx,s,c⟩ ⟨hn,hnd,hlt,hrun⟩
 simp only at hn hnd hlt hrun
 have le2:∀ v v',FLe ((ti,.pointer (some ⟨rb,0,none⟩))::l s c) ((tc,v)::(tn,v')::(ti,.pointer (some ⟨rb,0,none⟩))::l s c):=by
  intro v v' j u hj
  rw [look_cons]
  by_cases e:tc=j
  ·subst e
   rw [look_cons,if_neg n1.symm,(hfr s c).1] at hj
   cases hj
  ·rw [if_neg e,look_cons]
   by_cases e2:tn=j
   ·subst e2
    rw [look_cons,if_neg n2.symm,(hfr s c).2.1] at hj
    cases hj
   ·rw [if_neg e2]; exact hj
 refine cj_seq (cj_reg (r_next (k:=0) (b:=b) (kv:=kv) (vv:=vv) (L:=L) (mes:=mes) (mcl:=mcl) ((hM s c).cons1) rfl hrb hlt ?_ hb2 (fun hall=>?_) (fun i kk v hni hi=>?_)))
 ·simp only [ev]; rw [look_cons,if_pos rfl]
 ·
  refine lp hb1 (p_ext (vs:=[.bool false]) (v:=.bool false) ?_ rfl) (lj_seq (cj_seq (cj_if_f (c:=.tmp tc) ?_ ?_)))
  ·simp only [ev]; rw [look_cons,if_pos rfl]
  ·simp only [ev]; rw [look_cons,if_pos rfl]
  ·have hperm:(met L idx++[]).Perm L:=by
    rw [List.append_nil]
    have:=met_rest L hnd hlt
    have he:((List.range L.length).filter fun i=>!decide (i∈idx))=[]:=by
     rw [List.filter_eq_nil_iff]
     intro i hi
     have:=hall i (List.mem_range.1 hi)
     simp [this]
    rw [he] at this
    simpa [met] using this
   have hk:=hrun [] hperm
   refine cj_exit (K':=Kk) ?_ (fun a w hf hw=>after s c hk a w (hf.le ?_) (hw.sublist (List.sublist_cons_self _ _)))
   ·simp [target]
   ·intro j u hj
    rw [look_cons,if_neg (fun e=>by subst e; rw [(hfr s c).1] at hj; cases hj),look_cons,if_neg (fun e=>by subst e; rw [(hfr s c).2.1] at hj; cases hj),look_cons,if_neg (fun e=>by subst e; rw [(hfr s c).2.2] at hj; cases hj)]
    exact hj
 ·
  have hil:i<L.length:=(List.getElem?_eq_some_iff.1 hi).1
  have hnd':(idx++[i]).Nodup:=by
   rw [List.nodup_append]
   exact ⟨hnd,by simp,fun a ha c hc=>by simp at hc; subst hc; exact fun e=>hni (e ▸ ha)⟩
  have hlt':∀ j∈idx++[i],j<L.length:=fun j hj=>by
   rcases List.mem_append.1 hj with h | h
   ·exact hlt j h
   ·simp at h; subst h; exact hil
  have hrest:=met_rest L hnd' hlt'
  rw [met_snoc hi] at hrest
  generalize met L ((List.range L.length).filter fun j=>!decide (j∈idx++[i]))=T0 at hrest
  have h0:=hrun ((kk,v)::T0) (by simpa using hrest)
  have hstep:∀ T,(rangeM step idx.length ((kk,v)::T) s)=(step idx.length (kk,v) s).bind fun f=>f.run (fun s'=>rangeM step (idx.length+1) T s') (fun s'=>some (.brk s')) (fun v=>some (.ret v)):=fun T=>rfl
  rw [hstep] at h0
  cases hg:step idx.length (kk,v) s with
  | none=>rw [hg] at h0; cases h0
  | some g =>
   rw [hg] at h0
   refine lp hb1 (p_ext (vs:=[.bool true,kv kk,vv v]) (v:=.bool true) ?_ rfl) (lj_seq (cj_seq (cj_if_t (c:=.tmp tc) ?_ (cj_skip (nj_seq (cj_blk ?_))))))
   ·simp only [ev]; rw [look_cons,if_pos rfl]
   ·simp only [ev]; rw [look_cons,if_pos rfl]
   ·have hbody:=body after idx.length (kk,v) s c idx i g hi hg (fun s'=>g = .nxt s') (fun s' e=>e) (fun s' e=>by subst e; exact h0) (fun v e=>by subst e; exact h0)
     (fun a w=>∃ (n':Nat) (s':List Nat × σ × γ),n'<n∧(n'=L.length - s'.1.length∧s'.1.Nodup∧(∀ i∈s'.1,i<L.length)∧∀ T,(met L s'.1++T).Perm L→(rangeM step s'.1.length T s'.2.1).bind Kf=some res)∧Frm N ((ti,.pointer (some ⟨rb,0,none⟩))::l s'.2.1 s'.2.2) a∧Sat w0 M A (.obj (oneO rb (itObj b mes mcl s'.1))::E s'.2.1 s'.2.2) w)
     (fun fr' H' s' c' hJ hsub hH'=>nj_inv fun a w hf hw=>by
      have hlen:idx.length<L.length:=by
       have:=List.Nodup.length_le_of_subset hnd' (l₂:=List.range L.length) (fun j hj=>List.mem_range.2 (hlt' j hj))
       simp at this; omega
      refine ⟨L.length - (idx++[i]).length,(idx++[i],s',c'),by rw [hn]; simp; omega,⟨rfl,hnd',hlt',fun T hT=>?_⟩,hf.sub hsub,hH' w hw⟩
      have h1:=hrun ((kk,v)::T) (by rw [met_snoc hi] at hT; simpa using hT)
      rw [hstep,hg,hJ] at h1
      have h1:(rangeM step (idx.length+1) T s').bind Kf=some res:=h1
      simpa using h1)
    exact fun a w hf hw=>hbody a w (hf.le (le2 _ _)) hw
end
end Go.J
namespace Go.J
open Go Go.RowKit
set_option linter.unusedSimpArgs false
set_option linter.unusedSectionVars false
def keysCode (TM TK TF TB:Nat) (p q:String):Code :=
 .seq (.region 0 #[⟨some 4,.load TM (.tmp 1),TM,p,#[],none⟩,⟨some 5,.range TM (.tmp 4),0,p,#[⟨0,.data⟩],none⟩] false)
  (.block 0 (.loop (.seq (.region 1 #[⟨some 6,.next (.tmp 5) false,0,p,#[],none⟩,⟨some 7,.extract (.tmp 6) 0,TB,p,#[⟨0,.data⟩],none⟩] false)
   (.seq (.cond (.tmp 7) .skip (.exit 0)) (.block 1 (.seq (.region 2 #[⟨some 8,.entry (.tmp 5),0,p,#[],none⟩,⟨some 9,.extract (.tmp 8) 0,TK,p,#[⟨0,.data⟩],none⟩,⟨some 3,.assign (.tmp 9),TK,p,#[⟨1,.data⟩,⟨0,.phase⟩,⟨1,.phase⟩],none⟩] false)
    (.seq (.region 3 #[⟨some 10,.move (.tmp 0),TF,q,#[],none⟩,⟨some 11,.move (.tmp 3),TK,q,#[],none⟩,⟨some 12,.call { callee:=.value (.tmp 10),args:=#[.tmp 11],argTypes:=#[TK] },TB,q,#[⟨0,.data⟩,⟨1,.data⟩],none⟩,
      ⟨some 13,.unOp .not TB (.tmp 12),TB,q,#[⟨2,.data⟩],none⟩] false) (.cond (.tmp 13) .ret .skip))))))))
section
variable {P:Program} {w0:World} {M:List Nat} {A:Nat→Prop} {K V σ γ ρ β : Type} [DecidableEq K] {kv:K→Value} {vv:V→Value} {L:List (K × V)} {mes:Array MapEntry} {mcl mb:Nat} {fn:Func} {kb bx TM TE TK TF TB by2:Nat} {p q:String} {zs2:List Value}
theorem keys_run (hfn:P.funcs[kb]? = some fn) (hbody:fn.body=some (keysCode TM TK TF TB p q)) (hnt:fn.ntmps=14) (hres:fn.results = #[]) (hT:P.underlying TM=some (.map TK TE)) (hS:TyF P TM false 1 by2 zs2) {lo:Nat} {rc:Loop} (hrp:rc.params.size=1) {o1:OW}
  {step:Nat→K → σ → Option (Flow σ ρ)} {s0 : σ} {Kf:Flow σ ρ → Option β} {res : β} (hs:∀ L',L'.Perm (L.map Prod.fst)→(rangeM step 0 L' s0).bind Kf=some res) (es : σ → γ → List Ent) (g0 : γ)
  (hbx:∀ s c,FactAt (es s c) (BoxS bx TM [.map (some mb)])) (hM:∀ s c,FactAt (es s c) (MapAt kv mb (mpV vv L) mes mcl))
  (round:∀ (i:Nat) (x:K) (s : σ) (c : γ) (g:Flow σ ρ),step i x s=some g→∀ (oi:OW) W,Sat w0 M A (.obj o1 :: .obj (oneO lo (.loop rc)) :: .obj oi::es s c) W →
   RoundIn Fence.wide 0 P lo rc.fn ((rc.params.zip #[kv x]).foldl (fun tmps (t,a)=>tmps.setIfInBounds t a) rc.tmps) rc.assign rc.body W fun e W' =>
    e = .returned (.bool true)∧∃ s' c',g = .nxt s'∧Sat w0 M A (.obj o1 :: .obj (oneO lo (.loop rc)) :: .obj oi::es s' c') W')
  {W:World} (hW:Sat w0 M A (.obj o1 :: .obj (oneO lo (.loop rc))::es s0 g0) W) :
  CallsIn Fence.wide 0 P kb #[.func (.yield lo) #[] #[],.pointer (some ⟨bx,0,none⟩)] W fun e W'=>(∃ v,e = .returned v)∧∃ s c,Kf (.brk s)=some res∧Sat w0 M A (.obj o1 :: .obj (oneO lo (.loop rc))::es s c) W':=by
 refine callsIn_of_wp hfn hbody trivial ?_ rfl
 have hf0:=frm_enter (vs:=[(0,.func (.yield lo) #[] #[]),(1,.pointer (some ⟨bx,0,none⟩))]) (args:=[.func (.yield lo) #[] #[],.pointer (some ⟨bx,0,none⟩)]) hnt rfl ⟨rfl,rfl,trivial⟩
 have ldS:∀ {l:Fr} {d:Option Nat} {ty:Nat} {pos:String} {af:Array Edge} {s : σ} {c : γ},ev l (.tmp 1)=some (.pointer (some ⟨bx,0,none⟩)) →
   PureOp P ⟨14,[]⟩ ⟨d,.load TM (.tmp 1),ty,pos,af,none⟩ l (Sat w0 M A (.obj o1 :: .obj (oneO lo (.loop rc))::es s c)) (.map (some mb)):=by
  intro l d ty pos af s c hx a w hf hw
  have hb:w.heap[bx]? = some (.cells [.map (some mb)].toArray TM (0,0)):=(hbx s c).cons1.cons1.get hw
  have h:w.cell? ⟨bx,0,none⟩=some (.map (some mb)):=by rw [cell_of_row w bx 0 _ _ _ hb]; rfl
  simp [execOp,hf.ev hx,Instr.loadAt,Instr.sureAddr,run_loadVar_s hS h]
 refine wpIn_seq (wpIn_cj (cj_reg (lp rfl (ldS rfl) (r_rng (vv:=vv) hT (hM s0 g0).cons1.cons1 rfl rfl fun rb hrb=>lj_nil (nj_end fun a w hf hw=>?_)))) hf0 hW)
 have hw:Sat w0 M A (.obj o1 :: .obj (oneO lo (.loop rc)) :: .obj (oneO rb (itObj mb mes mcl []))::es s0 g0) w:=hw.perm ((List.Perm.swap _ _ _).trans (List.Perm.cons _ (List.Perm.swap _ _ _)))
 refine wpIn_block (wpIn_ghost (fun k a w=>∃ (idx:List Nat) (s : σ) (c : γ),k=L.length - idx.length∧idx.Nodup∧(∀ i∈idx,i<L.length)∧(∀ T,(met (L.map Prod.fst) idx++T).Perm (L.map Prod.fst)→(rangeM step idx.length T s).bind Kf=some res) ∧
  Frm ⟨14,[]⟩ [(0,.func (.yield lo) #[] #[]),(1,.pointer (some ⟨bx,0,none⟩)),(5,.pointer (some ⟨rb,0,none⟩))] a∧Sat w0 M A (.obj o1 :: .obj (oneO lo (.loop rc)) :: .obj (oneO rb (itObj mb mes mcl idx))::es s c) w) L.length
  ⟨[],s0,g0,by simp,List.nodup_nil,by simp,fun T hT=>hs T (by simpa [met] using hT),hf.sub ⟨rfl,rfl,rfl,trivial⟩,hw⟩ ?_)
 clear hf hw hW hf0 hs
 rintro k a w ⟨idx,s,c,hk,hnd,hlt,hrun,hf,hw⟩
 refine wpIn_seq (wpIn_cj (cj_reg (r_next (k:=2) (b:=mb) (kv:=kv) (vv:=vv) (L:=L) (mes:=mes) (mcl:=mcl) (hM s c).cons1.cons1.cons1 rfl hrb hlt rfl rfl (fun hall=>lp rfl (p_ext (vs:=[.bool false]) rfl rfl) (lj_nil (nj_end fun a w hf hw=>?_)))
  (fun i kk v hni hi=>lp rfl (p_ext (vs:=[.bool true,kv kk,vv v]) rfl rfl) (lj_nil (nj_end fun a w hf hw=>?_))))) hf hw)
 ·
  refine wpIn_seq (wpIn_cond_false (hf.ev rfl) (wpIn_exit ?_))
  have hperm:(met (L.map Prod.fst) idx++[]).Perm (L.map Prod.fst):=by
   rw [List.append_nil]
   have h1:=met_rest (L.map Prod.fst) hnd (fun i hi=>by rw [List.length_map]; exact hlt i hi)
   have he:((List.range (L.map Prod.fst).length).filter fun i=>!decide (i∈idx))=[]:=by
    rw [List.filter_eq_nil_iff]
    intro i hi
    have:=hall i (by simpa using List.mem_range.1 hi)
    simp [this]
   rw [he] at h1
   simpa [met] using h1
  have hkf:=hrun [] hperm
  show _∧_
  refine ⟨hf.defers,.tuple #[],?_,⟨_,rfl⟩,s,c,hkf,hw.sublist (List.Sublist.cons_cons _ (List.Sublist.cons_cons _ (List.sublist_cons_self _ _)))⟩
  simp [results,hres]
 ·
  have hil:i<L.length:=(List.getElem?_eq_some_iff.1 hi).1
  have hik:(L.map Prod.fst)[i]? = some kk:=by rw [List.getElem?_map,hi]; rfl
  have hnd':(idx++[i]).Nodup:=by
   rw [List.nodup_append]
   exact ⟨hnd,by simp,fun a ha c hc=>by simp at hc; subst hc; exact fun e=>hni (e ▸ ha)⟩
  have hlt':∀ j∈idx++[i],j<L.length:=fun j hj=>by
   rcases List.mem_append.1 hj with h | h
   ·exact hlt j h
   ·simp at h; subst h; exact hil
  have hlen:idx.length<L.length:=by
   have:=List.Nodup.length_le_of_subset hnd' (l₂:=List.range L.length) (fun j hj=>List.mem_range.2 (hlt' j hj))
   simp at this; omega
  have hrest:=met_rest (L.map Prod.fst) hnd' (fun j hj=>by rw [List.length_map]; exact hlt' j hj)
  rw [met_snoc hik] at hrest
  generalize met (L.map Prod.fst) ((List.range (L.map Prod.fst).length).filter fun j=>!decide (j∈idx++[i]))=T0 at hrest
  have h0:=hrun (kk::T0) (by simpa using hrest)
  have hstep:∀ T,(rangeM step idx.length (kk::T) s)=(step idx.length kk s).bind fun f=>f.run (fun s'=>rangeM step (idx.length+1) T s') (fun s'=>some (.brk s')) (fun v=>some (.ret v)):=fun T=>rfl
  rw [hstep] at h0
  cases hg:step idx.length kk s with
  | none=>rw [hg] at h0; cases h0
  | some g =>
   refine wpIn_seq (wpIn_cond_true (hf.ev rfl) (wpIn_skip ?_))
   have hw:Sat w0 M A (.obj o1 :: .obj (oneO lo (.loop rc)) :: .obj (oneO rb (itObj mb mes mcl (idx++[i])))::es s c) w:=hw
   refine wpIn_block (wpIn_seq (wpIn_cj (cj_reg (lp rfl (p_ent (k:=2) (kk:=kk) (v:=v) (vv:=vv) (hM s c).cons1.cons1.cons1 rfl hi rfl) (lp rfl (p_ext (vs:=[kv kk,vv v]) (v:=kv kk) rfl rfl) (lp rfl (p_as (v:=kv kk) rfl) (lj_nil (nj_end fun a w hf hw=>?_)))))) hf hw))
   refine wpIn_seq (wpIn_region ?_)
   show wpOpsIn Fence.wide 0 P _ _ [0,1,2,3] _ _
   refine in_pure rfl rfl rfl rfl (p_mv (v:=.func (.yield lo) #[] #[]) rfl) hf hw fun a hf=>in_pure rfl rfl rfl rfl (p_mv (v:=kv kk) rfl) hf hw fun a hf=>?_
   have hl:w.heap[lo]? = some (.loop rc):=hw.objAt (k:=1) rfl
   unfold wpOpsIn
   simp only [List.getElem?_toArray,List.getElem?_cons_succ,List.getElem?_cons_zero]
   rw [if_pos (by simp [Region.wanted])]
   refine ⟨fun _ _=>trivial,?_⟩
   rw [show Fence.wide.round=none from rfl,Oper.semAt_none]
   have hy:=run_yield (P:=P) (args:=#[kv kk]) hl (by simp [hrp])
   have hcall:(execOp a.eval ⟨some 12,.call { callee:=.value (.tmp 10),args:=#[.tmp 11],argTypes:=#[TK] },TB,q,#[⟨0,.data⟩,⟨1,.data⟩],none⟩).run P w =
     .ok (.round lo rc.fn ((rc.params.zip #[kv kk]).foldl (fun tmps (t,a)=>tmps.setIfInBounds t a) rc.tmps) rc.assign rc.body) w:=by
    have h10:a.eval (.tmp 10) = .func (.yield lo) #[] #[]:=hf.ev rfl
    have h11:a.eval (.tmp 11)=kv kk:=hf.ev rfl
    simp [execOp,resolve,Deferred.ofValue,h10,h11,invoke,hy]
   rw [hcall]
   refine ⟨fun h=>by simp [Fence.wide] at h,(round idx.length kk s c g hg _ w hw).mono ?_⟩
   rintro e w' ⟨rfl,s',c',rfl,hw'⟩
   have hf':=hf.put (d:=12) rfl (.bool true)
   refine in_pure (v:=.bool false) rfl rfl rfl rfl (p_not (b:=true) rfl) hf' hw' fun a hf=>?_
   refine wpIn_cond_false (hf.ev rfl) (wpIn_skip ?_)
   refine ⟨L.length - (idx++[i]).length,by rw [hk]; simp; omega,idx++[i],s',c',rfl,hnd',hlt',fun T hT=>?_,hf.sub ⟨rfl,rfl,rfl,trivial⟩,hw'⟩
   have h1:=hrun (kk::T) (by rw [met_snoc hik] at hT; simpa using hT)
   rw [hstep,hg] at h1
   have h1:(rangeM step (idx.length+1) T s').bind Kf=some res:=h1
   simpa using h1
theorem cj_keys {Rp:Post} {Kk:List Lay} {l:Fr} {H:World→Prop} {n tf p1 b0 b1:Nat} {asg bodyc:Code} (hfn:P.funcs[kb]? = some fn) (hbody:fn.body=some (keysCode TM TK TF TB p q)) (hnt:fn.ntmps=14) (hres:fn.results = #[])
  (hT:P.underlying TM=some (.map TK TE)) (hS:TyF P TM false 1 by2 zs2) (hcf:∀ args w,(callFunc kb args).run P w = .ok (.enter kb args) w)
  (hfv:ev l (.tmp tf)=some (.func (.func kb) #[] [.pointer (some ⟨bx,0,none⟩)].toArray)) (h1:Nat.blt p1 n=true) (hra:rcode asg=true) (hrb:rcode bodyc=true)
  {step:Nat→K → σ → Option (Flow σ ρ)} {s0 : σ} {Kf:Flow σ ρ → Option β} {res : β} (hs:∀ L',L'.Perm (L.map Prod.fst)→(rangeM step 0 L' s0).bind Kf=some res) (es : σ → γ → List Ent) (g0 : γ) (hH:∀ w,H w→Sat w0 M A (es s0 g0) w)
  (hbx:∀ s c,FactAt (es s c) (BoxS bx TM [.map (some mb)])) (hM:∀ s c,FactAt (es s c) (MapAt kv mb (mpV vv L) mes mcl))
  (after:∀ s c D,Kf (.brk s)=some res→NJ P Rp Kk ⟨n,[markOf D]⟩ l (Sat w0 M A (.obj (defO D)::es s c)))
  (body:∀ (i:Nat) (x:K) (s : σ) (c : γ) (g:Flow σ ρ),step i x s=some g→∀ (o1 o2 o3 oi:OW) (I I0:Act→World→Prop),
   (∀ (fr':Fr) (H':World→Prop) (s' : σ) (c' : γ),g = .nxt s'→(∀ w,H' w→Sat w0 M A (.obj o1 :: .obj o3 :: .obj oi::es s' c') w)→NJ P RF [.inv I] ⟨n,[]⟩ fr' H') →
   (∀ (fr':Fr) (H':World→Prop) (es':List Ent),(∀ w,H' w→Sat w0 M A (.obj o1 :: .obj o2::es') w)→CJ P RF (.block b1 bodyc) [.inv I] ⟨n,[]⟩ fr' (Sat w0 M A (.obj o1 :: .obj o3::es'))→NJ P RF [.inv I0] ⟨n,[]⟩ fr' H') →
   CJ P RF asg [.inv I0] ⟨n,[]⟩ ((p1,kv x)::l) (Sat w0 M A (.obj o1 :: .obj o2 :: .obj oi::es s c))) :
  CJ P Rp (.block b0 (.rangeFunc (.tmp tf) #[p1] asg (.block b1 bodyc))) Kk ⟨n,[]⟩ l H:=by
 intro a w hf hw
 refine wpS_block ?_
 show (Code.rangeFunc (.tmp tf) #[p1] asg (.block b1 bodyc)).wp P (Exit.inBlock b0 (QK P Rp Kk)) a w
 rw [← wpIn_wide (n:=0)]
 refine wpIn_rangeFunc fun fnn _=>?_
 let rc:Loop:={ state:=.ready,pending:=none,fn:=fnn,tmps:=a.tmps,params:=#[p1],assign:=asg,body:=.block b1 bodyc,defers:=w.heap.size }
 have hw1:Sat w0 M A (.obj (oneO (w.heap.size+1) (.loop rc)) :: .obj (defO w.heap.size)::es s0 g0) ((w.alloc (.deferred (some []))).alloc (.loop rc)):=by
  have e1:=(hH w hw).allocO (.deferred (some []))
  have e2:=e1.allocO (.loop rc)
  rw [World.size_alloc] at e2
  exact e2
 have hw2:=hw1.picks [1,0] (xs:=.obj (defO w.heap.size) :: .obj (oneO (w.heap.size+1) (.loop rc))::[]) rfl
 have hfe:a.eval (.tmp tf) = .func (.func kb) #[] #[.pointer (some ⟨bx,0,none⟩)]:=hf.ev hfv
 have hperm:Sat w0 M A (.obj (defO w.heap.size) :: .obj (oneO (w.heap.size+1) (.loop rc))::es s0 g0) ((w.alloc (.deferred (some []))).alloc (.loop rc)):=hw1.perm (List.Perm.swap _ _ _)
 clear hw2 hw1
 let W1:=(w.alloc (.deferred (some []))).alloc (.loop rc)
 have hres1:(resolve a.eval (rangeCall (.tmp tf) (w.heap.size+1)) 0).run P W1 = .ok { target:=.fn (.func kb) #[.pointer (some ⟨bx,0,none⟩)],args:=#[.func (.yield (w.heap.size+1)) #[] #[]] } W1:=by
  show (Deferred.ofValue (a.eval (.tmp tf)) _).run P _=_
  rw [hfe]
  simp [Deferred.ofValue,Act.eval]
 have hinv:(invoke (.fn (.func kb) #[.pointer (some ⟨bx,0,none⟩)]) #[.func (.yield (w.heap.size+1)) #[] #[]]).run P W1 = .ok (.enter kb #[.func (.yield (w.heap.size+1)) #[] #[],.pointer (some ⟨bx,0,none⟩)]) W1:=by
  simp [invoke,hcf]
 refine ⟨w.heap.size+1,[markOf w.heap.size],W1,_,W1,kb,_,W1,run_enterLoop_outer _ _ _ _ _,hres1,fun _ _=>trivial,hinv,fun h=>by simp [Fence.wide] at h,?_⟩
 have hdf:a.defers=[]:=hf.defers
 refine (keys_run (o1:=defO w.heap.size) (rc:=rc) hfn hbody hnt hres hT hS rfl hs es g0 hbx hM ?_ hperm).mono ?_
 ·
  intro i x s c g hg oi W hW
  refine roundIn_of_wpIn trivial ?_
  have hl:∀ {es'},∀ {W:World},Sat w0 M A (.obj (defO w.heap.size) :: .obj (oneO (w.heap.size+1) (.loop rc))::es') W→W.heap[w.heap.size+1]? = some (.loop rc):=fun h=>h.objAt (k:=1) rfl
  have hfr:Frm ⟨n,[]⟩ ((p1,kv x)::l) { tmps:=(rc.params.zip #[kv x]).foldl (fun tmps (t,a)=>tmps.setIfInBounds t a) rc.tmps,defers:=[] }:=by
   have e1:=hf.put (d:=p1) h1 (kv x)
   have e2:(a.put (some p1) (kv x))={ tmps:=(rc.params.zip #[kv x]).foldl (fun tmps (t,a)=>tmps.setIfInBounds t a) rc.tmps,defers:=[] }:=by
    simp [Act.put,hdf,rc]
   rw [e2] at e1
   exact e1
  let rb:Loop:={ rc with state:=.busy }
  let I:Act→World→Prop:=fun _ W'=>∃ s' c',g = .nxt s'∧Sat w0 M A (.obj (defO w.heap.size) :: .obj (oneO (w.heap.size+1) (.loop rb)) :: .obj oi::es s' c') W'
  have hb:=body i x s c g hg (defO w.heap.size) (oneO (w.heap.size+1) (.loop rc)) (oneO (w.heap.size+1) (.loop rb)) oi I
   (fun a₁ w₁=>∃ w₂,(Instr.beginRound (w.heap.size+1)).run P w₁ = .ok () w₂∧Code.wpIn (Fence.wide.inRound (w.heap.size+1)) 0 P (.block b1 bodyc)
    (roundPost P (w.heap.size+1) fun e W'=>e = .returned (.bool true)∧∃ s' c',g = .nxt s'∧Sat w0 M A (.obj (defO w.heap.size) :: .obj (oneO (w.heap.size+1) (.loop rc)) :: .obj oi::es s' c') W') a₁ w₂)
   (fun fr' H' s' c' hg' hH'=>nj_inv fun a w _ hw=>⟨s',c',hg',hH' w hw⟩)
   (fun fr' H' es' hH' hc=>nj_inv fun a1 w1 hf1 hw1=>by
    have hs1:=hH' w1 hw1
    refine ⟨_,run_beginRound (hl hs1) rfl,?_⟩
    have hs2:=hs1.putO (k:=1) (o':=.loop rb) rfl
    refine wpIn_mono (wpS_round _ _ (by exact hrb) (fun _ _ h=>h) (hc a1 _ hf1 hs2)) ?_
    intro e a2 w2 h
    cases e with
    | normal =>
     obtain ⟨s',c',hg',hs3⟩:=h
     have hb3:w2.heap[w.heap.size+1]? = some (.loop rb):=hs3.objAt (k:=1) rfl
     exact ⟨_,_,run_endRound none hb3,rfl,s',c',hg',hs3.putO (k:=1) rfl⟩
    | exit id=>exact h.elim
    | goto l=>exact h.elim
    | ret=>exact h.elim
    | panic c=>exact h.elim
    | outgrown=>exact h.elim)
  refine wpIn_mono (wpS_round _ _ hra (fun _ _ h=>h) (hb _ _ hfr hW)) ?_
  intro e a1 w1 h
  cases e <;> first | exact h | exact h.elim
 ·rintro e W ⟨⟨v,rfl⟩,s,c,hfs,hW⟩
  have hl:W.heap[w.heap.size+1]? = some (.loop rc):=hW.objAt (k:=1) rfl
  refine ⟨none,_,run_endLoop hl (by simp [rc]),?_⟩
  have hW2:=hW.putO (k:=1) (o':=.loop { rc with state:=.exhausted }) rfl
  refine after s c w.heap.size hfs _ _ ?_ (hW2.sublist (List.Sublist.cons_cons _ (List.sublist_cons_self _ _)))
  refine ⟨by simp [hdf],hf.size,hf.vals⟩
end
end Go.J
namespace Go.G
open Go Go.J
set_option linter.unusedSimpArgs false
abbrev Bs:=List UInt8
theorem u8_tri (a b:UInt8):a<b∨a=b∨b<a:=by
 rcases Nat.lt_trichotomy a.toNat b.toNat with h | h | h
 ·exact .inl (UInt8.lt_iff_toNat_lt.2 h)
 ·exact .inr (.inl (UInt8.toNat_inj.1 h))
 ·exact .inr (.inr (UInt8.lt_iff_toNat_lt.2 h))
theorem u8_irr (a:UInt8):¬ a<a:=fun h=>by have:=UInt8.lt_iff_toNat_lt.1 h; omega
theorem u8_asym {a b:UInt8} (h:a<b):¬ b<a:=fun h2=>by have:=UInt8.lt_iff_toNat_lt.1 h; have:=UInt8.lt_iff_toNat_lt.1 h2; omega
theorem cb_spec:∀ (a b:Bs),(Lib.compareBytes a b = -1∧a<b)∨(Lib.compareBytes a b=0∧a=b)∨(Lib.compareBytes a b=1∧b<a):=by
 intro a
 induction a with
 | nil =>
  intro b
  cases b with
  | nil=>exact .inr (.inl ⟨rfl,rfl⟩)
  | cons y t=>exact .inl ⟨rfl,List.nil_lt_cons _ _⟩
 | cons x s ih =>
  intro b
  cases b with
  | nil=>exact .inr (.inr ⟨rfl,List.nil_lt_cons _ _⟩)
  | cons y t =>
   unfold Lib.compareBytes
   rcases u8_tri x y with h | rfl | h
   ·rw [if_pos h]; exact .inl ⟨rfl,List.cons_lt_cons_iff.2 (.inl h)⟩
   ·rw [if_neg (u8_irr x),if_neg (u8_irr x)]
    rcases ih t with ⟨h1,h2⟩ | ⟨h1,h2⟩ | ⟨h1,h2⟩
    ·exact .inl ⟨h1,List.cons_lt_cons_iff.2 (.inr ⟨rfl,h2⟩)⟩
    ·exact .inr (.inl ⟨h1,by rw [h2]⟩)
    ·exact .inr (.inr ⟨h1,List.cons_lt_cons_iff.2 (.inr ⟨rfl,h2⟩)⟩)
   ·rw [if_neg (u8_asym h),if_pos h]; exact .inr (.inr ⟨rfl,List.cons_lt_cons_iff.2 (.inl h)⟩)
theorem bs_irr (a:Bs):¬ a<a:=by
 intro h
 induction a with
 | nil=>cases h
 | cons x s ih =>
  rcases List.cons_lt_cons_iff.1 h with h | ⟨-,h⟩
  ·exact u8_irr x h
  ·exact ih h
theorem bs_trans {a b c:Bs} (h1:a<b) (h2:b<c):a<c:=by
 induction a generalizing b c with
 | nil =>
  cases c with
  | nil=>cases b <;> cases h2
  | cons z t=>exact List.nil_lt_cons _ _
 | cons x s ih =>
  cases b with
  | nil=>cases h1
  | cons y t =>
   cases c with
   | nil=>cases h2
   | cons z u =>
    rcases List.cons_lt_cons_iff.1 h1 with h3 | ⟨rfl,h3⟩
    ·rcases List.cons_lt_cons_iff.1 h2 with h4 | ⟨rfl,-⟩
     ·exact List.cons_lt_cons_iff.2 (.inl (UInt8.lt_trans h3 h4))
     ·exact List.cons_lt_cons_iff.2 (.inl h3)
    ·rcases List.cons_lt_cons_iff.1 h2 with h4 | ⟨rfl,h4⟩
     ·exact List.cons_lt_cons_iff.2 (.inl h4)
     ·exact List.cons_lt_cons_iff.2 (.inr ⟨rfl,ih h3 h4⟩)
theorem bs_asym {a b:Bs} (h:a<b):¬ b<a:=fun h2=>bs_irr a (bs_trans h h2)
theorem bs_tri (a b:Bs):a<b∨a=b∨b<a:=by
 rcases cb_spec a b with h | h | h
 ·exact .inl h.2
 ·exact .inr (.inl h.2)
 ·exact .inr (.inr h.2)
theorem bs_le {a b:Bs}:a≤b↔¬ b<a:=Iff.rfl
theorem bs_le_trans {a b c:Bs} (h1:a≤b) (h2:b≤c):a≤c:=by
 rw [bs_le] at *
 intro h
 rcases bs_tri b a with h3 | rfl | h3
 ·exact h1 h3
 ·exact h2 h
 ·exact h2 (bs_trans h h3)
theorem sortS_le (l:List Bs):(l.mergeSort fun x y=>decide (x≤y)).Pairwise fun x y=>x≤y:=by
 have tr:∀ a b c:Bs,decide (a≤b)=true→decide (b≤c)=true→decide (a≤c)=true:=fun a b c h1 h2=>by
  rw [decide_eq_true_eq] at *; exact bs_le_trans h1 h2
 have to:∀ a b:Bs,(decide (a≤b)||decide (b≤a))=true:=fun a b=>by
  rw [Bool.or_eq_true,decide_eq_true_eq,decide_eq_true_eq]
  by_cases h:b<a
  ·exact .inr (fun h2=>bs_asym h h2)
  ·exact .inl h
 exact (List.pairwise_mergeSort tr to l).imp fun h=>by simpa using h
theorem sortS_perm {a b:List Bs} (h:a.Perm b):(a.mergeSort fun x y=>decide (x≤y))=b.mergeSort fun x y=>decide (x≤y) :=
 List.Perm.eq_of_pairwise (fun x y _ _ h1 h2=>by
  rcases bs_tri x y with h3 | h3 | h3
  ·exact (h2 h3).elim
  ·exact h3
  ·exact (h1 h3).elim) (sortS_le a) (sortS_le b) ((List.mergeSort_perm _ _).trans (h.trans (List.mergeSort_perm _ _).symm))
noncomputable def KfP {α ρ : Type} (L:List α) (f:Flow (List α) ρ):Option Unit:=by
 classical exact if ∃ L',L'.Perm L∧f = .brk L' then some () else none
theorem KfP_brk {α ρ : Type} {L s:List α} (h:KfP (ρ:=ρ) L (.brk s)=some ()):s.Perm L:=by
 unfold KfP at h
 split at h
 ·rename_i hx
  obtain ⟨L',h1,h2⟩:=hx
  cases h2
  exact h1
 ·cases h
def appStep {α ρ : Type} (by_:Nat) (_:Nat) (x : α) (u:List α):Option (Flow (List α) ρ):=(appM by_ u [x]).bind fun q=>some (.nxt q)
theorem appStep_all {α ρ : Type} {by_:Nat} (hb:0<by_) {L:List α} (hl:L.length*by_≤140737488355328):∀ L',L'.Perm L→(rangeM (appStep (ρ:=ρ) by_) 0 L' []).bind (KfP L)=some ():=by
 intro L' hL
 have key:∀ (q p:List α) (i:Nat),(p.length+q.length)*by_≤140737488355328→rangeM (appStep (ρ:=ρ) by_) i q p=some (.brk (p++q)):=by
  intro q
  induction q with
  | nil=>intro p i _; simp [rangeM]
  | cons x q ih =>
   intro p i hp
   have h1:appStep (ρ:=ρ) by_ i x p=some (.nxt (p++[x])):=by
    unfold appStep appM
    have:(p.length+[x].length)*by_≤140737488355328:=Nat.le_trans (Nat.mul_le_mul_right _ (by simp)) hp
    have h2:(p.length+[x].length)*1≤(p.length+[x].length)*by_:=Nat.mul_le_mul_left _ hb
    rw [if_pos ⟨this,by unfold maxLen; omega⟩]; rfl
   show ((appStep (ρ:=ρ) by_ i x p).bind _)=_
   rw [h1]
   show rangeM (appStep (ρ:=ρ) by_) (i+1) q (p++[x])=_
   rw [ih (p++[x]) (i+1) (by simpa [Nat.add_assoc,Nat.add_comm 1] using hp)]
   simp
 rw [key L' [] 0 (by rw [hL.length_eq]; simpa using hl)]
 show KfP L (.brk ([]++L'))=_
 unfold KfP
 rw [if_pos ⟨L',hL,by simp⟩]
end Go.G
namespace Go.G
open Go Go.J
set_option linter.unusedSimpArgs false
@[irreducible] def FUEL:Nat:=100000
def growM (by_:Nat) (n:Int):Option Unit:=if 0<n∧n.toNat*by_≤140737488355328∧n.toNat≤maxLen then some () else none
theorem growM_spec {by_:Nat} {n:Int} {u:Unit} (h:growM by_ n=some u):∃ k:Nat,n=k∧0<k∧k*by_≤140737488355328∧k≤maxLen:=by
 unfold growM at h
 split at h
 ·rename_i h3
  exact ⟨n.toNat,by omega,by omega,h3.2.1,h3.2.2⟩
 ·cases h
def spareO (T sz b c:Nat):OW:={
 ks:=[b]
 ok:=fun w=>c≤maxLen∧∃ cur:Array Value,w.heap[b]? = some (.cells cur T (0,0))∧cur.size=c*sz
 stay:=fun h hk=>⟨hk.1,by obtain ⟨cur,h1,h2⟩:=hk.2; exact ⟨cur,(h b (by simp)).trans h1,h2⟩⟩
 lt:=fun h k hk=>by
  simp at hk
  subst hk
  obtain ⟨cur,h1,-⟩:=h.2
  exact (Array.getElem?_eq_some_iff.1 h1).1 }
section
variable {P:Program} {α : Type} {R:Rep α} {Rp:Post} {K:List Lay} {N:NN} {l:Fr} {ops:Array Oper} {rest:List Oper} {d:Nat} {dd:Option Nat} {ty:Nat} {pos:String} {af:Array Edge} {g:Option (Nat × Bool)} {x y:Operand} {T Ti by_:Nat} {zs:List Value}
variable {w0:World} {M:List Nat} {A:Nat→Prop} {es:List Ent} {b c k n:Nat} {m:Int} {u:Unit}
theorem p_capN {H:World→Prop} {E:TypeId} (hT:P.underlying T=some (.slice E)) (hx:ev l x=some (.slice none 0 0)) :
  PureOp P N ⟨dd,.call { callee:=.builtin .cap,args:=#[x],argTypes:=#[T] },ty,pos,af,g⟩ l H (.int .i64 0):=fun a w hf hw=>by
 simp [execOp,resolve,invoke,builtin,hf.ev hx,Builtin.cap_,run_underlying hT,goInt]
theorem r_growN {ag:Bool} (hT:P.underlying T=some (.slice R.T)) (hTi:P.underlying Ti=some (.int .i64)) (hE:TyF P R.T ag R.sz by_ zs) (hsz:0<R.sz) (hzs:zs.length=R.sz) (hx:ev l x=some (.slice none 0 0)) (hy:ev l y=some (.int .i64 m)) (hq:growM by_ m=some u) (hd:Nat.blt d N.n=true)
  (h:∀ (b c n:Nat),n≤c→LJ P Rp ops rest K N ((d,.slice (some ⟨b,0,none⟩) n c)::l) (Sat w0 M A (.obj (spareO R.T R.sz b c)::es))) :
  LJ P Rp ops (⟨some d,.call { callee:=.builtin .append,args:=#[x,y],argTypes:=#[T,Ti] },ty,pos,af,none⟩::rest) K N l (Sat w0 M A es):=by
 intro a w hf hw
 obtain ⟨n,rfl,h0,h1,h2⟩:=growM_spec hq
 obtain ⟨i,z,hi,hz,hzc,hs,hb⟩:=hE.info
 have hz2:z.cells.size=R.sz:=by rw [hzc]; simpa using hzs
 refine wpList_plain rfl fun K' hK=>?_
 have hr:=Lib.run_append_nil_zeros (P:=P) w T Ti ty R.T i z .i64 .i64 hT hTi hi hz n h0 (by omega) (by unfold maxLen at h2; omega) (by rw [hb]; omega)
 refine Lib.wp_append_run w x y T Ti rfl _ _ (hf.ev hx) (hf.ev hy) _ _ hr ?_
 have hge:=grownCap_ge w n 0 R.T
 refine hK _ _ (h _ _ _ hge _ _ (hf.put hd _) ?_)
 have hal:=hw.drew.allocO (.cells (Builtin.zeroCells z.cells n++Builtin.zeroCells z.cells (grownCap w n 0 R.T - n)) R.T)
 refine hal.swapO (j:=0) (b:=w.heap.size) rfl rfl rfl ⟨rfl,rfl,rfl,Nat.le_refl _,fun _ _ _=>rfl⟩ ⟨grownCap_le_maxLen w n 0 R.T h2,_,hal.objAt (k:=0) rfl,?_⟩
 simp only [Array.size_append,size_zeroCells',hz2,← Nat.add_mul]
 congr 1
 omega
theorem r_cutG {ag:Bool} (hT:P.underlying T=some (.slice R.T)) (hE:TyF P R.T ag R.sz by_ zs) (hx:ev l x=some (.slice (some ⟨b,0,none⟩) n c)) (hy:ev l y=some (.int .i64 0)) (hnc:n≤c) (hk:nth es k=some (.obj (spareO R.T R.sz b c))) (hd:Nat.blt d N.n=true)
  (h:∀ s':SV,LJ P Rp ops rest K N ((d,s'.v)::l) (Sat w0 M A (setN es k (.row R s'.v [])))) :
  LJ P Rp ops (⟨some d,.slice T x none (some y) none,ty,pos,af,none⟩::rest) K N l (Sat w0 M A es):=by
 intro a w hf hw
 have hB:=run_sliceBounds (P:=P) (w:=w) (c:=c) (n:=n) (a:=0) (b:=0) (lo:=none) (hi:=some (.int .i64 0)) (Nat.le_refl _) (Nat.zero_le _) hnc (.inr ⟨rfl,rfl⟩) (.inl rfl)
 refine wpList_plain rfl fun K' hK=>?_
 unfold Oper.wp
 have e1:evO l (some y)=some (some (.int .i64 0)):=by simp [evO,hy]
 have:(execOp a.eval ⟨some d,.slice T x none (some y) none,ty,pos,af,none⟩).run P w = .ok (.value (SV.v ⟨some ⟨b,0,none⟩,0,c⟩)) w:=by
  have hB2:(Instr.sliceBounds true n c none (some (Value.int IntKind.i64 0)) none).run P w = .ok (0,0,c) w:=hB
  have e2:(Instr.sliceAt T (.slice (some ⟨b,0,none⟩) n c) none (some (.int .i64 0)) none).run P w = .ok (SV.v ⟨some ⟨b,0,none⟩,0,c⟩) w:=by
   simp only [Instr.sliceAt,Sem.run_bind,run_underlying hT,Result.andThen_ok,Instr.slice,hB2,hE.size w,Sem.run_pure]
   simp [Addr.add]
  simp [execOp,hf.ev hx,hf.evO e1,e2]
 rw [this]
 refine hK _ _ (h ⟨some ⟨b,0,none⟩,0,c⟩ _ _ (hf.put hd _) ?_)
 obtain ⟨hm,cur,hcur,hcs⟩:=hw.objAt hk
 refine hw.swap' hk ⟨rfl,rfl,rfl,Nat.le_refl _,fun _ _ _=>rfl⟩ (e':=.row R (SV.v ⟨some ⟨b,0,none⟩,0,c⟩) []) ?_ (by simp [Ent.kl,Value.ownBlock]) ?_ (fun F hF=>by cases hF)
 ·exact ⟨by simp [Rep.cells],.inr ⟨b,c,cur,rfl,Nat.zero_le _,hcur,Nat.zero_le _,hm,hcs,by simp [Rep.cells]⟩⟩
 ·intro q hq
  have:q=b:=by simpa [Ent.kl,Value.ownBlock] using hq
  subst this
  exact ⟨(Array.getElem?_eq_some_iff.1 hcur).1,.inr (by simp [Ent.kl,spareO])⟩
end
end Go.G
namespace Go.J
open Go Go.RowKit
set_option linter.unusedSimpArgs false
set_option linter.unusedSectionVars false
section
variable {K X G:Type} [DecidableEq K]
def repM {V:Type} (l:List (K × V)) (k:K) (v:V):List (K × V):=l.map fun p=>if p.1=k then (k,v) else p
theorem repM_keys {V:Type} (l:List (K × V)) (k:K) (v:V):(repM l k v).map Prod.fst=l.map Prod.fst:=by
 unfold repM
 rw [List.map_map]
 refine List.map_congr_left fun p _=>?_
 simp only [Function.comp]
 by_cases h:p.1=k <;> simp [h]
theorem repM_map {V V':Type} (f:V→V') (l:List (K × V)) (k:K) (v:V):repM (mpV f l) k (f v)=mpV f (repM l k v):=by
 unfold repM mpV
 rw [List.map_map,List.map_map]
 refine List.map_congr_left fun p _=>?_
 simp only [Function.comp]
 by_cases h:p.1=k <;> simp [h]
theorem repM_put {V:Type} {l:List (K × V)} {k:K} (h:hasM l k=true) (v:V):putM l k v=repM l k v:=by unfold putM repM; rw [if_pos h]
theorem repM_none {V:Type} {l:List (K × V)} {k:K} (h:lkM l k=none) (v:V):repM l k v=l:=by
 unfold repM
 refine (List.map_congr_left fun p hp=>?_).trans (List.map_id l)
 have:p.1≠k:=fun e=>by
  unfold lkM at h
  rw [Option.map_eq_none_iff,List.find?_eq_none] at h
  exact h p hp (by simp [e])
 simp [this]
theorem repM_same {V:Type} {l:List (K × V)} {k:K} {v:V} (hn:(l.map Prod.fst).Nodup) (h:lkM l k=some v):repM l k v=l:=by
 unfold repM
 refine (List.map_congr_left fun p hp=>?_).trans (List.map_id l)
 by_cases e:p.1=k
 ·obtain ⟨i,hi,he⟩:=List.getElem_of_mem hp
  have:lkM l k=some p.2:=lkM_some hn i (by rw [List.getElem?_eq_getElem hi,he,← e])
  rw [h] at this
  cases this
  simp only [e,if_true]
  rw [← e]; rfl
 ·simp [e]
theorem lkM_has {V:Type} (l:List (K × V)) (k:K):hasM l k=(lkM l k).isSome:=by
 unfold hasM lkM
 rw [Option.isSome_map,Bool.eq_iff_iff,List.find?_isSome,List.any_eq_true]
theorem lkM_mem {V:Type} {l:List (K × V)} {k:K} {v:V} (h:lkM l k=some v):(k,v)∈l:=by
 unfold lkM at h
 cases hf:l.find? fun p=>decide (p.1=k) with
 | none=>rw [hf] at h; cases h
 | some p =>
  rw [hf] at h
  cases h
  have h1:=List.find?_some hf
  have h2:=List.mem_of_find?_eq_some hf
  simp at h1
  rw [← h1]; exact h2
theorem lkM_put_same {V:Type} (l:List (K × V)) (k:K) (v:V):lkM (putM l k v) k=some v:=by
 unfold putM
 by_cases h:hasM l k=true
 ·rw [if_pos h]
  induction l with
  | nil=>simp [hasM] at h
  | cons p l ih =>
   by_cases e:p.1=k
   ·simp [lkM,List.find?_cons,e]
   ·have h':hasM l k=true:=by simpa [hasM,e] using h
    have:=ih h'
    unfold lkM at this ⊢
    simp only [List.map_cons,e,if_false,List.find?_cons,decide_eq_false e]
    exact this
 ·rw [if_neg h]
  have:lkM l k=none:=by rw [lkM_has] at h; simpa using h
  unfold lkM at this ⊢
  rw [Option.map_eq_none_iff] at this
  rw [List.find?_append,this]
  simp
theorem zipT {V W:Type}:∀ {xs:List (K × V)} {Z:List (K × W)},xs.map Prod.fst=Z.map Prod.fst→∃ T:List (K × (V × W)),xs=mpV Prod.fst T∧Z=mpV Prod.snd T:=by
 intro xs
 induction xs with
 | nil=>intro Z h; cases Z with
  | nil=>exact ⟨[],rfl,rfl⟩
  | cons z Z=>cases h
 | cons x xs ih=>intro Z h; cases Z with
  | nil=>cases h
  | cons z Z =>
   simp only [List.map_cons,List.cons.injEq] at h
   obtain ⟨T,h1,h2⟩:=ih h.2
   exact ⟨(x.1,(x.2,z.2))::T,by rw [h1]; rfl,by rw [h2,mpV,mpV,List.map_cons,h.1]⟩
theorem flatMap_congr {α : Type} {β : Type _} {l:List α} {f g : α → List β} (h:∀ x∈l,f x=g x):l.flatMap f=l.flatMap g:=by
 induction l with
 | nil=>rfl
 | cons x l ih=>rw [List.flatMap_cons,List.flatMap_cons,h x (List.mem_cons_self ..),ih fun y hy=>h y (List.mem_cons_of_mem _ hy)]
def famEs (ents:X→G→List Ent) (xs:List (K × X)) (Z:List (K × G)) (hol:Option K):List Ent :=
 (xs.zip Z).flatMap fun p=>if hol=some p.1.1 then [] else ents p.1.2 p.2.2
def fem (ents:X→G→List Ent) (hol:Option K) (t:K × (X × G)):List Ent:=if hol=some t.1 then [] else ents t.2.1 t.2.2
theorem famEs_T (ents:X→G→List Ent) (T:List (K × (X × G))) (hol:Option K):famEs ents (mpV Prod.fst T) (mpV Prod.snd T) hol=T.flatMap (fem ents hol):=by
 unfold famEs
 induction T with
 | nil=>rfl
 | cons t T ih =>
  have:(mpV Prod.fst (t::T)).zip (mpV Prod.snd (t::T))=((t.1,t.2.1),(t.1,t.2.2))::(mpV Prod.fst T).zip (mpV Prod.snd T):=rfl
  rw [this,List.flatMap_cons,List.flatMap_cons,ih]
  rfl
theorem fem_none {ents:X→G→List Ent} {k:K} {T:List (K × (X × G))} (h:lkM T k=none):T.flatMap (fem ents none)=T.flatMap (fem ents (some k)):=by
 refine flatMap_congr fun t ht=>?_
 have:t.1≠k:=fun e=>by
  unfold lkM at h
  rw [Option.map_eq_none_iff,List.find?_eq_none] at h
  exact h t ht (by simp [e])
 unfold fem
 rw [if_neg (by simp),if_neg (by simpa using fun e=>this e.symm)]
theorem fem_some {ents:X→G→List Ent} {k:K} {v:X × G}:∀ {T:List (K × (X × G))},(T.map Prod.fst).Nodup→lkM T k=some v→(T.flatMap (fem ents none)).Perm (ents v.1 v.2++T.flatMap (fem ents (some k))):=by
 intro T
 induction T with
 | nil=>intro _ h; cases h
 | cons t T ih =>
  intro hn h
  simp only [List.map_cons,List.nodup_cons] at hn
  rw [List.flatMap_cons,List.flatMap_cons]
  by_cases e:t.1=k
  ·have hv:t.2=v:=by
    unfold lkM at h
    rw [List.find?_cons,decide_eq_true e] at h
    exact Option.some.inj h
   have hno:lkM T k=none:=lkM_none fun p hp e'=>hn.1 (by rw [e,← e']; exact List.mem_map_of_mem hp)
   rw [fem_none hno]
   subst hv
   have h1:fem ents (none:Option K) t=ents t.2.1 t.2.2:=if_neg (by simp)
   have h2:fem ents (some k) t=[]:=if_pos (by rw [e])
   rw [h1,h2,List.nil_append]
  ·have h':lkM T k=some v:=by
    unfold lkM at h ⊢
    rw [List.find?_cons,decide_eq_false e] at h
    exact h
   have h1:fem ents (none:Option K) t=ents t.2.1 t.2.2:=if_neg (by simp)
   have h2:fem ents (some k) t=ents t.2.1 t.2.2:=if_neg (by simpa using fun e'=>e e'.symm)
   rw [h1,h2]
   refine ((ih hn.2 h').append_left _).trans ?_
   rw [← List.append_assoc,← List.append_assoc]
   exact List.Perm.append_right _ List.perm_append_comm
theorem fem_put {ents:X→G→List Ent} {k:K} {v:X × G} {T:List (K × (X × G))}:(putM T k v).flatMap (fem ents (some k))=T.flatMap (fem ents (some k)):=by
 unfold putM
 split
 ·rw [List.flatMap_map]
  refine flatMap_congr fun t _=>?_
  by_cases e:t.1=k
  ·have h1:fem ents (some k) t=[]:=if_pos (by rw [e])
   rw [h1]; simp [e,fem]
  ·simp [e]
 ·rw [List.flatMap_append]
  simp [fem]
variable (kv:K→Value) (vv:G→Value) (ents:X→G→List Ent) (b:Nat)
structure FamAt (xs:List (K × X)) (Z:List (K × G)) (hol:Option K) (es:Array MapEntry) (cl:Nat) (w:World):Prop where
 map:MapAt kv b (mpV vv Z) es cl w
 kys:xs.map Prod.fst=Z.map Prod.fst
 own:∀ e∈famEs ents xs Z hol,e.okx w
def famO (xs:List (K × X)) (Z:List (K × G)) (hol:Option K) (es:Array MapEntry) (cl:Nat):OW:={
 ks:=b::keys (famEs ents xs Z hol)
 ok:=FamAt kv vv ents b xs Z hol es cl
 stay:=fun {w w'} h m=>⟨(mapO kv b (mpV vv Z) es cl).stay (fun k hk=>h k (by rw [List.mem_singleton.1 hk]; exact List.mem_cons_self ..)) m.map,m.kys,
  fun e he=>Ent.okx_of_block (m.own e he) fun k hk=>h k (List.mem_cons_of_mem _ (mem_keys.2 ⟨e,he,hk⟩))⟩
 lt:=fun {w} m k hk=>by
  rcases List.mem_cons.1 hk with rfl | hk
  ·exact (Array.getElem?_eq_some_iff.1 m.map.heap).1
  ·obtain ⟨e,he,hek⟩:=mem_keys.1 hk
   exact Ent.okx_lt (m.own e he) hek }
variable {kv vv ents b}
theorem FamAt.ndZ {xs:List (K × X)} {Z:List (K × G)} {hol:Option K} {es:Array MapEntry} {cl:Nat} {w:World} (m:FamAt kv vv ents b xs Z hol es cl w):(Z.map Prod.fst).Nodup:=by
 have:=m.map.nd
 rwa [show (mpV vv Z).map Prod.fst=Z.map Prod.fst by unfold mpV; rw [List.map_map]; rfl] at this
theorem FamAt.has {xs:List (K × X)} {Z:List (K × G)} {hol:Option K} {es:Array MapEntry} {cl:Nat} {w:World} (m:FamAt kv vv ents b xs Z hol es cl w) (k:K):hasM Z k=hasM xs k:=by
 rw [Bool.eq_iff_iff,hasM_iff,hasM_iff,m.kys]
theorem FamAt.len {xs:List (K × X)} {Z:List (K × G)} {hol:Option K} {es:Array MapEntry} {cl:Nat} {w:World} (m:FamAt kv vv ents b xs Z hol es cl w):Z.length=xs.length:=by
 have:=congrArg List.length m.kys
 simpa using this.symm
theorem FamAt.lk {xs:List (K × X)} {Z:List (K × G)} {hol:Option K} {es:Array MapEntry} {cl:Nat} {w:World} (m:FamAt kv vv ents b xs Z hol es cl w) (k:K) :
  (lkM xs k=none∧lkM Z k=none)∨∃ x g,lkM xs k=some x∧lkM Z k=some g:=by
 have h:=m.has k
 rw [lkM_has,lkM_has] at h
 cases h1:lkM xs k with
 | none=>rw [h1] at h; left; exact ⟨rfl,by simpa using h⟩
 | some x =>
  rw [h1] at h
  cases h2:lkM Z k with
  | none=>rw [h2] at h; cases h
  | some g=>exact .inr ⟨x,g,rfl,rfl⟩
theorem famEs_take {xs:List (K × X)} {Z:List (K × G)} {k:K} {x:X} {g:G} (hk:xs.map Prod.fst=Z.map Prod.fst) (hn:(Z.map Prod.fst).Nodup) (hx:lkM xs k=some x) (hg:lkM Z k=some g) :
  (famEs ents xs Z none).Perm (ents x g++famEs ents xs Z (some k)):=by
 obtain ⟨T,rfl,rfl⟩:=zipT hk
 have hT:(T.map Prod.fst).Nodup:=by rwa [show (mpV Prod.snd T).map Prod.fst=T.map Prod.fst by unfold mpV; rw [List.map_map]; rfl] at hn
 rw [lkM_map] at hx hg
 cases hv:lkM T k with
 | none=>rw [hv] at hx; cases hx
 | some v =>
  rw [hv] at hx hg
  cases hx; cases hg
  rw [famEs_T,famEs_T]
  exact fem_some hT hv
theorem famEs_none {xs:List (K × X)} {Z:List (K × G)} {k:K} (hk:xs.map Prod.fst=Z.map Prod.fst) (hx:lkM xs k=none):famEs ents xs Z none=famEs ents xs Z (some k):=by
 obtain ⟨T,rfl,rfl⟩:=zipT hk
 rw [lkM_map] at hx
 have hv:lkM T k=none:=by simpa using hx
 rw [famEs_T,famEs_T]
 exact fem_none hv
theorem putM_nodup {V:Type} {l:List (K × V)} (h:(l.map Prod.fst).Nodup) (k:K) (v:V):((putM l k v).map Prod.fst).Nodup:=by
 rw [putM_keys]
 split
 ·exact h
 ·rename_i hh
  rw [List.nodup_append]
  refine ⟨h,by simp,fun a ha c hc=>?_⟩
  simp at hc; subst hc
  exact fun e=>hh ((hasM_iff l _).2 (e ▸ ha))
theorem famEs_put {xs:List (K × X)} {Z:List (K × G)} {k:K} {x:X} {g:G} (hk:xs.map Prod.fst=Z.map Prod.fst) (hn:(Z.map Prod.fst).Nodup) :
  (famEs ents (putM xs k x) (putM Z k g) none).Perm (ents x g++famEs ents xs Z (some k)):=by
 obtain ⟨T,rfl,rfl⟩:=zipT hk
 have hT:(T.map Prod.fst).Nodup:=by rwa [show (mpV Prod.snd T).map Prod.fst=T.map Prod.fst by unfold mpV; rw [List.map_map]; rfl] at hn
 rw [show putM (mpV Prod.fst T) k x=mpV Prod.fst (putM T k (x,g)) from putM_map Prod.fst T k (x,g),show putM (mpV Prod.snd T) k g=mpV Prod.snd (putM T k (x,g)) from putM_map Prod.snd T k (x,g),famEs_T,famEs_T]
 have h1:=fem_some (ents:=ents) (putM_nodup hT k (x,g)) (lkM_put_same T k (x,g))
 rw [fem_put] at h1
 exact h1
theorem famEs_rep {xs:List (K × X)} {Z:List (K × G)} {k:K} {x:X} {g:G} (hk:xs.map Prod.fst=Z.map Prod.fst) (hn:(Z.map Prod.fst).Nodup) (hg:lkM Z k=some g) :
  (famEs ents (repM xs k x) Z none).Perm (ents x g++famEs ents xs Z (some k)):=by
 have hh:hasM xs k=true:=by rw [hasM_iff,hk,← hasM_iff,lkM_has,hg]; rfl
 have hz:hasM Z k=true:=by rw [lkM_has,hg]; rfl
 have h:=famEs_put (ents:=ents) (k:=k) (x:=x) (g:=g) hk hn
 rw [repM_put hh,repM_put hz,repM_same hn hg] at h
 exact h
end
section
variable {w0 w w':World} {M:List Nat} {A:Nat→Prop} {es es' rs:List Ent}
theorem Sat.regroup (h:Sat w0 M A es w) (hk:(keys es').Nodup) (hsub:∀ k∈keys es',k∈keys es) (hok:∀ e∈es',e.okx w) (hro:∀ F,Ent.ro F∈es'→Ent.ro F∈es):Sat w0 M A es' w :=
 ⟨h.chg,h.dis,hk,fun k hk'=>h.fresh k (hsub k hk'),hok,fun e he=>by
  cases e with
  | ro F=>exact okr_congr (h.okr _ (hro F he)) fun _ hb=>hsub _ hb
  | box b T cs=>trivial
  | row R v xs=>trivial
  | obj o=>trivial⟩
theorem Sat.front {a a':List Ent} (h:Sat w0 M A (a++rs) w) (hp:∃ r,(keys a).Perm (keys a'++r)) (hok:∀ e∈a',e.okx w) (hro:∀ F,Ent.ro F∉a'):Sat w0 M A (a'++rs) w:=by
 obtain ⟨r,hp⟩:=hp
 have hn:=h.nodup
 rw [keys_append] at hn
 have hp2:(keys a++keys rs).Perm (r++(keys a'++keys rs)):=by
  refine (hp.append_right _).trans ?_
  rw [← List.append_assoc]
  exact List.Perm.append_right _ List.perm_append_comm
 have hn2:=hp2.nodup_iff.1 hn
 rw [List.nodup_append] at hn2
 refine h.regroup (by rw [keys_append]; exact hn2.2.1) (fun k hk=>?_) (fun e he=>?_) (fun F hF=>?_)
 ·rw [keys_append] at hk ⊢
  exact hp2.symm.subset (List.mem_append_right _ hk)
 ·rcases List.mem_append.1 he with q | q
  ·exact hok e q
  ·exact h.okx e (List.mem_append_right _ q)
 ·rcases List.mem_append.1 hF with q | q
  ·exact absurd q (hro F)
  ·exact List.mem_append_right _ q
end
section
variable {w0 w w':World} {M:List Nat} {A:Nat→Prop} {es es' rs:List Ent} {K X G:Type} [DecidableEq K] {kv:K→Value} {vv:G→Value} {ents:X→G→List Ent} {b:Nat} {xs:List (K × X)} {Z:List (K × G)} {hol:Option K} {mes:Array MapEntry} {mcl:Nat} {k:K} {x:X} {g:G}
theorem keys_one (o:OW):keys [Ent.obj o]=o.ks:=by simp [keys,Ent.kl]
theorem Sat.famTake (h:Sat w0 M A (.obj (famO kv vv ents b xs Z none mes mcl)::rs) w) (hx:lkM xs k=some x) (hg:lkM Z k=some g) (hro:∀ F,Ent.ro F∉ents x g) :
  Sat w0 M A (ents x g++(.obj (famO kv vv ents b xs Z (some k) mes mcl)::rs)) w:=by
 have m:FamAt kv vv ents b xs Z none mes mcl w:=h.okx _ (List.mem_cons_self ..)
 have hp:=famEs_take (ents:=ents) m.kys m.ndZ hx hg
 have h2:=h.front (a:=[.obj (famO kv vv ents b xs Z none mes mcl)]) (a':=ents x g++[.obj (famO kv vv ents b xs Z (some k) mes mcl)]) (rs:=rs) ⟨[],?_⟩ ?_ ?_
 ·simpa using h2
 ·rw [keys_one,keys_append,keys_one,List.append_nil]
  show (b::keys (famEs ents xs Z none)).Perm (keys (ents x g)++(b::keys (famEs ents xs Z (some k))))
  refine List.Perm.trans ?_ List.perm_middle.symm
  refine List.Perm.cons b ?_
  have:=keys_perm hp
  rwa [keys_append] at this
 ·intro e he
  rcases List.mem_append.1 he with q | q
  ·exact m.own e (hp.symm.subset (List.mem_append_left _ q))
  ·rw [List.mem_singleton.1 q]
   exact ⟨m.map,m.kys,fun e' he'=>m.own e' (hp.symm.subset (List.mem_append_right _ he'))⟩
 ·intro F hF
  rcases List.mem_append.1 hF with q | q
  ·exact hro F q
  ·simp at q
theorem Sat.famGive (h:Sat w0 M A (.obj (famO kv vv ents b xs Z (some k) mes mcl)::(ents x g++rs)) w) (hg:lkM Z k=some g) :
  Sat w0 M A (.obj (famO kv vv ents b (repM xs k x) Z none mes mcl)::rs) w:=by
 have m:FamAt kv vv ents b xs Z (some k) mes mcl w:=h.okx _ (List.mem_cons_self ..)
 have hp:=famEs_rep (ents:=ents) (x:=x) m.kys m.ndZ hg
 have h':Sat w0 M A (([.obj (famO kv vv ents b xs Z (some k) mes mcl)]++ents x g)++rs) w:=by simpa using h
 refine h'.front (a':=[.obj (famO kv vv ents b (repM xs k x) Z none mes mcl)]) ⟨[],?_⟩ ?_ ?_
 ·rw [keys_one,keys_append,keys_one,List.append_nil]
  show ((b::keys (famEs ents xs Z (some k)))++keys (ents x g)).Perm (b::keys (famEs ents (repM xs k x) Z none))
  rw [List.cons_append]
  refine List.Perm.cons b ?_
  have:=keys_perm hp
  rw [keys_append] at this
  exact List.perm_append_comm.trans this.symm
 ·intro e he
  rw [List.mem_singleton.1 he]
  refine ⟨m.map,(repM_keys _ _ _).trans m.kys,fun e' he'=>?_⟩
  rcases List.mem_append.1 (hp.subset he') with q | q
  ·exact h.okx e' (List.mem_cons_of_mem _ (List.mem_append_left _ q))
  ·exact m.own e' q
 ·intro F hF; simp at hF
def famP (kv:K→Value) (vv:G→Value) (ents:X→G→List Ent) (b:Nat) (Z:List (K × G)) (xs':List (K × X)) (Z':List (K × G)) (es:Array MapEntry) (cl:Nat):OW:={
 ks:=b::keys (famEs ents xs' Z' none)
 ok:=fun w=>MapAt kv b (mpV vv Z) es cl w∧∀ e∈famEs ents xs' Z' none,e.okx w
 stay:=fun {w w'} h m=>⟨(mapO kv b (mpV vv Z) es cl).stay (fun k hk=>h k (by rw [List.mem_singleton.1 hk]; exact List.mem_cons_self ..)) m.1,
  fun e he=>Ent.okx_of_block (m.2 e he) fun k hk=>h k (List.mem_cons_of_mem _ (mem_keys.2 ⟨e,he,hk⟩))⟩
 lt:=fun {w} m k hk=>by
  rcases List.mem_cons.1 hk with rfl | hk
  ·exact (Array.getElem?_eq_some_iff.1 m.1.heap).1
  ·obtain ⟨e,he,hek⟩:=mem_keys.1 hk
   exact Ent.okx_lt (m.2 e he) hek }
theorem Sat.famPend (h:Sat w0 M A (.obj (famO kv vv ents b xs Z hol mes mcl)::(ents x g++rs)) w) (hh:hol=none∨hol=some k) :
  Sat w0 M A (.obj (famP kv vv ents b Z (putM xs k x) (putM Z k g) mes mcl)::rs) w:=by
 have m:FamAt kv vv ents b xs Z hol mes mcl w:=h.okx _ (List.mem_cons_self ..)
 have hp:=famEs_put (ents:=ents) (k:=k) (x:=x) (g:=g) m.kys m.ndZ
 have hsub:∃ r,(famEs ents xs Z hol).Perm (r++famEs ents xs Z (some k)):=by
  rcases hh with rfl | rfl
  ·rcases m.lk k with ⟨h1,h2⟩ | ⟨x',g',h1,h2⟩
   ·exact ⟨[],by rw [← famEs_none m.kys h1]; exact List.Perm.refl _⟩
   ·exact ⟨_,famEs_take (ents:=ents) m.kys m.ndZ h1 h2⟩
  ·exact ⟨[],List.Perm.refl _⟩
 obtain ⟨r,hr⟩:=hsub
 have h':Sat w0 M A (([.obj (famO kv vv ents b xs Z hol mes mcl)]++ents x g)++rs) w:=by simpa using h
 refine h'.front (a':=[.obj (famP kv vv ents b Z (putM xs k x) (putM Z k g) mes mcl)]) ⟨keys r,?_⟩ ?_ ?_
 ·rw [keys_append,keys_one,keys_one]
  show ((b::keys (famEs ents xs Z hol))++keys (ents x g)).Perm ((b::keys (famEs ents (putM xs k x) (putM Z k g) none))++keys r)
  rw [List.cons_append,List.cons_append]
  refine List.Perm.cons b ?_
  have e1:=keys_perm hr
  have e2:=keys_perm hp
  rw [keys_append] at e1 e2
  refine (e1.append_right _).trans (List.Perm.trans ?_ (e2.symm.append_right _))
  rw [List.append_assoc]
  refine List.perm_append_comm.trans ?_
  exact List.Perm.append_right _ List.perm_append_comm
 ·intro e he
  rw [List.mem_singleton.1 he]
  refine ⟨m.map,fun e' he'=>?_⟩
  rcases List.mem_append.1 (hp.subset he') with q | q
  ·exact h.okx e' (List.mem_cons_of_mem _ (List.mem_append_left _ q))
  ·exact m.own e' (hr.symm.subset (List.mem_append_right _ q))
 ·intro F hF; simp at hF
theorem Sat.famPut {es2:Array MapEntry} {cl2:Nat} (h:Sat w0 M A (.obj (famP kv vv ents b Z (putM xs k x) (putM Z k g) mes mcl)::rs) w) (hk:xs.map Prod.fst=Z.map Prod.fst)
  (h2:MapAt kv b (mpV vv (putM Z k g)) es2 cl2 (w.putObj b (.map es2 cl2))):Sat w0 M A (.obj (famO kv vv ents b (putM xs k x) (putM Z k g) none es2 cl2)::rs) (w.putObj b (.map es2 cl2)):=by
 have m:=(h.okx _ (List.mem_cons_self ..):(famP kv vv ents b Z (putM xs k x) (putM Z k g) mes mcl).ok w)
 have hnd:=h.nodup
 rw [keys_cons,List.nodup_append] at hnd
 have hnd1:(b::keys (famEs ents (putM xs k x) (putM Z k g) none)).Nodup:=hnd.1
 have hlt:=(Array.getElem?_eq_some_iff.1 m.1.heap).1
 have hc:Chg [b] w (w.putObj b (.map es2 cl2)):=chg_put m.1.heap
 refine h.swap' (k:=0) (e':=.obj (famO kv vv ents b (putM xs k x) (putM Z k g) none es2 cl2)) rfl ?_ ?_ hnd1 ?_ (fun F hF=>by cases hF)
 ·exact ⟨hc.os,hc.tape,hc.output,hc.size,fun c hc' hn=>hc.block c hc' (fun hm=>hn (by rw [List.mem_singleton.1 hm]; exact List.mem_cons_self ..))⟩
 ·refine ⟨h2,by rw [putM_keys,putM_keys,hk,show hasM xs k=hasM Z k by rw [Bool.eq_iff_iff,hasM_iff,hasM_iff,hk]],fun e he=>Ent.okx_of_block (m.2 e he) fun c hcc=>?_⟩
  refine hc.block c (Ent.okx_lt (m.2 e he) hcc) (fun hm=>?_)
  rw [List.mem_singleton.1 hm] at hcc
  exact (List.nodup_cons.1 hnd1).1 (mem_keys.2 ⟨e,he,hcc⟩)
 ·intro c hcc
  exact ⟨Nat.lt_of_lt_of_le ((famP kv vv ents b Z (putM xs k x) (putM Z k g) mes mcl).lt m c hcc) hc.size,.inr hcc⟩
end
end Go.J
namespace Go.J
open Go Go.RowKit
set_option linter.unusedSimpArgs false
set_option linter.unusedSectionVars false
def rowE {α : Type} (R:Rep α) (xs:List α) (s:SV):List Ent:=[.row R s.v xs]
section
variable {P:Program} {Rp:Post} {Kk:List Lay} {N:NN} {l fr:Fr} {ops:Array Oper} {rest:List Oper} {d:Nat} {dd:Option Nat} {ty:Nat} {pos:String} {af:Array Edge} {g0:Option (Nat × Bool)} {x y u:Operand} {T E Tk:TypeId} {c:Code}
variable {w0:World} {M:List Nat} {A:Nat→Prop} {es rs:List Ent} {j b rb:Nat} {K X G:Type} [DecidableEq K] {kv:K→Value} {vv:G→Value} {ents:X→G→List Ent} {xs:List (K × X)} {Z:List (K × G)} {hol:Option K} {k:K} {z:G} {mes:Array MapEntry} {mcl:Nat}
theorem LJ.sat {H H':World→Prop} (hs:∀ w,H w→H' w) (h:LJ P Rp ops rest Kk N l H'):LJ P Rp ops rest Kk N l H:=fun a w hf hw=>h a w hf (hs w hw)
theorem NJ.sat {H H':World→Prop} (hs:∀ w,H w→H' w) (h:NJ P Rp Kk N l H'):NJ P Rp Kk N l H:=fun a w hf hw=>h a w hf (hs w hw)
theorem r_mkmapF (kv:K→Value) (vv:G→Value) (ents:X→G→List Ent) (hd:Nat.blt d N.n=true) (h:∀ b,LJ P Rp ops rest Kk N ((d,.map (some b))::l) (Sat w0 M A (.obj (famO kv vv ents b [] [] none #[] 0)::es))) :
  LJ P Rp ops (⟨some d,.makeMap T none,ty,pos,af,none⟩::rest) Kk N l (Sat w0 M A es):=by
 intro a w hf hw
 refine wpList_plain rfl fun K' hK=>?_
 unfold Oper.wp
 have:(execOp a.eval ⟨some d,.makeMap T none,ty,pos,af,none⟩).run P w = .ok (.value (.map (some w.heap.size))) (w.alloc (.map #[] 0)):=by
  simp [execOp,Instr.makeMap]
 rw [this]
 refine hK _ _ (h _ _ _ (hf.put hd _) ?_)
 have hal:=hw.allocO (.map #[] 0)
 refine Sat.swapO (b:=w.heap.size) (j:=0) hal rfl rfl rfl (Chg.refl _ _) ?_
 exact ⟨⟨Go.heap_alloc_new w _,rfl,by simp [mpV],by simp,by simp⟩,rfl,by simp [famEs]⟩
theorem r_mpuF {x1:X} {g1:G} (ks:List Nat) (hT:P.underlying T=some (.map Tk E)) (hK:KeyF P Tk kv) (hp:picks ks es=some (.obj (famO kv vv ents b xs Z hol mes mcl)::ents x1 g1,rs)) (hh:hol=none∨hol=some k)
  (hx:ev l x=some (.map (some b))) (hy:ev l y=some (kv k)) (hu:ev l u=some (vv g1))
  (h:∀ es' cl',LJ P Rp ops rest Kk N l (Sat w0 M A (.obj (famO kv vv ents b (putM xs k x1) (putM Z k g1) none es' cl')::rs))) :
  LJ P Rp ops (⟨none,.mapUpdate T x y u,ty,pos,af,none⟩::rest) Kk N l (Sat w0 M A es):=by
 intro a w hf hw
 refine wpList_plain rfl fun K' hKk=>?_
 unfold Oper.wp
 have hw1:Sat w0 M A (.obj (famO kv vv ents b xs Z hol mes mcl)::(ents x1 g1++rs)) w:=hw.perm (picks_perm hp)
 have m:FamAt kv vv ents b xs Z hol mes mcl w:=hw1.okx _ (List.mem_cons_self ..)
 have hw2:=hw1.famPend hh
 obtain ⟨es2,cl2,h1,h2⟩:=run_mapUpdate_own (P:=P) (k:=k) (v:=vv g1) hT hK m.map
 have:(execOp a.eval ⟨none,.mapUpdate T x y u,ty,pos,af,none⟩).run P w = .ok .skip (w.putObj b (.map es2 cl2)):=by
  simp [execOp,hf.ev hx,hf.ev hy,hf.ev hu,h1]
 rw [this]
 rw [putM_map] at h2
 exact hKk _ _ (h es2 cl2 _ _ (hf.put_none undef) (hw2.famPut m.kys h2))
end
section
variable {w0 w:World} {M:List Nat} {A:Nat→Prop} {es rs:List Ent} {b:Nat} {K α : Type} [DecidableEq K] {kv:K→Value} {R:Rep α} {xs:List (K × List α)} {Z:List (K × SV)} {hol:Option K} {k:K} {mes:Array MapEntry} {mcl:Nat} {ys:List α}
theorem FamAt.row (m:FamAt kv SV.v (rowE R) b xs Z hol mes mcl w) (hh:hol≠some k):w.ownsRow 0 R.T R.sz (SV.v ((lkM Z k).getD nilS)) ((lkM xs k).getD []).length (R.cells ((lkM xs k).getD [])):=by
 rcases m.lk k with ⟨h1,h2⟩ | ⟨y,g,h1,h2⟩
 ·rw [h1,h2]; exact World.ownsRow_nil w 0 R.T R.sz
 ·rw [h1,h2]
  refine m.own (.row R g.v y) ?_
  unfold famEs
  have hi:=lkM_mem h1
  obtain ⟨i,hil,hie⟩:=List.getElem_of_mem hi
  have hzl:i<Z.length:=by rw [m.len]; exact hil
  have hk:Z[i].1=k:=by
   have e1:(xs.map Prod.fst)[i]'(by simpa using hil)=(Z.map Prod.fst)[i]'(by simpa using hzl):=by simp only [m.kys]
   simp only [List.getElem_map] at e1
   rw [← e1,hie]
  have hz:Z[i].2=g:=by
   have e2:Z[i]? = some (k,Z[i].2):=by rw [List.getElem?_eq_getElem hzl,← hk]
   have:=lkM_some m.ndZ i e2
   rw [h2] at this
   exact (Option.some.inj this).symm
  refine List.mem_flatMap.2 ⟨(xs[i],Z[i]),List.mem_iff_getElem.2 ⟨i,by rw [List.length_zip]; omega,by rw [List.getElem_zip]⟩,?_⟩
  rw [hie]
  simp only
  rw [if_neg hh,hz]
  exact List.mem_singleton.2 rfl
theorem FamAt.look (m:FamAt kv SV.v (rowE R) b xs Z none mes mcl w) (k:K):RdS R (SV.v ((lkM Z k).getD nilS)) ((lkM xs k).getD []) w:=RdS.of_row (m.row (by simp))
theorem Sat.takeR (h:Sat w0 M A es w) (j:Nat) (hp:pick1 es j=some (.obj (famO kv SV.v (rowE R) b xs Z none mes mcl),rs)) (k:K) :
  Sat w0 M A (.row R (SV.v ((lkM Z k).getD nilS)) ((lkM xs k).getD []) :: .obj (famO kv SV.v (rowE R) b xs Z (some k) mes mcl)::rs) w:=by
 have h1:=h.perm (pick1_perm hp)
 have m:FamAt kv SV.v (rowE R) b xs Z none mes mcl w:=h1.okx _ (List.mem_cons_self ..)
 rcases m.lk k with ⟨h2,h3⟩ | ⟨x,g,h2,h3⟩
 ·rw [h2,h3]
  refine Sat.nil_row ?_ R
  refine h1.front (a:=[.obj (famO kv SV.v (rowE R) b xs Z none mes mcl)]) (a':=[.obj (famO kv SV.v (rowE R) b xs Z (some k) mes mcl)]) (rs:=rs) ⟨[],?_⟩ ?_ ?_
  ·rw [keys_one,keys_one,List.append_nil]
   show (b::keys (famEs (rowE R) xs Z none)).Perm (b::keys (famEs (rowE R) xs Z (some k)))
   rw [famEs_none m.kys h2]
  ·intro e he
   rw [List.mem_singleton.1 he]
   exact ⟨m.map,m.kys,fun e' he'=>m.own e' (by rw [famEs_none m.kys h2]; exact he')⟩
  ·intro F hF; simp at hF
 ·rw [h2,h3]
  exact h1.famTake h2 h3 (fun F hF=>by simp [rowE] at hF)
theorem Sat.giveR (h:Sat w0 M A es w) (ks:List Nat) (hp:J.picks ks es=some ([.obj (famO kv SV.v (rowE R) b xs Z (some k) mes mcl),.row R (SV.v ((lkM Z k).getD nilS)) ys],rs)) :
  Sat w0 M A (.obj (famO kv SV.v (rowE R) b (repM xs k ys) Z none mes mcl)::rs) w:=by
 have h1:Sat w0 M A (.obj (famO kv SV.v (rowE R) b xs Z (some k) mes mcl)::(.row R (SV.v ((lkM Z k).getD nilS)) ys::rs)) w:=h.perm (picks_perm hp)
 have m:FamAt kv SV.v (rowE R) b xs Z (some k) mes mcl w:=h1.okx _ (List.mem_cons_self ..)
 rcases m.lk k with ⟨h2,h3⟩ | ⟨x,g,h2,h3⟩
 ·rw [repM_none h2]
  refine Sat.front (a:=[.obj (famO kv SV.v (rowE R) b xs Z (some k) mes mcl),.row R (SV.v ((lkM Z k).getD nilS)) ys]) (a':=[.obj (famO kv SV.v (rowE R) b xs Z none mes mcl)]) (rs:=rs) h1 ⟨keys [.row R (SV.v ((lkM Z k).getD nilS)) ys],?_⟩ ?_ ?_
  ·rw [keys_cons,keys_one]
   show ((b::keys (famEs (rowE R) xs Z (some k)))++_).Perm ((b::keys (famEs (rowE R) xs Z none))++_)
   rw [famEs_none m.kys h2]
  ·intro e he
   rw [List.mem_singleton.1 he]
   exact ⟨m.map,m.kys,fun e' he'=>m.own e' (by rw [← famEs_none m.kys h2]; exact he')⟩
  ·intro F hF; simp at hF
 ·rw [h3] at h1
  exact Sat.famGive (ents:=rowE R) (x:=ys) (g:=g) h1 h3
end
end Go.J
namespace Go.J
open Go Go.RowKit
set_option linter.unusedSimpArgs false
set_option linter.unusedSectionVars false
def KeptK {K G:Type} (ks:List K) (mes0:Array MapEntry) (mcl0:Nat) (Z:List (K × G)) (mes:Array MapEntry) (mcl:Nat):Prop :=
 Z.map Prod.fst=ks∧mcl=mcl0∧mes.toList.map (·.born)=mes0.toList.map (·.born)
theorem itObj_same {b:Nat} {es es':Array MapEntry} {cl:Nat} {idx:List Nat} (h:es'.toList.map (·.born)=es.toList.map (·.born)):itObj b es' cl idx=itObj b es cl idx:=by
 unfold itObj
 congr 2
 refine List.map_congr_left fun i _=>?_
 unfold bornOf
 have:=congrArg (·[i]?) h
 simp only [List.getElem?_map,Array.getElem?_toList] at this
 rw [this]
section
variable {P:Program} {K:Type} [DecidableEq K] {kv:K→Value} {b:Nat} {l:List (K × Value)} {es:Array MapEntry} {clock:Nat} {w:World} {T E Tk:TypeId} {k:K} {v:Value}
theorem run_mapUpdate_kept (hT:P.underlying T=some (.map Tk E)) (hK:KeyF P Tk kv) (m:MapAt kv b l es clock w) (hh:hasM l k=true) :
  ∃ es',(Instr.mapUpdate T (.map (some b)) (kv k) v).run P w = .ok () (w.putObj b (.map es' clock))∧MapAt kv b (putM l k v) es' clock (w.putObj b (.map es' clock))∧es'.toList.map (·.born)=es.toList.map (·.born):=by
 have hlt:=(Array.getElem?_eq_some_iff.1 m.heap).1
 have hput:∀ o:Obj,(setObj b o).run P w = .ok () (w.putObj b o):=fun o=>by rw [MapKept.run_setObj_map o m.heap]; rfl
 rcases hK.find k w l es.toList m.el with ⟨i,u,h1,h2⟩ | ⟨h1,h2⟩
 ·obtain ⟨e,he,hk,hv⟩:=m.entry h2
  have he':es[i]? = some e:=by simpa using he
  refine ⟨es.modify i fun e=>{ e with key:=kv k,val:=v },?_,?_,?_⟩
  ·simp [Instr.mapUpdate,run_underlying hT,MapKept.run_getObj_map m.heap,hK.chk,h1,he',hk,keyStays hK,hput]
  ·rw [putM_at m.nd i h2]
   exact m.put h2 _ (fun e _=>⟨rfl,rfl⟩) (fun _=>rfl) (World.putObj_heap_same hlt)
  ·rw [Array.toList_modify]; exact mod_born es.toList i _ fun _=>rfl
 ·rw [hasM_none h2] at hh; cases hh
end
section
variable {P:Program} {R:Post} {Kk:List Lay} {N:NN} {l fr:Fr} {ops:Array Oper} {rest:List Oper} {d:Nat} {dd:Option Nat} {ty:Nat} {pos:String} {af:Array Edge} {g0:Option (Nat × Bool)} {x y u:Operand} {T E Tk:TypeId} {c:Code}
variable {w0:World} {M:List Nat} {A:Nat→Prop} {es rs:List Ent} {j n b rb:Nat} {K X G:Type} [DecidableEq K] {kv:K→Value} {vv:G→Value} {ents:X→G→List Ent} {xs:List (K × X)} {Z:List (K × G)} {hol:Option K} {k:K} {z:G} {mes mes0:Array MapEntry} {mcl mcl0:Nat} {ks:List K}
theorem r_mpuK {x1:X} {g1:G} (ps:List Nat) (hT:P.underlying T=some (.map Tk E)) (hK:KeyF P Tk kv) (hp:picks ps es=some (.obj (famO kv vv ents b xs Z hol mes mcl)::ents x1 g1,rs)) (hh:hol=none∨hol=some k) (hZ:hasM Z k=true)
  (hkp:KeptK ks mes0 mcl0 Z mes mcl) (hx:ev l x=some (.map (some b))) (hy:ev l y=some (kv k)) (hu:ev l u=some (vv g1))
  (h:∀ es',KeptK ks mes0 mcl0 (putM Z k g1) es' mcl→LJ P R ops rest Kk N l (Sat w0 M A (.obj (famO kv vv ents b (putM xs k x1) (putM Z k g1) none es' mcl)::rs))) :
  LJ P R ops (⟨none,.mapUpdate T x y u,ty,pos,af,none⟩::rest) Kk N l (Sat w0 M A es):=by
 intro a w hf hw
 refine wpList_plain rfl fun K' hKk=>?_
 unfold Oper.wp
 have hw1:Sat w0 M A (.obj (famO kv vv ents b xs Z hol mes mcl)::(ents x1 g1++rs)) w:=hw.perm (picks_perm hp)
 have m:FamAt kv vv ents b xs Z hol mes mcl w:=hw1.okx _ (List.mem_cons_self ..)
 have hw2:=hw1.famPend hh
 obtain ⟨es2,h1,h2,h3⟩:=run_mapUpdate_kept (P:=P) (k:=k) (v:=vv g1) hT hK m.map (by rw [hasM_map]; exact hZ)
 have:(execOp a.eval ⟨none,.mapUpdate T x y u,ty,pos,af,none⟩).run P w = .ok .skip (w.putObj b (.map es2 mcl)):=by
  simp [execOp,hf.ev hx,hf.ev hy,hf.ev hu,h1]
 rw [this]
 rw [putM_map] at h2
 exact hKk _ _ (h es2 ⟨by rw [putM_keys,if_pos hZ]; exact hkp.1,hkp.2.1,h3.trans hkp.2.2⟩ _ _ (hf.put_none undef) (hw2.famPut m.kys h2))
theorem p_entF {idx:List Nat} {i:Nat} (hM:FactAt es (FamAt kv vv ents b xs Z hol mes mcl)) (hkp:KeptK ks mes0 mcl0 Z mes mcl) (hk:nth es n=some (.obj (oneO rb (itObj b mes0 mcl0 (idx++[i]))))) (hi:ks[i]? = some k) (hx:ev l x=some (.pointer (some ⟨rb,0,none⟩))) :
  PureOp P N ⟨dd,.entry x,ty,pos,af,g0⟩ l (Sat w0 M A es) (.tuple [kv k,vv ((lkM Z k).getD z)].toArray):=fun a w hf hw=>by
 have m:=hM.get hw
 have hit:w.heap[rb]? = some (itObj b mes0 mcl0 (idx++[i])):=hw.objAt hk
 rw [← hkp.2.1,← itObj_same hkp.2.2] at hit
 have hZi:∃ v,Z[i]? = some (k,v):=by
  have h1:=hi
  rw [← hkp.1,List.getElem?_map] at h1
  cases hz:Z[i]? with
  | none=>rw [hz] at h1; cases h1
  | some p=>rw [hz] at h1; cases h1; exact ⟨p.2,rfl⟩
 obtain ⟨v,hv⟩:=hZi
 have hi':(mpV vv Z)[i]? = some (k,vv v):=by unfold mpV; rw [List.getElem?_map,hv]; rfl
 have h:=run_entry_own (P:=P) m.map hit hi'
 rw [lkM_some m.ndZ i hv]
 simp [execOp,hf.ev hx,h]
theorem KeptK.has (h:KeptK ks mes0 mcl0 Z mes mcl) {i:Nat} (hi:ks[i]? = some k):hasM Z k=true:=by
 rw [hasM_iff,h.1]; exact List.mem_of_getElem? hi
theorem KeptK.refl (xs:List (K × X)) (h:xs.map Prod.fst=Z.map Prod.fst):KeptK (xs.map Prod.fst) mes mcl Z mes mcl:=⟨h.symm,rfl,rfl⟩
theorem cj_frange {σ γ ρ β : Type} {step:Nat→K → σ → Option (Flow σ ρ)} {s0 : σ} {Kf:Flow σ ρ → Option β} {res : β} {bodyc:Code} {b0 b1 r1 tn tc ti ty1 ty2:Nat} {p1 p2:String} {a1 a2:Array Edge} {H:World→Prop} (Zc : σ → γ → List (K × G)) (mesc : σ → γ → Array MapEntry) (mclc : σ → γ → Nat)
  (hs:∀ L',L'.Perm ks→(rangeM step 0 L' s0).bind Kf=some res) (hrb:rb≠b) (g0 : γ) (l : σ → γ → Fr) (E : σ → γ → List Ent)
  (hl:SubF ((ti,.pointer (some ⟨rb,0,none⟩))::l s0 g0) fr) (hH:∀ w,H w→Sat w0 M A (.obj (oneO rb (itObj b mes mcl []))::E s0 g0) w)
  (hM:∀ s c,FactAt (E s c) (fun w=>MapAt kv b (mpV vv (Zc s c)) (mesc s c) (mclc s c) w∧KeptK ks mes mcl (Zc s c) (mesc s c) (mclc s c)))
  (hfr:∀ s c,look (l s c) tc=none∧look (l s c) tn=none∧look (l s c) ti=none) (hne:Nat.beq tc ti=false∧Nat.beq tn ti=false∧Nat.beq tc tn=false) (hb1:Nat.blt tc N.n=true) (hb2:Nat.blt tn N.n=true)
  (after:∀ s c,Kf (.brk s)=some res→NJ P R Kk N (l s c) (Sat w0 M A (E s c)))
  (body:(∀ s c,Kf (.brk s)=some res→NJ P R Kk N (l s c) (Sat w0 M A (E s c)))→∀ (i:Nat) (x:K) (s : σ) (c : γ) (idx:List Nat) (ix:Nat) (g:Flow σ ρ),ks[ix]? = some x→step i x s=some g→∀ J : σ → Prop,(∀ s',g = .nxt s'→J s') →
   (∀ s',g = .brk s'→Kf (.brk s')=some res)→(∀ v,g = .ret v→Kf (.ret v)=some res) →
   ∀ I:Act→World→Prop,(∀ (fr':Fr) (H':World→Prop) (s' : σ) (c' : γ),J s'→SubF ((ti,.pointer (some ⟨rb,0,none⟩))::l s' c') fr'→(∀ w,H' w→Sat w0 M A (.obj (oneO rb (itObj b mes mcl (idx++[ix])))::E s' c') w)→NJ P R (.inv I :: .blk b0::Kk) N fr' H') →
   CJ P R bodyc (.blk b1 :: .inv I :: .blk b0::Kk) N ((ti,.pointer (some ⟨rb,0,none⟩))::l s c) (Sat w0 M A (.obj (oneO rb (itObj b mes mcl (idx++[ix])))::E s c))) :
  CJ P R (.block b0 (.loop (.seq (.region r1 #[⟨some tn,.next (.tmp ti) false,ty1,p1,a1,none⟩,⟨some tc,.extract (.tmp tn) 0,ty2,p2,a2,none⟩] false) (.seq (.cond (.tmp tc) .skip (.exit b0)) (.block b1 bodyc))))) Kk N fr H:=by
 have n1:tc≠ti:=fun e=>by have:=hne.1; rw [e] at this; simp at this
 have n2:tn≠ti:=fun e=>by have:=hne.2.1; rw [e] at this; simp at this
 have n3:tc≠tn:=fun e=>by have:=hne.2.2; rw [e] at this; simp at this
 refine cj_blk (cj_loop (σ:=List Nat × σ × γ) (fun q=>(ti,.pointer (some ⟨rb,0,none⟩))::l q.2.1 q.2.2) (fun q=>Sat w0 M A (.obj (oneO rb (itObj b mes mcl q.1))::E q.2.1 q.2.2))
  (fun n q=>n=ks.length - q.1.length∧q.1.Nodup∧(∀ i∈q.1,i<ks.length)∧∀ T,(met ks q.1++T).Perm ks→(rangeM step q.1.length T q.2.1).bind Kf=some res) ks.length ([],s0,g0)
  ⟨by simp,List.nodup_nil,by simp,fun T hT=>hs T (by simpa [met] using hT)⟩ hl hH ?_)
 rintro n ⟨idx,s,c⟩ ⟨hn,hnd,hlt,hrun⟩
 simp only at hn hnd hlt hrun
 have le2:∀ v v',FLe ((ti,.pointer (some ⟨rb,0,none⟩))::l s c) ((tc,v)::(tn,v')::(ti,.pointer (some ⟨rb,0,none⟩))::l s c):=by
  intro v v' j u hj
  rw [look_cons]
  by_cases e:tc=j
  ·subst e
   rw [look_cons,if_neg n1.symm,(hfr s c).1] at hj
   cases hj
  ·rw [if_neg e,look_cons]
   by_cases e2:tn=j
   ·subst e2
    rw [look_cons,if_neg n2.symm,(hfr s c).2.1] at hj
    cases hj
   ·rw [if_neg e2]; exact hj
 intro a0 w1 hf0 hw1
 have hfact:=((hM s c).cons1 (e:=.obj (oneO rb (itObj b mes mcl idx)))).get hw1
 obtain ⟨hk1,hk2,hk3⟩:=hfact.2
 have hit:itObj b mes mcl idx=itObj b (mesc s c) (mclc s c) idx:=by rw [hk2,itObj_same hk3]
 have hit':∀ i,itObj b mes mcl (idx++[i])=itObj b (mesc s c) (mclc s c) (idx++[i]):=fun i=>by rw [hk2,itObj_same hk3]
 have hlen:(Zc s c).length=ks.length:=by rw [← hk1,List.length_map]
 rw [hit] at hw1
 refine (cj_seq (cj_reg (r_next (k:=0) (b:=b) (kv:=kv) (vv:=vv) (L:=Zc s c) (mes:=mesc s c) (mcl:=mclc s c) (((hM s c).imp fun _ h=>h.1).cons1) rfl hrb (by rw [hlen]; exact hlt) ?_ hb2 (fun hall=>?_) (fun i kk v hni hi=>?_)))) a0 w1 hf0 hw1
 ·simp only [ev]; rw [look_cons,if_pos rfl]
 ·
  refine lp hb1 (p_ext (vs:=[.bool false]) (v:=.bool false) ?_ rfl) (lj_seq (cj_seq (cj_if_f (c:=.tmp tc) ?_ ?_)))
  ·simp only [ev]; rw [look_cons,if_pos rfl]
  ·simp only [ev]; rw [look_cons,if_pos rfl]
  ·have hperm:(met ks idx++[]).Perm ks:=by
    rw [List.append_nil]
    have:=met_rest ks hnd hlt
    have he:((List.range ks.length).filter fun i=>!decide (i∈idx))=[]:=by
     rw [List.filter_eq_nil_iff]
     intro i hi
     have:=hall i (by rw [hlen]; exact List.mem_range.1 hi)
     simp [this]
    rw [he] at this
    simpa [met] using this
   have hk:=hrun [] hperm
   refine cj_exit (K':=Kk) ?_ (fun a w hf hw=>after s c hk a w (hf.le ?_) (hw.sublist (List.sublist_cons_self _ _)))
   ·simp [target]
   ·intro j u hj
    rw [look_cons,if_neg (fun e=>by subst e; rw [(hfr s c).1] at hj; cases hj),look_cons,if_neg (fun e=>by subst e; rw [(hfr s c).2.1] at hj; cases hj),look_cons,if_neg (fun e=>by subst e; rw [(hfr s c).2.2] at hj; cases hj)]
    exact hj
 ·
  have hki:ks[i]? = some kk:=by rw [← hk1,List.getElem?_map,hi]; rfl
  have hil:i<ks.length:=(List.getElem?_eq_some_iff.1 hki).1
  have hnd':(idx++[i]).Nodup:=by
   rw [List.nodup_append]
   exact ⟨hnd,by simp,fun a ha c hc=>by simp at hc; subst hc; exact fun e=>hni (e ▸ ha)⟩
  have hlt':∀ j∈idx++[i],j<ks.length:=fun j hj=>by
   rcases List.mem_append.1 hj with h | h
   ·exact hlt j h
   ·simp at h; subst h; exact hil
  have hrest:=met_rest ks hnd' hlt'
  rw [met_snoc hki] at hrest
  generalize met ks ((List.range ks.length).filter fun j=>!decide (j∈idx++[i]))=T0 at hrest
  have h0:=hrun (kk::T0) (by simpa using hrest)
  have hstep:∀ T,(rangeM step idx.length (kk::T) s)=(step idx.length kk s).bind fun f=>f.run (fun s'=>rangeM step (idx.length+1) T s') (fun s'=>some (.brk s')) (fun v=>some (.ret v)):=fun T=>rfl
  rw [hstep] at h0
  cases hg:step idx.length kk s with
  | none=>rw [hg] at h0; cases h0
  | some g =>
   rw [hg] at h0
   refine lp hb1 (p_ext (vs:=[.bool true,kv kk,vv v]) (v:=.bool true) ?_ rfl) (lj_seq (cj_seq (cj_if_t (c:=.tmp tc) ?_ (cj_skip (nj_seq (cj_blk ?_))))))
   ·simp only [ev]; rw [look_cons,if_pos rfl]
   ·simp only [ev]; rw [look_cons,if_pos rfl]
   ·have hbody:=body after idx.length kk s c idx i g hki hg (fun s'=>g = .nxt s') (fun s' e=>e) (fun s' e=>by subst e; exact h0) (fun v e=>by subst e; exact h0)
     (fun a w=>∃ (n':Nat) (s':List Nat × σ × γ),n'<n∧(n'=ks.length - s'.1.length∧s'.1.Nodup∧(∀ i∈s'.1,i<ks.length)∧∀ T,(met ks s'.1++T).Perm ks→(rangeM step s'.1.length T s'.2.1).bind Kf=some res)∧Frm N ((ti,.pointer (some ⟨rb,0,none⟩))::l s'.2.1 s'.2.2) a∧Sat w0 M A (.obj (oneO rb (itObj b mes mcl s'.1))::E s'.2.1 s'.2.2) w)
     (fun fr' H' s' c' hJ hsub hH'=>nj_inv fun a w hf hw=>by
      have hlen:idx.length<ks.length:=by
       have:=List.Nodup.length_le_of_subset hnd' (l₂:=List.range ks.length) (fun j hj=>List.mem_range.2 (hlt' j hj))
       simp at this; omega
      refine ⟨ks.length - (idx++[i]).length,(idx++[i],s',c'),by rw [hn]; simp; omega,⟨rfl,hnd',hlt',fun T hT=>?_⟩,hf.sub hsub,hH' w hw⟩
      have h1:=hrun (kk::T) (by rw [met_snoc hki] at hT; simpa using hT)
      rw [hstep,hg,hJ] at h1
      have h1:(rangeM step (idx.length+1) T s').bind Kf=some res:=h1
      simpa using h1)
    refine fun a w hf hw=>hbody a w (hf.le (le2 _ _)) ?_
    rw [hit']
    exact hw
end
end Go.J
namespace Go.J
open Go Go.RowKit
set_option linter.unusedSimpArgs false
set_option linter.unusedSectionVars false
theorem FactAt.fam {es:List Ent} {K X G:Type} [DecidableEq K] {kv:K→Value} {vv:G→Value} {ents:X→G→List Ent} {b:Nat} {xs:List (K × X)} {Z:List (K × G)} {hol:Option K} {mes:Array MapEntry} {mcl:Nat} (j:Nat)
  (h:nth es j=some (.obj (famO kv vv ents b xs Z hol mes mcl))):FactAt es (FamAt kv vv ents b xs Z hol mes mcl):=.obj j h
def optE {α : Type} (o:Option α) (f : α → List Ent):List Ent:=match o with | none=>[] | some t=>f t
def optV {α : Type} (o:Option α) (v:Value):Value:=match o with | none=>.pointer none | some _=>v
theorem optE_none {α : Type} (f : α → List Ent):optE none f=[]:=rfl
theorem optE_some {α : Type} (t : α) (f : α → List Ent):optE (some t) f=f t:=rfl
theorem optV_none {α : Type} (v:Value):optV (none:Option α) v = .pointer none:=rfl
theorem optV_some {α : Type} (t : α) (v:Value):optV (some t) v=v:=rfl
def optB {α β : Type} (o:Option α) (x:Option β) (f : α → Option β):Option β:=match o with | none=>x | some t=>f t
theorem optB_none {α β : Type} (x:Option β) (f : α → Option β):optB none x f=x:=rfl
theorem optB_some {α β : Type} (t : α) (x:Option β) (f : α → Option β):optB (some t) x f=f t:=rfl
theorem optB_cases {α β : Type} {o:Option α} {x:Option β} {f : α → Option β} {r : β} {C:Prop} (h:optB o x f=some r) (h0:o=none→x=some r→C) (h1:∀ t,o=some t→f t=some r→C):C:=by
 cases o with
 | none=>exact h0 rfl h
 | some t=>exact h1 t rfl h
section
variable {P:Program} {Rp:Post} {Kk:List Lay} {N:NN} {l:Fr} {ops:Array Oper} {rest:List Oper} {d:Nat} {dd:Option Nat} {ty:Nat} {pos:String} {af:Array Edge} {g:Option (Nat × Bool)} {x y u:Operand} {T T' Te E Tk:TypeId} {H:World→Prop}
theorem p_nepn {q:Option Addr} (hT:P.underlying T=some (.pointer Te)) (hx:ev l x=some (.pointer q)) (hy:ev l y=some (.pointer none)):PureOp P N ⟨dd,.binOp .neq T x y T',ty,pos,af,g⟩ l H (.bool (!q.isNone)):=p_bin hx hy fun w=>by
 have hg:(eqGuard .neq T x y (.pointer q) (.pointer none)).run P w = .ok () w:=by cases q <;> simp [eqGuard]
 have h:∀ d,(Op.equalIn (d+1) T (.pointer q) (.pointer none)).run P w = .ok q.isNone w:=fun d=>by
  cases q <;> simp [Op.equalIn,run_underlying hT]
 simp only [binOp]
 simp [hg,Op.equal,Op.maxDepth,h 9999]
end
section
variable {P:Program} {K:Type} [DecidableEq K] {kv:K→Value} {b:Nat} {l:List (K × Value)} {es:Array MapEntry} {clock:Nat} {w:World} {T E Tk:TypeId} {k:K} {v:Value}
theorem map_eraseI {α β : Type} (f : α → β):∀ (l:List α) (i:Nat),(l.eraseIdx i).map f=(l.map f).eraseIdx i
 | [],_=>rfl
 | _::_,0=>rfl
 | x::l,i+1=>by simp [map_eraseI f l i]
theorem delM_none {V:Type} {l:List (K × V)} (h:∀ p∈l,p.1≠k):delM l k=l:=by
 unfold delM
 rw [List.filter_eq_self]
 intro p hp
 simp [h p hp]
theorem delM_at {V:Type} {l:List (K × V)} {u:V} (hn:(l.map Prod.fst).Nodup) (i:Nat) (h:l[i]? = some (k,u)):delM l k=l.eraseIdx i:=by
 induction l generalizing i with
 | nil=>cases h
 | cons p l ih =>
  simp only [List.map_cons,List.nodup_cons] at hn
  cases i with
  | zero =>
   simp at h; subst h
   have h1:delM l k=l:=delM_none fun q hq e=>hn.1 (by have:=List.mem_map_of_mem (f:=Prod.fst) hq; rwa [e] at this)
   unfold delM at h1 ⊢
   simp [h1]
  | succ i =>
   have h':l[i]? = some (k,u):=by simpa using h
   have hne:p.1≠k:=fun e=>hn.1 (by rw [e]; exact List.mem_map.2 ⟨(k,u),List.mem_of_getElem? h',rfl⟩)
   have:=ih hn.2 i h'
   unfold delM at this ⊢
   simp [hne,this]
theorem run_delete_own (hT:P.underlying T=some (.map Tk E)) (hK:KeyF P Tk kv) (m:MapAt kv b l es clock w) (ty Tk':TypeId):∃ es',(Builtin.delete_ #[T,Tk'] ty #[.map (some b),kv k]).run P w = .ok (.tuple #[]) (w.putObj b (.map es' clock))∧MapAt kv b (delM l k) es' clock (w.putObj b (.map es' clock)):=by
 have hlt:=(Array.getElem?_eq_some_iff.1 m.heap).1
 have hput:∀ o:Obj,(setObj b o).run P w = .ok () (w.putObj b o):=fun o=>by rw [MapKept.run_setObj_map o m.heap]; rfl
 rcases hK.find k w l es.toList m.el with ⟨i,u,h1,h2⟩ | ⟨h1,h2⟩
 ·refine ⟨es.eraseIdxIfInBounds i,?_,World.putObj_heap_same hlt,?_,?_,?_,?_⟩
  ·simp [Builtin.delete_,run_underlying hT,MapKept.run_getObj_map m.heap,hK.chk,h1,hput]
  ·rw [delM_at m.nd i h2]
   have:=m.el
   unfold EL at this ⊢
   rw [Array.toList_eraseIdxIfInBounds,map_eraseI,map_eraseI,this]
  ·rw [delM_at m.nd i h2,map_eraseI]
   exact List.Nodup.sublist (List.eraseIdx_sublist _ _) m.nd
  ·rw [Array.toList_eraseIdxIfInBounds]
   exact fun e he=>m.born e ((List.eraseIdx_sublist _ _).subset he)
  ·rw [Array.toList_eraseIdxIfInBounds,map_eraseI]
   exact List.Nodup.sublist (List.eraseIdx_sublist _ _) m.bnd
 ·refine ⟨es,?_,World.putObj_heap_same hlt,?_,?_,m.born,m.bnd⟩
  ·simp [Builtin.delete_,run_underlying hT,MapKept.run_getObj_map m.heap,hK.chk,h1,hput]
  ·rw [delM_none h2]; exact m.el
  ·rw [delM_none h2]; exact m.nd
end
section
variable {P:Program} {Rp:Post} {Kk:List Lay} {N:NN} {l:Fr} {ops:Array Oper} {rest:List Oper} {d:Nat} {dd:Option Nat} {ty:Nat} {pos:String} {af:Array Edge} {x y:Operand} {T T' E Tk:TypeId}
variable {w0:World} {M:List Nat} {A:Nat→Prop} {es:List Ent} {j b:Nat} {K V:Type} [DecidableEq K] {kv:K→Value} {vv:V→Value} {L:List (K × V)} {k:K} {mes:Array MapEntry} {mcl:Nat}
theorem r_del (hT:P.underlying T=some (.map Tk E)) (hK:KeyF P Tk kv) (hj:nth es j=some (.obj (mapO kv b (mpV vv L) mes mcl))) (hx:ev l x=some (.map (some b))) (hy:ev l y=some (kv k))
  (h:∀ es',LJ P Rp ops rest Kk N l (Sat w0 M A (setN es j (.obj (mapO kv b (mpV vv (delM L k)) es' mcl))))) :
  LJ P Rp ops (⟨none,.call { callee:=.builtin .delete,args:=#[x,y],argTypes:=#[T,T'] },ty,pos,af,none⟩::rest) Kk N l (Sat w0 M A es):=by
 intro a w hf hw
 refine wpList_plain rfl fun K' hKk=>?_
 unfold Oper.wp
 have m:MapAt kv b (mpV vv L) mes mcl w:=hw.objAt hj
 obtain ⟨es2,h1,h2⟩:=run_delete_own (P:=P) (k:=k) hT hK m ty T'
 have:(execOp a.eval ⟨none,.call { callee:=.builtin .delete,args:=#[x,y],argTypes:=#[T,T'] },ty,pos,af,none⟩).run P w = .ok (.value (.tuple #[])) (w.putObj b (.map es2 mcl)):=by
  simp [execOp,resolve,invoke,builtin,hf.ev hx,hf.ev hy,h1]
 rw [this]
 rw [delM_map] at h2
 exact hKk _ _ (h es2 _ _ (hf.put_none _) (Sat.swapO hw hj rfl rfl (chg_put m.heap) h2))
end
end Go.J
namespace Go.J
open Go Go.RowKit
section
variable {P:Program} {N:NN} {l:Fr} {dd:Option Nat} {ty:Nat} {pos:String} {af:Array Edge} {g:Option (Nat × Bool)} {x oh om:Operand} {T:TypeId}
variable {w0:World} {M:List Nat} {A:Nat→Prop} {es:List Ent} {α : Type} {R:Rep α} {s:SV} {xs qs:List α} {lo hi:Int} {by_:Nat} {zs:List Value}
end
end Go.J
namespace Go.J
open Go Go.RowKit
set_option linter.unusedSimpArgs false
set_option linter.unusedSectionVars false
def badO:OW:=⟨[],fun _=>False,fun _ h=>h,fun h=>h.elim⟩
def vvP {Q:Type} (h:Q→Nat) (g:Option Q):Value:=match g with | none=>.pointer none | some q=>.pointer (some ⟨h q,0,none⟩)
def entsP {X Q:Type} (f:X→Q→List Ent) (x:X) (g:Option Q):List Ent:=match g with | none=>[.obj badO] | some q=>f x q
section
variable {K X G:Type} [DecidableEq K] {kv:K→Value} {vv:G→Value} {ents:X→G→List Ent} {b:Nat} {xs:List (K × X)} {Z:List (K × G)} {hol:Option K} {mes:Array MapEntry} {mcl:Nat} {k:K} {x:X} {g g':G}
theorem hasM_of {V:Type} {l:List (K × V)} {v:V} (h:lkM l k=some v):hasM l k=true:=by rw [lkM_has,h]; rfl
theorem famEs_rep2 (hk:xs.map Prod.fst=Z.map Prod.fst) (hn:(Z.map Prod.fst).Nodup) (hg:lkM Z k=some g) :
  (famEs ents (repM xs k x) (repM Z k g') none).Perm (ents x g'++famEs ents xs Z (some k)):=by
 have hz:hasM Z k=true:=hasM_of hg
 have hh:hasM xs k=true:=by rw [hasM_iff,hk,← hasM_iff]; exact hz
 have h:=famEs_put (ents:=ents) (k:=k) (x:=x) (g:=g') hk hn
 rwa [repM_put hh,repM_put hz] at h
variable {w0 w:World} {M:List Nat} {A:Nat→Prop} {es rs:List Ent}
theorem Sat.famGiveG (h:Sat w0 M A (.obj (famO kv vv ents b xs Z (some k) mes mcl)::(ents x g'++rs)) w) (hg:lkM Z k=some g) (hv:vv g'=vv g) :
  Sat w0 M A (.obj (famO kv vv ents b (repM xs k x) (repM Z k g') none mes mcl)::rs) w:=by
 have m:FamAt kv vv ents b xs Z (some k) mes mcl w:=h.okx _ (List.mem_cons_self ..)
 have hp:=famEs_rep2 (ents:=ents) (x:=x) (g':=g') m.kys m.ndZ hg
 have h':Sat w0 M A (([.obj (famO kv vv ents b xs Z (some k) mes mcl)]++ents x g')++rs) w:=by simpa using h
 have hmp:mpV vv (repM Z k g')=mpV vv Z:=by
  rw [← repM_map,hv]
  exact repM_same (by rw [show (mpV vv Z).map Prod.fst=Z.map Prod.fst by unfold mpV; rw [List.map_map]; rfl]; exact m.ndZ) (by rw [lkM_map,hg]; rfl)
 refine h'.front (a':=[.obj (famO kv vv ents b (repM xs k x) (repM Z k g') none mes mcl)]) ⟨[],?_⟩ ?_ ?_
 ·rw [keys_one,keys_append,keys_one,List.append_nil]
  show ((b::keys (famEs ents xs Z (some k)))++keys (ents x g')).Perm (b::keys (famEs ents (repM xs k x) (repM Z k g') none))
  rw [List.cons_append]
  refine List.Perm.cons b ?_
  have:=keys_perm hp
  rw [keys_append] at this
  exact List.perm_append_comm.trans this.symm
 ·intro e he
  rw [List.mem_singleton.1 he]
  refine ⟨by rw [hmp]; exact m.map,by rw [repM_keys,repM_keys]; exact m.kys,fun e' he'=>?_⟩
  rcases List.mem_append.1 (hp.subset he') with q | q
  ·exact h.okx e' (List.mem_cons_of_mem _ (List.mem_append_left _ q))
  ·exact m.own e' q
 ·intro F hF; simp at hF
end
section
variable {K X Q:Type} [DecidableEq K] {kv:K→Value} {h:Q→Nat} {f:X→Q→List Ent} {b:Nat} {xs:List (K × X)} {Z:List (K × Option Q)} {hol:Option K} {mes:Array MapEntry} {mcl:Nat} {k:K} {t:X} {q q':Q}
variable {P:Program} {Rp:Post} {Kk:List Lay} {N:NN} {l:Fr} {ops:Array Oper} {rest:List Oper} {d:Nat} {dd:Option Nat} {ty:Nat} {pos:String} {af:Array Edge} {g0:Option (Nat × Bool)} {x y u:Operand} {T E Tk:TypeId} {c:Code}
variable {w0:World} {M:List Nat} {A:Nat→Prop} {es rs:List Ent} {j:Nat}
theorem Sat.takeP {w:World} (hw:Sat w0 M A es w) (hp:pick1 es j=some (.obj (famO kv (vvP h) (entsP f) b xs Z none mes mcl),rs)) (hro:∀ t q F,Ent.ro F∉f t q) :
  (lkM xs k=none∧lkM Z k=none)∨∃ t q,lkM xs k=some t∧lkM Z k=some (some q)∧Sat w0 M A (f t q++(.obj (famO kv (vvP h) (entsP f) b xs Z (some k) mes mcl)::rs)) w:=by
 have h1:=hw.perm (pick1_perm hp)
 have m:FamAt kv (vvP h) (entsP f) b xs Z none mes mcl w:=h1.okx _ (List.mem_cons_self ..)
 rcases m.lk k with h2 | ⟨t,g,h2,h3⟩
 ·exact .inl h2
 ·have hpm:=famEs_take (ents:=entsP f) m.kys m.ndZ h2 h3
  cases g with
  | none=>exact (m.own (.obj badO) (hpm.symm.subset (List.mem_append_left _ (List.mem_cons_self ..)))).elim
  | some q=>exact .inr ⟨t,q,h2,h3,h1.famTake (g:=some q) h2 h3 (fun F=>hro t q F)⟩
theorem r_takeP (j:Nat) (hp:pick1 es j=some (.obj (famO kv (vvP h) (entsP f) b xs Z none mes mcl),rs)) (k:K) (hro:∀ t q F,Ent.ro F∉f t q)
  (h0:lkM xs k=none→lkM Z k=none→LJ P Rp ops rest Kk N l (Sat w0 M A es)) (h1:∀ t q,lkM xs k=some t→lkM Z k=some (some q)→LJ P Rp ops rest Kk N l (Sat w0 M A (f t q++(.obj (famO kv (vvP h) (entsP f) b xs Z (some k) mes mcl)::rs)))) :
  LJ P Rp ops rest Kk N l (Sat w0 M A es):=fun a w hf hw=>by
 rcases hw.takeP (k:=k) hp hro with ⟨e1,e2⟩ | ⟨t,q,e1,e2,e3⟩
 ·exact h0 e1 e2 a w hf hw
 ·exact h1 t q e1 e2 a w hf e3
theorem cj_takeP (j:Nat) (hp:pick1 es j=some (.obj (famO kv (vvP h) (entsP f) b xs Z none mes mcl),rs)) (k:K) (hro:∀ t q F,Ent.ro F∉f t q)
  (h0:lkM xs k=none→lkM Z k=none→CJ P Rp c Kk N l (Sat w0 M A es)) (h1:∀ t q,lkM xs k=some t→lkM Z k=some (some q)→CJ P Rp c Kk N l (Sat w0 M A (f t q++(.obj (famO kv (vvP h) (entsP f) b xs Z (some k) mes mcl)::rs)))) :
  CJ P Rp c Kk N l (Sat w0 M A es):=fun a w hf hw=>by
 rcases hw.takeP (k:=k) hp hro with ⟨e1,e2⟩ | ⟨t,q,e1,e2,e3⟩
 ·exact h0 e1 e2 a w hf hw
 ·exact h1 t q e1 e2 a w hf e3
theorem p_lkP (hT:P.underlying T=some (.map Tk E)) (hK:KeyF P Tk kv) (hz:∀ w,(zeroValue E).run P w = .ok (.pointer none) w) (hj:FactAt es (FamAt kv (vvP h) (entsP f) b xs Z hol mes mcl)) (hq:lkM Z k=some (some q)) (hx:ev l x=some (.map (some b))) (hy:ev l y=some (kv k)) :
  PureOp P N ⟨dd,.lookup T x y false,ty,pos,af,g0⟩ l (Sat w0 M A es) (.pointer (some ⟨h q,0,none⟩)):=fun a w hf hw=>by
 have hh:=p_lkm (dd:=dd) (ty:=ty) (pos:=pos) (af:=af) (g:=g0) (N:=N) (w0:=w0) (M:=M) (A:=A) (vv:=vvP h) (z:=none) hT hK hz (hj.imp fun _ h=>h.map) hx hy a w hf hw
 rw [hq] at hh
 exact hh
theorem p_lkPN (hT:P.underlying T=some (.map Tk E)) (hK:KeyF P Tk kv) (hz:∀ w,(zeroValue E).run P w = .ok (.pointer none) w) (hj:FactAt es (FamAt kv (vvP h) (entsP f) b xs Z hol mes mcl)) (hq:lkM Z k=none) (hx:ev l x=some (.map (some b))) (hy:ev l y=some (kv k)) :
  PureOp P N ⟨dd,.lookup T x y false,ty,pos,af,g0⟩ l (Sat w0 M A es) (.pointer none):=fun a w hf hw=>by
 have hh:=p_lkm (dd:=dd) (ty:=ty) (pos:=pos) (af:=af) (g:=g0) (N:=N) (w0:=w0) (M:=M) (A:=A) (vv:=vvP h) (z:=none) hT hK hz (hj.imp fun _ h=>h.map) hx hy a w hf hw
 rw [hq] at hh
 exact hh
theorem Sat.giveP {w:World} (hw:Sat w0 M A es w) (ks:List Nat) (hp:J.picks ks es=some (.obj (famO kv (vvP h) (entsP f) b xs Z (some k) mes mcl)::f t q',rs)) (hq:lkM Z k=some (some q)) (hv:h q'=h q) :
  Sat w0 M A (.obj (famO kv (vvP h) (entsP f) b (repM xs k t) (repM Z k (some q')) none mes mcl)::rs) w:=by
 have h1:Sat w0 M A (.obj (famO kv (vvP h) (entsP f) b xs Z (some k) mes mcl)::(entsP f t (some q')++rs)) w:=hw.perm (picks_perm hp)
 exact h1.famGiveG hq (by show Value.pointer (some ⟨h q',0,none⟩) = .pointer (some ⟨h q,0,none⟩); rw [hv])
theorem Sat.giveP0 {w:World} (hw:Sat w0 M A es w) (ks:List Nat) (hp:J.picks ks es=some (.obj (famO kv (vvP h) (entsP f) b xs Z (some k) mes mcl)::f t q,rs)) (hx:lkM xs k=some t) (hq:lkM Z k=some (some q)) :
  Sat w0 M A (.obj (famO kv (vvP h) (entsP f) b xs Z none mes mcl)::rs) w:=by
 have h2:=hw.giveP ks hp hq rfl
 have m:FamAt kv (vvP h) (entsP f) b (repM xs k t) (repM Z k (some q)) none mes mcl w:=h2.okx _ (List.mem_cons_self ..)
 have hnZ:(Z.map Prod.fst).Nodup:=by have:=m.ndZ; rwa [repM_keys] at this
 have hnx:(xs.map Prod.fst).Nodup:=by have:=m.kys; rw [repM_keys,repM_keys] at this; rw [this]; exact hnZ
 rwa [repM_same hnx hx,repM_same hnZ hq] at h2
theorem Sat.takeK {w:World} (hw:Sat w0 M A es w) (j:Nat) (hp:pick1 es j=some (.obj (famO kv (vvP h) (entsP f) b xs Z none mes mcl),rs)) (hro:∀ t q F,Ent.ro F∉f t q) (hx:lkM xs k=some t) (hq:lkM Z k=some (some q)) :
  Sat w0 M A (f t q++(.obj (famO kv (vvP h) (entsP f) b xs Z (some k) mes mcl)::rs)) w:=by
 have h1:=hw.perm (pick1_perm hp)
 exact h1.famTake (g:=some q) hx hq (fun F=>hro t q F)
theorem optB_n {α β : Type} {o:Option α} {x:Option β} {f : α → Option β} {r : β} (h:o=none) (hm:optB o x f=some r):x=some r:=by subst h; exact hm
theorem optB_s {α β : Type} {o:Option α} {x:Option β} {f : α → Option β} {r : β} {t : α} (h:o=some t) (hm:optB o x f=some r):f t=some r:=by subst h; exact hm
end
end Go.J
namespace Go.J
open Go Go.RowKit
section
variable {K X Q:Type} [DecidableEq K] {kv:K→Value} {h:Q→Nat} {f:X→Q→List Ent} {b:Nat} {xs:List (K × X)} {Z:List (K × Option Q)} {mes:Array MapEntry} {mcl:Nat} {k:K} {t:X} {q:Q}
end
end Go.J
namespace Go.J
open Go Go.RowKit
set_option linter.unusedSimpArgs false
theorem Sat.newRowC {w0 w:World} {M:List Nat} {A:Nat→Prop} {es:List Ent} {α : Type} (R:Rep α) (h:Sat w0 M A es w) (xs:List α) (cap:Nat) {cs:List Value} (hcs:cs.take (xs.length*R.sz)=R.cells xs) (hcl:cs.length=cap*R.sz) (hle:xs.length≤cap) (hl:cap≤maxLen) :
  Sat w0 M A (.row R (SV.v ⟨some ⟨w.heap.size,0,none⟩,xs.length,cap⟩) xs::es) (w.alloc (.cells cs.toArray R.T)):=by
 have h1:=h.alloc R.T cs
 refine Sat.cast1 (fs:=[.box w.heap.size R.T cs]) (e:=.row R (SV.v ⟨some ⟨w.heap.size,0,none⟩,xs.length,cap⟩) xs) h1 (by simp [keys,Ent.kl,SV.v,Value.ownBlock]) ?_ (fun F hF=>by cases hF)
 have hb:=h1.box (k:=0) rfl
 exact ⟨R.cells_len xs,.inr ⟨w.heap.size,cap,_,rfl,Nat.zero_le _,hb,hle,hl,by rw [List.size_toArray,hcl],hcs⟩⟩
theorem Sat.newRow {w0 w:World} {M:List Nat} {A:Nat→Prop} {es:List Ent} {α : Type} (R:Rep α) (h:Sat w0 M A es w) (xs:List α) {cs:List Value} (hcs:R.cells xs=cs) (hl:xs.length≤maxLen) :
  Sat w0 M A (.row R (SV.v ⟨some ⟨w.heap.size,0,none⟩,xs.length,xs.length⟩) xs::es) (w.alloc (.cells cs.toArray R.T)):=by
 subst hcs
 exact h.newRowC R xs xs.length (by rw [← R.cells_len xs]; exact List.take_length) (R.cells_len xs) (Nat.le_refl _) hl
end Go.J
namespace Go.G
open Go Go.J
set_option linter.unusedSimpArgs false
def makeM {α : Type} (by_:Nat) (z : α) (n:Int):Option (List α):=if 0≤n∧n.toNat*by_≤140737488355328∧n.toNat≤maxLen then some (List.replicate n.toNat z) else none
theorem makeM_spec {α : Type} {by_:Nat} {z : α} {n:Int} {q:List α} (h:makeM by_ z n=some q):∃ k:Nat,n=k∧k*by_≤140737488355328∧k≤maxLen∧q=List.replicate k z:=by
 unfold makeM at h
 split at h
 ·rename_i h3
  cases h
  exact ⟨n.toNat,by omega,h3.2.1,h3.2.2,rfl⟩
 ·cases h
theorem madeCells_enc {α : Type} (R:Rep α) (z : α) (zs:Array Value) (hz:R.enc z=zs.toList) (k:Nat):(madeCells zs (k*R.sz)).toList=R.cells (List.replicate k z):=by
 have hs:zs.size=R.sz:=by rw [← R.len z,hz,Array.length_toList]
 apply List.ext_getElem?
 intro i
 by_cases hi:i<k*R.sz
 ·have hp:=R.pos
  have h1:i / R.sz<k:=(Nat.div_lt_iff_lt_mul hp).2 hi
  have h2:i % R.sz<R.sz:=Nat.mod_lt _ hp
  have h3:=R.cells_get (List.replicate k z) (i / R.sz) (i % R.sz) z (by rw [List.getElem?_replicate]; simp [h1]) h2
  rw [show i / R.sz*R.sz+i % R.sz=i by rw [Nat.mul_comm]; exact Nat.div_add_mod i R.sz] at h3
  rw [h3,hz]
  have h4:i % R.sz<zs.size:=by omega
  have h5:zs[i % R.sz]? = some zs[i % R.sz]:=Array.getElem?_eq_getElem h4
  rw [show (zs.toList)[i % R.sz]? = some zs[i % R.sz] by rw [Array.getElem?_toList]; exact h5]
  simp only [madeCells,Array.getElem?_toList,Array.getElem?_map]
  rw [Array.getElem?_range,if_pos hi]
  simp only [Option.map_some,hs,getElem!_pos zs (i % R.sz) h4]
 ·have h1:(madeCells zs (k*R.sz)).toList.length=k*R.sz:=by simp [madeCells]
  have h2:(R.cells (List.replicate k z)).length=k*R.sz:=by rw [R.cells_len,List.length_replicate]
  rw [List.getElem?_eq_none (by omega),List.getElem?_eq_none (by omega)]
def permS (α : Type):Setoid (List α):=⟨List.Perm,.refl,.symm,.trans⟩
noncomputable def canonQ {α : Type} (q:Quotient (permS α)):List α:=Classical.choose (Quotient.exists_rep q)
noncomputable def canonM {α : Type} (l:List α):List α:=canonQ (Quotient.mk (permS α) l)
theorem canonM_perm {α : Type} (l:List α):(canonM l).Perm l:=Quotient.exact (s:=permS α) (Classical.choose_spec (Quotient.exists_rep (Quotient.mk (permS α) l)))
section
variable {P:Program} {N:NN} {l:Fr} {H:World→Prop} {d:Option Nat} {ty:Nat} {pos:String} {af:Array Edge} {g:Option (Nat × Bool)} {x y:Operand} {m n r:Int} {T T':TypeId} {kk:IntKind}
end
section
variable {P:Program} {α : Type} {R:Rep α} {Rp:Post} {K:List Lay} {N:NN} {l:Fr} {ops:Array Oper} {rest:List Oper} {d:Nat} {ty:Nat} {pos:String} {af:Array Edge} {x y:Operand} {T by_:Nat} {zs:List Value}
variable {w0:World} {M:List Nat} {A:Nat→Prop} {es:List Ent} {m:Int} {q:List α} {z : α}
theorem r_mk {ag:Bool} (hT:P.underlying T=some (.slice R.T)) (hE:TyF P R.T ag R.sz by_ zs) (hz:R.enc z=zs) (hx:ev l x=some (.int .i64 m)) (hy:ev l y=some (.int .i64 m)) (hq:makeM by_ z m=some q) (hd:Nat.blt d N.n=true)
  (h:∀ s:SV,LJ P Rp ops rest K N ((d,s.v)::l) (Sat w0 M A (.row R s.v q::es))) :
  LJ P Rp ops (⟨some d,.makeSlice T x y,ty,pos,af,none⟩::rest) K N l (Sat w0 M A es):=by
 intro a w hf hw
 obtain ⟨k,rfl,h1,h2,rfl⟩:=makeM_spec hq
 obtain ⟨i,zv,hi,hzv,hzc,hs,hb⟩:=hE.info
 refine wpList_plain rfl fun K' hK=>?_
 unfold Oper.wp
 have hml:k≤9223372036854775807:=by unfold maxLen at h2; omega
 have hbk:(by_:Int)*(k:Int)≤281474976710656:=by
  have:((by_*k:Nat):Int)≤281474976710656:=by rw [Nat.mul_comm]; omega
  rwa [Int.natCast_mul] at this
 have hr:=run_make (P:=P) w T R.T i zv hT hi hzv .i64 .i64 k k (by omega) (Int.le_refl _) (by rw [hb]; exact hbk) (by omega)
 have:(execOp a.eval ⟨some d,.makeSlice T x y,ty,pos,af,none⟩).run P w = .ok (.value (.slice (some ⟨w.heap.size,0,none⟩) k k)) (w.alloc (.cells (madeCells zv.cells (k*i.size)) R.T)):=by
  simp [execOp,hf.ev hx,hf.ev hy,hr]
 rw [this]
 refine hK _ _ (h ⟨some ⟨w.heap.size,0,none⟩,k,k⟩ _ _ (hf.put hd _) ?_)
 have hc:=madeCells_enc R z zv.cells (by rw [hz,hzc]) k
 have:=hw.newRow R (List.replicate k z) (cs:=(madeCells zv.cells (k*R.sz)).toList) hc.symm (by rw [List.length_replicate]; exact h2)
 rw [List.length_replicate] at this
 rw [hs]
 simpa using this
theorem r_bsN {n:Nat} {ps:List (Nat × Operand)} {pv:List (Nat × Value)} (R:Rep α) (xs:List α) (hp:evP l ps=some pv) (hn:Nat.beq xs.length n=true) (hm:Nat.ble n 1000000=true)
  (hb:∀ w,(Instr.buildSlice T n pv.toArray).run P w = .ok (.slice (some ⟨w.heap.size,0,none⟩) n n) (w.alloc (.cells (R.cells xs).toArray R.T))) (hd:Nat.blt d N.n=true)
  (h:∀ s:SV,s.a.isNone=false→LJ P Rp ops rest K N ((d,s.v)::l) (Sat w0 M A (.row R s.v xs::es))) :
  LJ P Rp ops (⟨some d,.buildSlice T n ps.toArray,ty,pos,af,none⟩::rest) K N l (Sat w0 M A es):=by
 intro a w hf hw
 have hn':xs.length=n:=by simpa using hn
 have hm':n≤1000000:=by simpa [Nat.ble_eq] using hm
 refine wpList_plain rfl fun K' hK=>?_
 unfold Oper.wp
 have he:=hf.evP hp
 have h2:(ps.toArray.map fun (i,x)=>(i,a.eval x))=pv.toArray:=by rw [← he]; simp
 have:(execOp a.eval ⟨some d,.buildSlice T n ps.toArray,ty,pos,af,none⟩).run P w = .ok (.value (.slice (some ⟨w.heap.size,0,none⟩) n n)) (w.alloc (.cells (R.cells xs).toArray R.T)):=by
  simp [execOp,h2,hb]
 rw [this]
 refine hK _ _ (h ⟨some ⟨w.heap.size,0,none⟩,n,n⟩ rfl _ _ (hf.put hd _) ?_)
 have:=hw.newRow R xs rfl (by unfold maxLen; omega)
 rwa [hn'] at this
theorem r_appN {ag:Bool} {s t:SV} {xs ys qs:List α} {k:Nat} (hs0:s.a.isNone=false) (hT:P.underlying T=some (.slice R.T)) (hE:TyF P R.T ag R.sz by_ zs) (hzs:zs.length=R.sz) (hx:ev l x=some s.v) (hy:ev l y=some t.v) (hk:nth es k=some (.row R s.v xs)) (hr:FactAt es (RdS R t.v ys))
  (hq:appM by_ xs ys=some qs) (hd:Nat.blt d N.n=true) (h:∀ s':SV,s'.a.isNone=false→LJ P Rp ops rest K N ((d,s'.v)::l) (Sat w0 M A (setN es k (.row R s'.v qs)))) :
  LJ P Rp ops (⟨some d,.call { callee:=.builtin .append,args:=#[x,y],argTypes:=#[T,T] },ty,pos,af,none⟩::rest) K N l (Sat w0 M A es):=by
 intro a w hf hw
 obtain ⟨rfl,hb,hb2⟩:=appM_spec hq
 refine wpList_plain rfl fun K' hK=>?_
 unfold Oper.wp
 obtain ⟨s',w',hrun,hown,hc,hkey,hnn⟩:=run_app (P:=P) (ty:=ty) hT hE hzs (hw.row hk) (hr.get hw) hb hb2
 have:(execOp a.eval ⟨some d,.call { callee:=.builtin .append,args:=#[x,y],argTypes:=#[T,T] },ty,pos,af,none⟩).run P w = .ok (.value s'.v) w':=by
  simp [execOp,resolve,invoke,builtin,hf.ev hx,hf.ev hy,hrun]
 rw [this]
 refine hK _ _ (h s' (hnn s rfl hs0) _ _ (hf.put hd _) (hw.swap hk hc hown (fun b hb=>?_) (fun F hF=>by cases hF)))
 exact ⟨(World.ownsRow.lt hown b hb).2,hkey b hb⟩
end
end Go.G
namespace Go.J
open Go Go.RowKit
set_option linter.unusedSimpArgs false
set_option linter.unusedSectionVars false
section
variable {w0 w:World} {M:List Nat} {A:Nat→Prop} {es rest:List Ent}
end
section
variable {P:Program} {α : Type} {R:Rep α} {w0 w:World} {M:List Nat} {A:Nat→Prop} {es rest:List Ent}
end
section
variable {P:Program} {α : Type} {R:Rep α} {Rp:Post} {K:List Lay} {N:NN} {l:Fr} {ops:Array Oper} {rest:List Oper} {d:Nat} {ty:Nat} {pos:String} {af:Array Edge} {x y:Operand} {T by_:Nat} {zs:List Value}
variable {w0:World} {M:List Nat} {A:Nat→Prop} {es rs:List Ent} {s t:SV} {xs ys qs:List α} {k:Nat}
end
end Go.J
namespace Go.J
open Go Go.RowKit
set_option linter.unusedSimpArgs false
set_option linter.unusedSectionVars false
section
variable {α : Type} {R:Rep α} {w0 w:World} {M:List Nat} {A:Nat→Prop} {es rest:List Ent}
end
end Go.J
namespace Go.G
open Go Go.J Go.RowKit
set_option linter.unusedSimpArgs false
set_option linter.unusedSectionVars false
section
variable {α G K:Type} [DecidableEq K] {D:Nst α G} {xs:List (K × α)} {xg:List (K × (α × G))} {w:World} {x z : α} {g gz:G} {k:K}
theorem mk_lk {by_:Nat} {n:Int} {q:List α} (h:makeM by_ z n=some q) (gz:G):∃ qg,makeM by_ (z,gz) n=some qg∧qg.map Prod.fst=q∧∀ p,p∈qg→p=(z,gz):=by
 obtain ⟨m,rfl,h1,h2,rfl⟩:=makeM_spec h
 refine ⟨List.replicate m (z,gz),?_,by simp,fun p hp=>List.eq_of_mem_replicate hp⟩
 unfold makeM
 rw [if_pos (by refine ⟨by omega,by simpa using h1,by simpa using h2⟩)]
 simp
theorem _root_.Go.J.Lk.mk {q : List α} {qg : List (α × G)} (hL : qg.map Prod.fst = q) (hm : ∀ p, p ∈ qg → p = (z, gz)) (h : D.inn (z, gz) w) : Lk D q qg w := ⟨hL, fun p hp => hm p hp ▸ h⟩
theorem cutN_d {α β : Type} {lo hi:Int} {qs:List α} (h:sliceI ([]:List α) lo hi=some qs):sliceI ([]:List β) lo hi=some []:=by
 obtain ⟨p,q,rfl,rfl,hpq,hq,-⟩:=sliceI_spec h
 simp at hq
 unfold sliceI
 rw [if_pos (by simp; omega)]
 simp
def LkM {α G K:Type} (D:Nst α G) (xs:List (K × α)) (xg:List (K × (α × G))) (w:World):Prop:=mpV Prod.fst xg=xs∧∀ p,p∈xg→D.inn p.2 w
theorem lkM_in {V:Type} {l:List (K × V)} {v:V} (h:lkM l k=some v):(k,v)∈l:=by
 unfold lkM at h
 cases hf:l.find? (fun p=>decide (p.1=k)) with
 | none=>rw [hf] at h; cases h
 | some p =>
  rw [hf] at h
  have h1:=List.mem_of_find?_eq_some hf
  have h2:=List.find?_some hf
  simp at h h2
  subst h h2
  exact h1
theorem putM_in {V:Type} {l:List (K × V)} {v:V} {p:K × V} (h:p∈putM l k v):p∈l∨p=(k,v):=by
 unfold putM at h
 split at h
 ·obtain ⟨q,hq,rfl⟩:=List.mem_map.1 h
  split
  ·exact .inr rfl
  ·exact .inl hq
 ·rcases List.mem_append.1 h with h | h
  ·exact .inl h
  ·exact .inr (List.mem_singleton.1 h)
theorem _root_.Go.J.FactRo.nilM {es : List Ent} (K : Type) (D : Nst α G) : FactRo es (LkM D ([] : List (K × α)) []) := .imp (.tru trivial) fun _ _ => ⟨rfl, fun p hp => by cases hp⟩
theorem lkM_dget (hL:mpV Prod.fst xg=xs) (k:K) (z : α) (gz:G):∃ g,(lkM xg k).getD (z,gz)=((lkM xs k).getD z,g):=by
 subst hL
 rw [lkM_map]
 cases lkM xg k with
 | none=>exact ⟨gz,rfl⟩
 | some p=>exact ⟨p.2,rfl⟩
theorem lkM_hasD (hL:mpV Prod.fst xg=xs) (k:K):hasM xg k=hasM xs k:=by rw [← hL,hasM_map]
theorem LkM.dget {y : α × G} (h:LkM D xs xg w) (hz:D.inn (z,gz) w) (hg:(lkM xg k).getD (z,gz)=y):D.inn y w:=by
 subst hg
 cases hl:lkM xg k with
 | none=>exact hz
 | some p=>exact h.2 _ (lkM_in hl)
theorem putM_hL (hL:mpV Prod.fst xg=xs):mpV Prod.fst (putM xg k (x,g))=putM xs k x:=by rw [← hL]; exact (putM_map Prod.fst xg k (x,g)).symm
theorem LkM.put (h:LkM D xs xg w) (h1:D.inn (x,g) w):LkM D (putM xs k x) (putM xg k (x,g)) w:=⟨putM_hL h.1,fun p hp=>by
 rcases putM_in hp with h2 | rfl
 ·exact h.2 p h2
 ·exact h1⟩
end
section
variable {P:Program} {N:NN} {l:Fr} {dd:Option Nat} {ty:Nat} {pos:String} {af:Array Edge} {g:Option (Nat × Bool)} {x y:Operand} {T E Tk:TypeId} {c:Bool}
variable {w0:World} {M:List Nat} {A:Nat→Prop} {es:List Ent} {b:Nat} {K V:Type} [DecidableEq K] {kv:K→Value} {vv:V→Value} {L:List (K × V)} {k:K} {z y0:V} {mes:Array MapEntry} {mcl:Nat}
theorem p_lkoD (hT:P.underlying T=some (.map Tk E)) (hK:KeyF P Tk kv) (hz:∀ w,(zeroValue E).run P w = .ok (vv z) w) (hj:FactAt es (MapAt kv b (mpV vv L) mes mcl)) (hx:ev l x=some (.map (some b))) (hy:ev l y=some (kv k)) (hg:(lkM L k).getD z=y0) (hs:hasM L k=c) :
  PureOp P N ⟨dd,.lookup T x y true,ty,pos,af,g⟩ l (Sat w0 M A es) (.tuple #[vv y0,.bool c]):=by
 subst hg hs
 exact p_lko hT hK hz hj hx hy
end
end Go.G
namespace Go.G
open Go Go.J
theorem c1 {α0:Sort _} {a0 : α0}:a0=a0∧True:=⟨rfl,trivial⟩
theorem c2 {α0:Sort _} {a0 : α0} {α1:Sort _} {a1 : α1}:a0=a0∧a1=a1∧True:=⟨rfl,rfl,trivial⟩
theorem c3 {α0:Sort _} {a0 : α0} {α1:Sort _} {a1 : α1} {α2:Sort _} {a2 : α2}:a0=a0∧a1=a1∧a2=a2∧True:=⟨rfl,rfl,rfl,trivial⟩
theorem c4 {α0:Sort _} {a0 : α0} {α1:Sort _} {a1 : α1} {α2:Sort _} {a2 : α2} {α3:Sort _} {a3 : α3}:a0=a0∧a1=a1∧a2=a2∧a3=a3∧True:=⟨rfl,rfl,rfl,rfl,trivial⟩
theorem c5 {α0:Sort _} {a0 : α0} {α1:Sort _} {a1 : α1} {α2:Sort _} {a2 : α2} {α3:Sort _} {a3 : α3} {α4:Sort _} {a4 : α4}:a0=a0∧a1=a1∧a2=a2∧a3=a3∧a4=a4∧True:=⟨rfl,rfl,rfl,rfl,rfl,trivial⟩
theorem c6 {α0:Sort _} {a0 : α0} {α1:Sort _} {a1 : α1} {α2:Sort _} {a2 : α2} {α3:Sort _} {a3 : α3} {α4:Sort _} {a4 : α4} {α5:Sort _} {a5 : α5}:a0=a0∧a1=a1∧a2=a2∧a3=a3∧a4=a4∧a5=a5∧True:=⟨rfl,rfl,rfl,rfl,rfl,rfl,trivial⟩
theorem c7 {α0:Sort _} {a0 : α0} {α1:Sort _} {a1 : α1} {α2:Sort _} {a2 : α2} {α3:Sort _} {a3 : α3} {α4:Sort _} {a4 : α4} {α5:Sort _} {a5 : α5} {α6:Sort _} {a6 : α6}:a0=a0∧a1=a1∧a2=a2∧a3=a3∧a4=a4∧a5=a5∧a6=a6∧True:=⟨rfl,rfl,rfl,rfl,rfl,rfl,rfl,trivial⟩
theorem c8 {α0:Sort _} {a0 : α0} {α1:Sort _} {a1 : α1} {α2:Sort _} {a2 : α2} {α3:Sort _} {a3 : α3} {α4:Sort _} {a4 : α4} {α5:Sort _} {a5 : α5} {α6:Sort _} {a6 : α6} {α7:Sort _} {a7 : α7}:a0=a0∧a1=a1∧a2=a2∧a3=a3∧a4=a4∧a5=a5∧a6=a6∧a7=a7∧True:=⟨rfl,rfl,rfl,rfl,rfl,rfl,rfl,rfl,trivial⟩
theorem c9 {α0:Sort _} {a0 : α0} {α1:Sort _} {a1 : α1} {α2:Sort _} {a2 : α2} {α3:Sort _} {a3 : α3} {α4:Sort _} {a4 : α4} {α5:Sort _} {a5 : α5} {α6:Sort _} {a6 : α6} {α7:Sort _} {a7 : α7} {α8:Sort _} {a8 : α8}:a0=a0∧a1=a1∧a2=a2∧a3=a3∧a4=a4∧a5=a5∧a6=a6∧a7=a7∧a8=a8∧True:=⟨rfl,rfl,rfl,rfl,rfl,rfl,rfl,rfl,rfl,trivial⟩
theorem c10 {α0:Sort _} {a0 : α0} {α1:Sort _} {a1 : α1} {α2:Sort _} {a2 : α2} {α3:Sort _} {a3 : α3} {α4:Sort _} {a4 : α4} {α5:Sort _} {a5 : α5} {α6:Sort _} {a6 : α6} {α7:Sort _} {a7 : α7} {α8:Sort _} {a8 : α8} {α9:Sort _} {a9 : α9}:a0=a0∧a1=a1∧a2=a2∧a3=a3∧a4=a4∧a5=a5∧a6=a6∧a7=a7∧a8=a8∧a9=a9∧True:=⟨rfl,rfl,rfl,rfl,rfl,rfl,rfl,rfl,rfl,rfl,trivial⟩
theorem c11 {α0:Sort _} {a0 : α0} {α1:Sort _} {a1 : α1} {α2:Sort _} {a2 : α2} {α3:Sort _} {a3 : α3} {α4:Sort _} {a4 : α4} {α5:Sort _} {a5 : α5} {α6:Sort _} {a6 : α6} {α7:Sort _} {a7 : α7} {α8:Sort _} {a8 : α8} {α9:Sort _} {a9 : α9} {α10:Sort _} {a10 : α10}:a0=a0∧a1=a1∧a2=a2∧a3=a3∧a4=a4∧a5=a5∧a6=a6∧a7=a7∧a8=a8∧a9=a9∧a10=a10∧True:=⟨rfl,rfl,rfl,rfl,rfl,rfl,rfl,rfl,rfl,rfl,rfl,trivial⟩
theorem c12 {α0:Sort _} {a0 : α0} {α1:Sort _} {a1 : α1} {α2:Sort _} {a2 : α2} {α3:Sort _} {a3 : α3} {α4:Sort _} {a4 : α4} {α5:Sort _} {a5 : α5} {α6:Sort _} {a6 : α6} {α7:Sort _} {a7 : α7} {α8:Sort _} {a8 : α8} {α9:Sort _} {a9 : α9} {α10:Sort _} {a10 : α10} {α11:Sort _} {a11 : α11}:a0=a0∧a1=a1∧a2=a2∧a3=a3∧a4=a4∧a5=a5∧a6=a6∧a7=a7∧a8=a8∧a9=a9∧a10=a10∧a11=a11∧True:=⟨rfl,rfl,rfl,rfl,rfl,rfl,rfl,rfl,rfl,rfl,rfl,rfl,trivial⟩
theorem c13 {α0:Sort _} {a0 : α0} {α1:Sort _} {a1 : α1} {α2:Sort _} {a2 : α2} {α3:Sort _} {a3 : α3} {α4:Sort _} {a4 : α4} {α5:Sort _} {a5 : α5} {α6:Sort _} {a6 : α6} {α7:Sort _} {a7 : α7} {α8:Sort _} {a8 : α8} {α9:Sort _} {a9 : α9} {α10:Sort _} {a10 : α10} {α11:Sort _} {a11 : α11} {α12:Sort _} {a12 : α12}:a0=a0∧a1=a1∧a2=a2∧a3=a3∧a4=a4∧a5=a5∧a6=a6∧a7=a7∧a8=a8∧a9=a9∧a10=a10∧a11=a11∧a12=a12∧True:=⟨rfl,rfl,rfl,rfl,rfl,rfl,rfl,rfl,rfl,rfl,rfl,rfl,rfl,trivial⟩
theorem c14 {α0:Sort _} {a0 : α0} {α1:Sort _} {a1 : α1} {α2:Sort _} {a2 : α2} {α3:Sort _} {a3 : α3} {α4:Sort _} {a4 : α4} {α5:Sort _} {a5 : α5} {α6:Sort _} {a6 : α6} {α7:Sort _} {a7 : α7} {α8:Sort _} {a8 : α8} {α9:Sort _} {a9 : α9} {α10:Sort _} {a10 : α10} {α11:Sort _} {a11 : α11} {α12:Sort _} {a12 : α12} {α13:Sort _} {a13 : α13}:a0=a0∧a1=a1∧a2=a2∧a3=a3∧a4=a4∧a5=a5∧a6=a6∧a7=a7∧a8=a8∧a9=a9∧a10=a10∧a11=a11∧a12=a12∧a13=a13∧True:=⟨rfl,rfl,rfl,rfl,rfl,rfl,rfl,rfl,rfl,rfl,rfl,rfl,rfl,rfl,trivial⟩
theorem c15 {α0:Sort _} {a0 : α0} {α1:Sort _} {a1 : α1} {α2:Sort _} {a2 : α2} {α3:Sort _} {a3 : α3} {α4:Sort _} {a4 : α4} {α5:Sort _} {a5 : α5} {α6:Sort _} {a6 : α6} {α7:Sort _} {a7 : α7} {α8:Sort _} {a8 : α8} {α9:Sort _} {a9 : α9} {α10:Sort _} {a10 : α10} {α11:Sort _} {a11 : α11} {α12:Sort _} {a12 : α12} {α13:Sort _} {a13 : α13} {α14:Sort _} {a14 : α14}:a0=a0∧a1=a1∧a2=a2∧a3=a3∧a4=a4∧a5=a5∧a6=a6∧a7=a7∧a8=a8∧a9=a9∧a10=a10∧a11=a11∧a12=a12∧a13=a13∧a14=a14∧True:=⟨rfl,rfl,rfl,rfl,rfl,rfl,rfl,rfl,rfl,rfl,rfl,rfl,rfl,rfl,rfl,trivial⟩
theorem c16 {α0:Sort _} {a0 : α0} {α1:Sort _} {a1 : α1} {α2:Sort _} {a2 : α2} {α3:Sort _} {a3 : α3} {α4:Sort _} {a4 : α4} {α5:Sort _} {a5 : α5} {α6:Sort _} {a6 : α6} {α7:Sort _} {a7 : α7} {α8:Sort _} {a8 : α8} {α9:Sort _} {a9 : α9} {α10:Sort _} {a10 : α10} {α11:Sort _} {a11 : α11} {α12:Sort _} {a12 : α12} {α13:Sort _} {a13 : α13} {α14:Sort _} {a14 : α14} {α15:Sort _} {a15 : α15}:a0=a0∧a1=a1∧a2=a2∧a3=a3∧a4=a4∧a5=a5∧a6=a6∧a7=a7∧a8=a8∧a9=a9∧a10=a10∧a11=a11∧a12=a12∧a13=a13∧a14=a14∧a15=a15∧True:=⟨rfl,rfl,rfl,rfl,rfl,rfl,rfl,rfl,rfl,rfl,rfl,rfl,rfl,rfl,rfl,rfl,trivial⟩
theorem c17 {α0:Sort _} {a0 : α0} {α1:Sort _} {a1 : α1} {α2:Sort _} {a2 : α2} {α3:Sort _} {a3 : α3} {α4:Sort _} {a4 : α4} {α5:Sort _} {a5 : α5} {α6:Sort _} {a6 : α6} {α7:Sort _} {a7 : α7} {α8:Sort _} {a8 : α8} {α9:Sort _} {a9 : α9} {α10:Sort _} {a10 : α10} {α11:Sort _} {a11 : α11} {α12:Sort _} {a12 : α12} {α13:Sort _} {a13 : α13} {α14:Sort _} {a14 : α14} {α15:Sort _} {a15 : α15} {α16:Sort _} {a16 : α16}:a0=a0∧a1=a1∧a2=a2∧a3=a3∧a4=a4∧a5=a5∧a6=a6∧a7=a7∧a8=a8∧a9=a9∧a10=a10∧a11=a11∧a12=a12∧a13=a13∧a14=a14∧a15=a15∧a16=a16∧True:=⟨rfl,rfl,rfl,rfl,rfl,rfl,rfl,rfl,rfl,rfl,rfl,rfl,rfl,rfl,rfl,rfl,rfl,trivial⟩
theorem c18 {α0:Sort _} {a0 : α0} {α1:Sort _} {a1 : α1} {α2:Sort _} {a2 : α2} {α3:Sort _} {a3 : α3} {α4:Sort _} {a4 : α4} {α5:Sort _} {a5 : α5} {α6:Sort _} {a6 : α6} {α7:Sort _} {a7 : α7} {α8:Sort _} {a8 : α8} {α9:Sort _} {a9 : α9} {α10:Sort _} {a10 : α10} {α11:Sort _} {a11 : α11} {α12:Sort _} {a12 : α12} {α13:Sort _} {a13 : α13} {α14:Sort _} {a14 : α14} {α15:Sort _} {a15 : α15} {α16:Sort _} {a16 : α16} {α17:Sort _} {a17 : α17}:a0=a0∧a1=a1∧a2=a2∧a3=a3∧a4=a4∧a5=a5∧a6=a6∧a7=a7∧a8=a8∧a9=a9∧a10=a10∧a11=a11∧a12=a12∧a13=a13∧a14=a14∧a15=a15∧a16=a16∧a17=a17∧True:=⟨rfl,rfl,rfl,rfl,rfl,rfl,rfl,rfl,rfl,rfl,rfl,rfl,rfl,rfl,rfl,rfl,rfl,rfl,trivial⟩
theorem osi {α : Type _} {a b : α} (h:some a=some b):a=b:=Option.some.inj h
section
variable {P:Program} {R Rp:Post} {K:List Lay} {N:NN} {l:Fr} {H:World→Prop} {ops:Array Oper} {rest:List Oper} {d ty:Nat} {pos:String} {af:Array Edge} {v:Value} {x:Operand}
theorem lm (hd:Nat.blt d N.n=true) (hx:ev l x=some v) (h:LJ P R ops rest K N ((d,v)::l) H):LJ P R ops (⟨some d,.move x,ty,pos,af,none⟩::rest) K N l H:=lp hd (p_mv hx) h
theorem la (hd:Nat.blt d N.n=true) (hx:ev l x=some v) (h:LJ P R ops rest K N ((d,v)::l) H):LJ P R ops (⟨some d,.assign x,ty,pos,af,none⟩::rest) K N l H:=lp hd (p_as hx) h
variable {id:Nat} {opl:List Oper} {y:Code}
theorem cq (h:LJ P R opl.toArray opl (.seq y::K) N l H):CJ P R (.seq (.region id opl.toArray false) y) K N l H:=cj_seq (cj_reg h)
theorem lq {z:Code} (h:LJ P R opl.toArray opl (.seq z::K) N l H):LJ P R ops [] (.seq (.seq (.region id opl.toArray false) z)::K) N l H:=lj_seq (cq h)
theorem nq {z:Code} (h:LJ P R opl.toArray opl (.seq z::K) N l H):NJ P R (.seq (.seq (.region id opl.toArray false) z)::K) N l H:=nj_seq (cq h)
variable {w0:World} {M:List Nat} {A:Nat→Prop} {es xs r:List Ent}
theorem pk (ks:List Nat) (hp:J.picks ks es=some (xs,r)):∀ w,Sat w0 M A es w→Sat w0 M A xs w:=fun _ h=>h.picks ks hp
end
end Go.G
