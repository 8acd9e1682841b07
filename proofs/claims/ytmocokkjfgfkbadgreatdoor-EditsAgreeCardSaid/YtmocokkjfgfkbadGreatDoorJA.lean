/- JA: the rules (J1..J16), in one text. No program in sight. -/
import Derived.WalkKit
import Derived.WalkSpells
import Derived.WalkLawsBesides
import Derived.Deep.Quiet
import Derived.Deep.LoopGhost
import Derived.Orders
import Derived.StillTail
import Derived.Laws.StructEq
import Derived.OrdersHeld
import Derived.Lib.LazyBuf
namespace Go.J
open Go Go.RowKit
def w64 (n:Int):Int:=IntKind.i64.wrap n
theorem w64_id {n:Int} (h:-9223372036854775808≤n∧n≤9223372036854775807):w64 n=n:=IntWalk.i64_in n h
abbrev Fr:=List (Nat × Value)
def look:Fr→Nat→Option Value
 | [],_=>none
 | (i,v)::l,j=>bif Nat.beq i j then some v else look l j
def ev (l:Fr):Operand→Option Value
 | .tmp t=>look l t
 | .const v=>some v
 | .global g=>some (.pointer (some ⟨g,0,none⟩))
 | .func f=>some (.func (.func f) #[] #[])
structure NN where
 n:Nat
 ds:List Deferred
structure Frm (N:NN) (l:Fr) (a:Act):Prop where
 defers:a.defers=N.ds
 size:a.tmps.size=N.n
 vals:∀ i v,look l i=some v→a.tmps.getD i undef=v
theorem look_cons (i:Nat) (v:Value) (l:Fr) (j:Nat):look ((i,v)::l) j=if i=j then some v else look l j:=by
 simp only [look,cond_eq_ite,Nat.beq_eq]
theorem Frm.ev {N:NN} {l:Fr} {a:Act} (h:Frm N l a) {x:Operand} {v:Value} (hx:J.ev l x=some v):a.eval x=v:=by
 cases x with
 | tmp t=>exact h.vals t v hx
 | const v=>simpa [J.ev,Act.eval] using hx
 | global g=>simpa [J.ev,Act.eval] using hx
 | func f=>simpa [J.ev,Act.eval] using hx
theorem Frm.put {N:NN} {l:Fr} {a:Act} (h:Frm N l a) {d:Nat} (hd:Nat.blt d N.n=true) (v:Value):Frm N ((d,v)::l) (a.put (some d) v):=by
 have hd':d<N.n:=Nat.lt_of_succ_le (by simpa [Nat.blt] using hd)
 refine ⟨h.defers,by simp [Act.put,h.size],fun i u hu=>?_⟩
 rw [look_cons] at hu
 by_cases e:d=i
 ·subst e
  simp only [if_true,Option.some.injEq] at hu
  subst hu
  simp [Act.put,h.size,hd']
 ·rw [if_neg e] at hu
  have:=h.vals i u hu
  simp only [Act.put]
  rw [← this]
  simp [e]
theorem Frm.put_none {N:NN} {l:Fr} {a:Act} (h:Frm N l a) (v:Value):Frm N l (a.put none v):=h
def SubF:Fr→Fr→Prop
 | [],_=>True
 | (i,v)::r,l=>look l i=some v∧SubF r l
theorem SubF.look {l' l:Fr} (h:SubF l' l):∀ i v,J.look l' i=some v→J.look l i=some v:=by
 induction l' with
 | nil=>intro i v hv; cases hv
 | cons p r ih =>
  obtain ⟨j,u⟩:=p
  intro i v hv
  rw [look_cons] at hv
  by_cases e:j=i
  ·subst e; rw [if_pos rfl] at hv; cases hv; exact h.1
  ·rw [if_neg e] at hv; exact ih h.2 i v hv
theorem Frm.sub {N:NN} {l l':Fr} {a:Act} (h:Frm N l a) (hs:SubF l' l):Frm N l' a :=
 ⟨h.defers,h.size,fun i v hv=>h.vals i v (hs.look i v hv)⟩
structure Rep (α : Type) where
 T:TypeId
 sz:Nat
 by_:Nat
 enc : α → List Value
 len:∀ x,(enc x).length=sz
 one:∀ x,∀ u∈enc x,u.oneCell'=true
 pos:0<sz
def Rep.cells {α : Type} (R:Rep α) (xs:List α):List Value:=xs.flatMap R.enc
theorem Rep.cells_len {α : Type} (R:Rep α) (xs:List α):(R.cells xs).length=xs.length*R.sz:=by
 induction xs with
 | nil=>simp [Rep.cells]
 | cons x xs ih=>simp only [Rep.cells,List.flatMap_cons,List.length_append,List.length_cons] at ih ⊢; rw [ih,R.len,Nat.add_mul]; omega
theorem Rep.cells_append {α : Type} (R:Rep α) (xs ys:List α):R.cells (xs++ys)=R.cells xs++R.cells ys:=by simp [Rep.cells]
theorem Rep.cells_one {α : Type} (R:Rep α) (xs:List α):∀ u∈R.cells xs,u.oneCell'=true:=by
 intro u hu
 simp only [Rep.cells,List.mem_flatMap] at hu
 obtain ⟨x,_,hx⟩:=hu
 exact R.one x u hx
theorem Rep.cells_get {α : Type} (R:Rep α) (xs:List α) (i j:Nat) (x : α) (hi:xs[i]? = some x) (hj:j<R.sz):(R.cells xs)[i*R.sz+j]? = (R.enc x)[j]?:=by
 induction xs generalizing i with
 | nil=>simp at hi
 | cons y ys ih =>
  cases i with
  | zero =>
   simp only [List.getElem?_cons_zero,Option.some.injEq] at hi
   subst hi
   simp only [Rep.cells,List.flatMap_cons,Nat.zero_mul,Nat.zero_add]
   rw [List.getElem?_append_left (by rw [R.len]; exact hj)]
  | succ i =>
   simp only [List.getElem?_cons_succ] at hi
   have:=ih i hi
   simp only [Rep.cells,List.flatMap_cons] at this ⊢
   rw [List.getElem?_append_right (by rw [R.len,Nat.add_mul]; omega),R.len]
   rw [← this]
   congr 1
   rw [Nat.add_mul]; omega
def RdS {α : Type} (R:Rep α) (v:Value) (xs:List α) (w:World):Prop :=
 xs.length≤maxLen∧((xs=[]∧∃ x cap,v = .slice x 0 cap∧cap≤maxLen) ∨
  ∃ b off cap,v = .slice (some ⟨b,off,none⟩) xs.length cap∧xs.length≤cap∧cap≤maxLen∧∀ j u,(R.cells xs)[j]? = some u→w.cell? ⟨b,off+j,none⟩=some u)
structure OW where
 ks:List Nat
 ok:World→Prop
 stay:∀ {w w':World},(∀ k,k∈ks→w'.heap[k]? = w.heap[k]?)→ok w→ok w'
 lt:∀ {w:World},ok w→∀ k,k∈ks→k<w.heap.size
inductive Ent:Type 1
 | box (b:Nat) (T:TypeId) (cs:List Value)
 | row {α : Type} (R:Rep α) (v:Value) (xs:List α)
 | ro (F:World→Prop)
 | obj (o:OW)
def Ent.key:Ent→Option Nat
 | .box b _ _=>some b
 | .row _ v _=>v.ownBlock
 | .ro _=>none
 | .obj _=>none
def Ent.kl:Ent→List Nat
 | .obj o=>o.ks
 | .box b _ _=>[b]
 | .row _ v _=>v.ownBlock.toList
 | .ro _=>[]
def Ent.okx (w:World):Ent→Prop
 | .box b T cs=>w.heap[b]? = some (.cells cs.toArray T (0,0))
 | .row R v xs=>w.ownsRow 0 R.T R.sz v xs.length (R.cells xs)
 | .ro _=>True
 | .obj o=>o.ok w
def keys (es:List Ent):List Nat:=es.flatMap Ent.kl
def Same (A:Nat→Prop) (n:Nat) (K:List Nat) (w w':World):Prop :=
 w.heap.size≤w'.heap.size∧∀ b,b<w.heap.size→(A b∨n≤b)→b∉K→w'.heap[b]? = w.heap[b]?
def Ent.okr (A:Nat→Prop) (n:Nat) (K:List Nat) (w:World):Ent→Prop
 | .ro F=>∀ w',Same A n K w w'→F w'
 | _=>True
structure Chg (M:List Nat) (w w':World):Prop where
 os:w'.os=w.os
 tape:w'.tape=w.tape
 output:w'.output=w.output
 size:w.heap.size≤w'.heap.size
 block:∀ b,b<w.heap.size→b∉M→w'.heap[b]? = w.heap[b]?
structure Sat (w0:World) (M:List Nat) (A:Nat→Prop) (es:List Ent) (w:World):Prop where
 chg:Chg M w0 w
 dis:∀ b,A b→b<w0.heap.size∧b∉M
 nodup:(keys es).Nodup
 fresh:∀ k,k∈keys es→k<w.heap.size∧(w0.heap.size≤k∨k∈M)
 okx:∀ e,e∈es→e.okx w
 okr:∀ e,e∈es→e.okr (fun b=>A b∨b∈M) w0.heap.size (keys es) w
theorem Chg.refl (M:List Nat) (w:World):Chg M w w:=⟨rfl,rfl,rfl,Nat.le_refl _,fun _ _ _=>rfl⟩
theorem Chg.below {w w':World} (h:Chg [] w w'):Below w.heap.size w w':=⟨h.os,h.tape,h.output,h.size,fun k hk=>h.block k hk (by simp)⟩
theorem Same.refl (A:Nat→Prop) (n:Nat) (K:List Nat) (w:World):Same A n K w w:=⟨Nat.le_refl _,fun _ _ _ _=>rfl⟩
theorem mem_keys {es:List Ent} {k:Nat}:k∈keys es↔∃ e∈es,k∈e.kl:=by simp [keys]
theorem keys_cons (e:Ent) (es:List Ent):keys (e::es)=e.kl++keys es:=by simp [keys]
theorem keys_nil:keys []=[]:=rfl
theorem keys_append (a b:List Ent):keys (a++b)=keys a++keys b:=by simp [keys]
theorem kl_row {α : Type} {R:Rep α} {v:Value} {xs:List α} {b:Nat} (h:v.ownBlock=some b):b∈(Ent.row R v xs).kl:=by simp [Ent.kl,h]
theorem kl_row' {α : Type} {R:Rep α} {v:Value} {xs:List α} {b:Nat} (h:b∈(Ent.row R v xs).kl):v.ownBlock=some b:=by simpa [Ent.kl] using h
theorem Ent.okx_of_block {e:Ent} {w w':World} (h:e.okx w) (hb:∀ k,k∈e.kl→w'.heap[k]? = w.heap[k]?):e.okx w':=by
 cases e with
 | box b T cs=>exact (hb b (by simp [Ent.kl])).trans h
 | row R v xs =>
  refine ⟨h.1,?_⟩
  rcases h.2 with hn | ⟨g,cap,cur,rfl,hbg,hg,rest⟩
  ·exact .inl hn
  ·exact .inr ⟨g,cap,cur,rfl,hbg,(hb g (kl_row rfl)).trans hg,rest⟩
 | ro F=>trivial
 | obj o=>exact o.stay hb h
theorem Ent.okx_lt {e:Ent} {w:World} (h:e.okx w) {k:Nat} (hk:k∈e.kl):k<w.heap.size:=by
 cases e with
 | box b T cs =>
  simp only [Ent.kl,List.mem_singleton] at hk
  subst hk
  exact (Array.getElem?_eq_some_iff.1 h).1
 | row R v xs=>exact (World.ownsRow.lt h k (kl_row' hk)).2
 | ro F=>cases hk
 | obj o=>exact o.lt h k hk
theorem keys_sublist {l l':List Ent} (h:List.Sublist l l'):List.Sublist (keys l) (keys l'):=by
 induction h with
 | slnil=>exact List.Sublist.refl _
 | cons a _ ih=>rw [keys_cons]; exact ih.trans (List.sublist_append_right _ _)
 | cons_cons a _ ih=>rw [keys_cons,keys_cons]; exact List.Sublist.append (List.Sublist.refl _) ih
theorem keys_perm {l l':List Ent} (h:List.Perm l l'):List.Perm (keys l) (keys l'):=by
 induction h with
 | nil=>exact List.Perm.refl _
 | cons a _ ih=>rw [keys_cons,keys_cons]; exact List.Perm.append_left _ ih
 | swap a b l=>rw [keys_cons,keys_cons,keys_cons,keys_cons,← List.append_assoc,← List.append_assoc]; exact List.Perm.append_right _ List.perm_append_comm
 | trans _ _ h1 h2=>exact h1.trans h2
theorem Sat.step {w0 w w':World} {M:List Nat} {A:Nat→Prop} {es:List Ent} (h:Sat w0 M A es w) (D:List Nat) (hD:∀ k,k∈D→k∈keys es)
  (hc:Chg D w w') (keep news:List Ent) (hk:List.Sublist keep es) (hkd:∀ k,k∈keys keep→k∉D)
  (hn1:(keys news).Nodup) (hn2:∀ k,k∈keys news→k<w'.heap.size∧(w.heap.size≤k∨k∈D))
  (hn3:∀ e,e∈news→e.okx w')
  (hn4:∀ e,e∈news→∀ K:List Nat,(∀ k,k∈keys news→k∈K)→(∀ k,k∈K→k∈keys news∨k∈keys keep)→e.okr (fun b=>A b∨b∈M) w0.heap.size K w') :
  Sat w0 M A (keep++news) w':=by
 have hDM:∀ b,b<w0.heap.size→b∉M→b∉D:=fun b hb hM hd=>by
  rcases (h.fresh b (hD b hd)).2 with h1 | h1
  ·omega
  ·exact hM h1
 have hkk:∀ k,k∈keys keep→k∈keys es:=fun k hk'=>by
  obtain ⟨e,he,hek⟩:=mem_keys.1 hk'
  exact mem_keys.2 ⟨e,hk.subset he,hek⟩
 have happ:keys (keep++news)=keys keep++keys news:=by simp [keys]
 refine ⟨⟨hc.os.trans h.chg.os,hc.tape.trans h.chg.tape,hc.output.trans h.chg.output,Nat.le_trans h.chg.size hc.size,fun b hb hM=>?_⟩,h.dis,?_,?_,?_,?_⟩
 ·exact (hc.block b (Nat.lt_of_lt_of_le hb h.chg.size) (hDM b hb hM)).trans (h.chg.block b hb hM)
 ·rw [happ,List.nodup_append]
  refine ⟨List.Nodup.sublist (keys_sublist hk) h.nodup,hn1,fun a ha b hb hab=>?_⟩
  subst hab
  rcases (hn2 a hb).2 with h1 | h1
  ·have:=(h.fresh a (hkk a ha)).1; omega
  ·exact hkd a ha h1
 ·intro k hk'
  rw [happ,List.mem_append] at hk'
  rcases hk' with h1 | h1
  ·exact ⟨Nat.lt_of_lt_of_le (h.fresh k (hkk k h1)).1 hc.size,(h.fresh k (hkk k h1)).2⟩
  ·refine ⟨(hn2 k h1).1,?_⟩
   rcases (hn2 k h1).2 with h2 | h2
   ·exact .inl (Nat.le_trans h.chg.size h2)
   ·exact (h.fresh k (hD k h2)).2
 ·intro e he
  rcases List.mem_append.1 he with h1 | h1
  ·refine Ent.okx_of_block (h.okx e (hk.subset h1)) fun k hek=>?_
   exact hc.block k (Ent.okx_lt (h.okx e (hk.subset h1)) hek) (hkd k (mem_keys.2 ⟨e,h1,hek⟩))
  ·exact hn3 e h1
 ·intro e he
  rcases List.mem_append.1 he with h1 | h1
  ·have h2:=h.okr e (hk.subset h1)
   cases e with
   | ro F =>
    intro w'' hw''
    refine h2 w'' ⟨Nat.le_trans hc.size hw''.1,fun b hb hA hbk=>?_⟩
    refine (hw''.2 b (Nat.lt_of_lt_of_le hb hc.size) hA ?_).trans (hc.block b hb (fun hd=>hbk (hD b hd)))
    rw [happ,List.mem_append]
    rintro (h3 | h3)
    ·exact hbk (hkk b h3)
    ·rcases (hn2 b h3).2 with h4 | h4
     ·omega
     ·exact hbk (hD b h4)
   | box b T cs=>trivial
   | row R v xs=>trivial
   | obj o=>trivial
  ·refine hn4 e h1 _ (fun k hk'=>by rw [happ]; exact List.mem_append_right _ hk') (fun k hk'=>?_)
   rw [happ,List.mem_append] at hk'
   rcases hk' with h2 | h2
   ·exact .inr h2
   ·exact .inl h2
end Go.J
namespace Go.J
open Go Go.RowKit
def ifB {α : Sort _} (b:Bool) (x y : α) : α:=match b with | true=>x | false=>y
theorem ifB_t {α : Type _} {b:Bool} {x y r : α} (h:b=true) (e:ifB b x y=r):x=r:=by subst h; exact e
theorem ifB_f {α : Type _} {b:Bool} {x y r : α} (h:b=false) (e:ifB b x y=r):y=r:=by subst h; exact e
theorem bindS {α β : Type _} {o:Option α} {k : α → Option β} {r : β} (h:o.bind k=some r):∃ x,o=some x∧k x=some r:=by
 cases o with
 | none=>cases h
 | some x=>exact ⟨x,rfl,h⟩
inductive Flow (σ ρ : Type) where
 | nxt (s : σ)
 | brk (s : σ)
 | ret (r : ρ)
def Flow.run {σ ρ β : Type} (f:Flow σ ρ) (n : σ → β) (b : σ → β) (r : ρ → β) : β:=match f with | .nxt s=>n s | .brk s=>b s | .ret v=>r v
def rangeM {α σ ρ : Type} (step:Nat → α → σ → Option (Flow σ ρ)):Nat→List α → σ → Option (Flow σ ρ)
 | _,[],s=>some (.brk s)
 | i,x::t,s=>(step i x s).bind fun f=>f.run (fun s'=>rangeM step (i+1) t s') (fun s'=>some (.brk s')) (fun v=>some (.ret v))
def runN {σ ρ : Type} (step : σ → Option (Flow σ ρ)):Nat → σ → Option (Flow σ ρ)
 | 0,_=>none
 | n+1,s=>(step s).bind fun f=>f.run (fun s'=>runN step n s') (fun s'=>some (.brk s')) (fun v=>some (.ret v))
theorem runN_mono {σ ρ : Type} {step : σ → Option (Flow σ ρ)} {n:Nat} {s : σ} {f:Flow σ ρ} (h:runN step n s=some f):runN step (n+1) s=some f:=by
 induction n generalizing s with
 | zero=>cases h
 | succ n ih =>
  obtain ⟨g,hg,h2⟩:=bindS h
  show (step s).bind _=_
  rw [hg]
  cases g with
  | nxt s'=>exact ih h2
  | brk s'=>exact h2
  | ret v=>exact h2
theorem runN_le {σ ρ : Type} {step : σ → Option (Flow σ ρ)} {n m:Nat} {s : σ} {f:Flow σ ρ} (hnm:n≤m) (h:runN step n s=some f):runN step m s=some f:=by
 induction hnm with
 | refl=>exact h
 | step _ ih=>exact runN_mono ih
open Classical in
noncomputable def loopM {σ ρ : Type} (step : σ → Option (Flow σ ρ)) (s : σ):Option (Flow σ ρ) :=
 if h:∃ n f,runN step n s=some f then runN step (Classical.choose h) s else none
theorem loopM_of_runN {σ ρ : Type} {step : σ → Option (Flow σ ρ)} {n:Nat} {s : σ} {f:Flow σ ρ} (h:runN step n s=some f):loopM step s=some f:=by
 have hex:∃ n f,runN step n s=some f:=⟨n,f,h⟩
 unfold loopM
 rw [dif_pos hex]
 obtain ⟨f',hf'⟩:=Classical.choose_spec hex
 have h1:=runN_le (Nat.le_max_left n (Classical.choose hex)) h
 have h2:=runN_le (Nat.le_max_right n (Classical.choose hex)) hf'
 rw [h1] at h2
 cases h2
 exact hf'
theorem runN_of_loopM {σ ρ : Type} {step : σ → Option (Flow σ ρ)} {s : σ} {f:Flow σ ρ} (h:loopM step s=some f):∃ n,runN step n s=some f:=by
 unfold loopM at h
 split at h
 ·exact ⟨_,h⟩
 ·cases h
theorem loopM_step {σ ρ : Type} {step : σ → Option (Flow σ ρ)} {s : σ} {g:Flow σ ρ} (hg:step s=some g) :
  loopM step s=g.run (fun s'=>loopM step s') (fun s'=>some (.brk s')) (fun v=>some (.ret v)):=by
 cases g with
 | nxt s' =>
  simp only [Flow.run]
  by_cases hex:∃ f,loopM step s'=some f
  ·obtain ⟨f,hf⟩:=hex
   obtain ⟨n,hn⟩:=runN_of_loopM hf
   rw [hf]
   exact loopM_of_runN (n:=n+1) (by show (step s).bind _=_; rw [hg]; exact hn)
  ·have h2:loopM step s'=none:=by
    cases h3:loopM step s' with
    | none=>rfl
    | some f=>exact (hex ⟨f,h3⟩).elim
   rw [h2]
   cases h3:loopM step s with
   | none=>rfl
   | some f =>
    obtain ⟨n,hn⟩:=runN_of_loopM h3
    cases n with
    | zero=>cases hn
    | succ n =>
     have h4:(step s).bind (fun f=>f.run (fun s'=>runN step n s') (fun s'=>some (.brk s')) (fun v=>some (.ret v)))=some f:=hn
     rw [hg] at h4
     exact (hex ⟨f,loopM_of_runN h4⟩).elim
 | brk s'=>exact loopM_of_runN (n:=1) (by show (step s).bind _=_; rw [hg]; rfl)
 | ret v=>exact loopM_of_runN (n:=1) (by show (step s).bind _=_; rw [hg]; rfl)
abbrev Post:=Exit→Act→World→Prop
def Code.wpS (P:Program):Code→(Exit→Act→World→Prop)→Act→World→Prop
 | .seq x y,Q=>Code.wpS P x (Exit.then (Code.wpS P y Q) Q)
 | .region _ ops d,Q=>fun a w=>(d=false→wpOps P ops Q (List.range ops.size) a w)∧(d=true→∀ t,wpOps P ops Q (Region.schedule (P.follows .mixedOrders) ops t) a { w with drawn:=w.drawn+1 })
 | .cond c x y,Q=>fun a w=>∃ t,a.eval c = .bool t∧(t=true→Code.wpS P x Q a w)∧(t=false→Code.wpS P y Q a w)
 | .block id c,Q=>Code.wpS P c (Exit.inBlock id Q)
 | .loop c,Q=>fun a w=>∃ (I:Nat→Act→World→Prop) (n₀ : Nat),I n₀ a w∧∀ n a w,I n a w→Code.wpS P c (Exit.then (fun a' w'=>∃ n',n'<n∧I n' a' w') Q) a w
 | .exit id,Q=>Q (.exit id)
 | .ret,Q=>Q .ret
 | .skip,Q=>Q .normal
 | c,Q=>c.wp P Q
theorem Oper.wp_monoS {P:Program} {o:Oper} {a:Act} {w:World} {K K':Act→World→Prop} {Q Q':Post} (hK:∀ a w,K a w→K' a w) (hQ:∀ e a w,Q e a w→Q' e a w) (hh:o.wp P a w K Q):o.wp P a w K' Q':=by
 unfold Oper.wp at *
 generalize (execOp a.eval o).run P w=r at *
 cases r with
 | ok n w' =>
  cases n <;> simp only [Oper.upon] at hh ⊢ <;>
   first
    | exact hK _ _ hh
    | exact Calls.mono hh (fun e w'' he=>by cases e <;> first | exact hK _ _ he | exact hQ _ _ _ he | (obtain ⟨a,w,h⟩:=he; exact ⟨a,w,hQ _ _ _ h⟩))
    | exact Rows.mono hh (fun _ _ he=>hK _ _ he)
 | halt x w'=>cases x <;> simp only [Oper.upon] at hh ⊢ <;> first | exact hQ _ _ _ hh | exact hh
theorem wpOps_monoS {P:Program} {ops:Array Oper} {Q Q':Post} (hQ:∀ e a w,Q e a w→Q' e a w):∀ (l:List Nat) (a:Act) (w:World),wpOps P ops Q l a w→wpOps P ops Q' l a w
 | [],_,_,h=>hQ _ _ _ h
 | i::l,a,w,h=>by
  unfold wpOps at h ⊢
  split at h
  ·exact wpOps_monoS hQ l _ _ h
  ·split at h
   ·rename_i hw
    rw [if_pos hw]
    rcases h with h | ⟨h1,a',w',h2⟩
    ·exact .inl (Oper.wp_monoS (fun _ _ h=>wpOps_monoS hQ l _ _ h) hQ h)
    ·exact .inr ⟨h1,a',w',hQ _ _ _ h2⟩
   ·rename_i hw
    rw [if_neg hw]
    exact wpOps_monoS hQ l _ _ h
theorem then_mono {K K':Act→World→Prop} {Q Q':Post} (hK:∀ a w,K a w→K' a w) (hQ:∀ e a w,Q e a w→Q' e a w):∀ e a w,Exit.then K Q e a w→Exit.then K' Q' e a w:=by
 intro e a w h
 cases e <;> first | exact hK _ _ h | exact hQ _ _ _ h
theorem inBlock_mono {id:Nat} {Q Q':Post} (hQ:∀ e a w,Q e a w→Q' e a w):∀ e a w,Exit.inBlock id Q e a w→Exit.inBlock id Q' e a w:=by
 intro e a w h
 cases e with
 | exit i =>
  simp only [Exit.inBlock] at h ⊢
  split
  ·rw [if_pos ‹_›] at h; exact hQ _ _ _ h
  ·rw [if_neg ‹_›] at h; exact hQ _ _ _ h
 | normal=>exact hQ _ _ _ h
 | goto l=>exact hQ _ _ _ h
 | ret=>exact hQ _ _ _ h
 | panic c=>exact hQ _ _ _ h
 | outgrown=>exact hQ _ _ _ h
theorem wpS_mono {P:Program} {c:Code} {Q Q':Post} {a:Act} {w:World} (h:Code.wpS P c Q a w) (hQ:∀ e a w,Q e a w→Q' e a w):Code.wpS P c Q' a w:=by
 induction c generalizing Q Q' a w with
 | seq x y hx hy=>exact hx h (then_mono (fun _ _ h=>hy h hQ) hQ)
 | region id ops d=>exact ⟨fun hd=>wpOps_monoS hQ _ _ _ (h.1 hd),fun hd t=>wpOps_monoS hQ _ _ _ (h.2 hd t)⟩
 | cond c x y hx hy=>obtain ⟨t,h0,h1,h2⟩:=h; exact ⟨t,h0,fun e=>hx (h1 e) hQ,fun e=>hy (h2 e) hQ⟩
 | block id c hc=>exact hc (Q:=Exit.inBlock id Q) h (inBlock_mono hQ)
 | loop c hc=>obtain ⟨I,n0,h0,h1⟩:=h; exact ⟨I,n0,h0,fun n a w hI=>hc (h1 n a w hI) (then_mono (fun _ _ h=>h) hQ)⟩
 | exit id=>exact hQ _ _ _ h
 | ret=>exact hQ _ _ _ h
 | skip=>exact hQ _ _ _ h
 | goto l=>exact wp_mono h hQ
 | label l=>exact wp_mono h hQ
 | scope c _=>exact wp_mono h hQ
 | rangeFunc f p x y _ _=>exact wp_mono h hQ
 | refuse s=>exact wp_mono h hQ
theorem wpS_wp {P:Program} {c:Code} {Q:Post} {a:Act} {w:World} (h:Code.wpS P c Q a w):c.wp P Q a w:=by
 induction c generalizing Q a w with
 | seq x y hx hy =>
  refine wp_seq (wp_mono (hx h) ?_)
  intro e a w h
  cases e <;> first | exact hy h | exact h
 | region id ops d =>
  cases d with
  | false=>exact wp_region (h.1 rfl)
  | true=>exact wp_region_draw (h.2 rfl)
 | cond c x y hx hy=>obtain ⟨t,h0,h1,h2⟩:=h; exact wp_cond_split h0 (fun e=>hx (h1 e)) (fun e=>hy (h2 e))
 | block id c hc=>exact wp_block (hc (Q:=Exit.inBlock id Q) h)
 | loop c hc=>obtain ⟨I,n0,h0,h1⟩:=h; exact wp_loop_ghost I n0 h0 fun n a w hI=>hc (h1 n a w hI)
 | exit id=>exact wp_exit h
 | ret=>exact wp_ret h
 | skip=>exact wp_skip h
 | goto l=>exact h
 | label l=>exact h
 | scope c _=>exact h
 | rangeFunc f p x y _ _=>exact h
 | refuse s=>exact h
section
variable {P:Program} {Q:Post} {a:Act} {w:World}
theorem wpS_seq {x y:Code} (h:Code.wpS P x (Exit.then (Code.wpS P y Q) Q) a w):Code.wpS P (.seq x y) Q a w:=h
theorem wpS_region_lit {id:Nat} {l:List Oper} (h:wpList P l.toArray Q l a w):Code.wpS P (.region id l.toArray false) Q a w:=by
 refine ⟨fun _=>?_,fun h=>by cases h⟩
 have:=wpOps_eq_wpList (P:=P) (Q:=Q) (ops:=l.toArray) l 0 (by intro j; simp)
 rw [List.range_eq_range',List.size_toArray,this]
 exact h
theorem wpS_region_any {id:Nat} {ops:Array Oper} (hm:P.follows .mixedOrders=true) (h:wpAny P .any ops Q ops.size (Array.replicate ops.size false) a { w with drawn:=w.drawn+1 }):Code.wpS P (.region id ops true) Q a w :=
 ⟨fun h=>by (cases h),fun _ t=>by
  simp only [Region.schedule,hm,Bool.true_or,if_true]
  exact wpAny_sound ops.size t _ a _ h⟩
theorem wpS_skip (h:Q .normal a w):Code.wpS P .skip Q a w:=h
theorem wpS_exit {id:Nat} (h:Q (.exit id) a w):Code.wpS P (.exit id) Q a w:=h
theorem wpS_ret (h:Q .ret a w):Code.wpS P .ret Q a w:=h
theorem wpS_block {id:Nat} {c:Code} (h:Code.wpS P c (Exit.inBlock id Q) a w):Code.wpS P (.block id c) Q a w:=h
theorem wpS_cond_split {c:Operand} {x y:Code} {t:Bool} (hc:a.eval c = .bool t) (h1:t=true→Code.wpS P x Q a w) (h2:t=false→Code.wpS P y Q a w):Code.wpS P (.cond c x y) Q a w:=⟨t,hc,h1,h2⟩
theorem wpS_cond_true {c:Operand} {x y:Code} (hc:a.eval c = .bool true) (h1:Code.wpS P x Q a w):Code.wpS P (.cond c x y) Q a w:=⟨true,hc,fun _=>h1,fun h=>by cases h⟩
theorem wpS_cond_false {c:Operand} {x y:Code} (hc:a.eval c = .bool false) (h1:Code.wpS P y Q a w):Code.wpS P (.cond c x y) Q a w:=⟨false,hc,fun h=>by (cases h),fun _=>h1⟩
theorem wpS_loop_ghost {c:Code} (I:Nat→Act→World→Prop) (n₀ : Nat) (h₀ : I n₀ a w) (round:∀ n a w,I n a w→Code.wpS P c (Exit.then (fun a' w'=>∃ n',n'<n∧I n' a' w') Q) a w):Code.wpS P (.loop c) Q a w:=⟨I,n₀,h₀,round⟩
end
inductive Lay where
 | seq (y:Code)
 | blk (id:Nat)
 | inv (I:Act→World→Prop)
def QK (P:Program) (R:Post):List Lay→Post
 | []=>R
 | .seq y::K=>Exit.then (Code.wpS P y (QK P R K)) (QK P R K)
 | .blk id::K=>Exit.inBlock id (QK P R K)
 | .inv I::K=>Exit.then I (QK P R K)
def CJ (P:Program) (R:Post) (c:Code) (K:List Lay) (N:NN) (l:Fr) (H:World→Prop):Prop:=∀ a w,Frm N l a→H w→Code.wpS P c (QK P R K) a w
def LJ (P:Program) (R:Post) (ops:Array Oper) (rest:List Oper) (K:List Lay) (N:NN) (l:Fr) (H:World→Prop):Prop:=∀ a w,Frm N l a→H w→wpList P ops (QK P R K) rest a w
def NJ (P:Program) (R:Post) (K:List Lay) (N:NN) (l:Fr) (H:World→Prop):Prop:=∀ a w,Frm N l a→H w→QK P R K .normal a w
section
variable {P:Program} {R:Post} {K:List Lay} {N:NN} {l:Fr} {H:World→Prop}
theorem cj_seq {x y:Code} (h:CJ P R x (.seq y::K) N l H):CJ P R (.seq x y) K N l H:=fun a w hf hw=>wpS_seq (h a w hf hw)
theorem cj_reg {id:Nat} {ops:List Oper} (h:LJ P R ops.toArray ops K N l H):CJ P R (.region id ops.toArray false) K N l H:=fun a w hf hw=>wpS_region_lit (h a w hf hw)
theorem cj_rseq {id:Nat} {ops:List Oper} {y:Code} (h:LJ P R ops.toArray ops (.seq y::K) N l H):CJ P R (.seq (.region id ops.toArray false) y) K N l H:=cj_seq (cj_reg h)
theorem lj_nil {ops:Array Oper} (h:NJ P R K N l H):LJ P R ops [] K N l H:=fun a w hf hw=>wpList_nil (h a w hf hw)
theorem nj_seq {y:Code} (h:CJ P R y K N l H):NJ P R (.seq y::K) N l H:=h
theorem lj_seq {ops:Array Oper} {y:Code} (h:CJ P R y K N l H):LJ P R ops [] (.seq y::K) N l H:=lj_nil (nj_seq h)
theorem nj_blk {id:Nat} (h:NJ P R K N l H):NJ P R (.blk id::K) N l H:=h
theorem nj_inv {I:Act→World→Prop} (h:∀ a w,Frm N l a→H w→I a w):NJ P R (.inv I::K) N l H:=h
theorem nj_end (h:∀ a w,Frm N l a→H w→R .normal a w):NJ P R [] N l H:=h
theorem cj_skip (h:NJ P R K N l H):CJ P R .skip K N l H:=fun a w hf hw=>wpS_skip (h a w hf hw)
theorem cj_blk {id:Nat} {c:Code} (h:CJ P R c (.blk id::K) N l H):CJ P R (.block id c) K N l H:=fun a w hf hw=>wpS_block (h a w hf hw)
def target (i:Nat):List Lay→Option (List Lay)
 | []=>none
 | .seq _::K=>target i K
 | .inv _::K=>target i K
 | .blk j::K=>bif Nat.beq i j then some K else target i K
theorem QK_exit (P:Program) (R:Post) {i:Nat}:∀ {K K':List Lay} {a:Act} {w:World},target i K=some K'→QK P R K' .normal a w→QK P R K (.exit i) a w
 | [],_,_,_,ht,_=>by cases ht
 | .seq y::K,K',a,w,ht,h=>by
  have:=QK_exit P R (K:=K) (a:=a) (w:=w) ht h
  exact this
 | .inv I::K,K',a,w,ht,h=>by
  have:=QK_exit P R (K:=K) (a:=a) (w:=w) ht h
  exact this
 | .blk j::K,K',a,w,ht,h=>by
  show Exit.inBlock j (QK P R K) (.exit i) a w
  simp only [target,cond_eq_ite,Nat.beq_eq] at ht
  by_cases e:i=j
  ·subst e
   rw [if_pos rfl] at ht
   cases ht
   simp only [Exit.inBlock,if_true]
   exact h
  ·rw [if_neg e] at ht
   simp only [Exit.inBlock,if_neg e]
   exact QK_exit P R ht h
theorem QK_ret (P:Program) (R:Post):∀ {K:List Lay} {a:Act} {w:World},R .ret a w→QK P R K .ret a w
 | [],_,_,h=>h
 | .seq y::K,a,w,h=>by have:=QK_ret P R (K:=K) h; exact this
 | .inv I::K,a,w,h=>by have:=QK_ret P R (K:=K) h; exact this
 | .blk j::K,a,w,h=>by have:=QK_ret P R (K:=K) h; exact this
theorem cj_exit {i:Nat} {K':List Lay} (ht:target i K=some K') (h:NJ P R K' N l H):CJ P R (.exit i) K N l H:=fun a w hf hw=>wpS_exit (QK_exit P R ht (h a w hf hw))
theorem cj_ret (h:∀ a w,Frm N l a→H w→R .ret a w):CJ P R .ret K N l H:=fun a w hf hw=>wpS_ret (QK_ret P R (h a w hf hw))
theorem cj_if {c:Operand} {x y:Code} {b:Bool} (hc:ev l c=some (.bool b)) (ht:b=true→CJ P R x K N l H) (hf:b=false→CJ P R y K N l H):CJ P R (.cond c x y) K N l H :=
 fun a w h hw=>wpS_cond_split (h.ev hc) (fun e=>ht e a w h hw) (fun e=>hf e a w h hw)
theorem cj_if_t {c:Operand} {x y:Code} (hc:ev l c=some (.bool true)) (ht:CJ P R x K N l H):CJ P R (.cond c x y) K N l H :=
 fun a w h hw=>wpS_cond_true (h.ev hc) (ht a w h hw)
theorem cj_if_f {c:Operand} {x y:Code} (hc:ev l c=some (.bool false)) (ht:CJ P R y K N l H):CJ P R (.cond c x y) K N l H :=
 fun a w h hw=>wpS_cond_false (h.ev hc) (ht a w h hw)
theorem NJ.sub {l':Fr} {H':World→Prop} (h:NJ P R K N l' H') (hl:SubF l' l) (hH:∀ w,H w→H' w):NJ P R K N l H:=fun a w hf hw=>h a w (hf.sub hl) (hH w hw)
theorem calls_cj {n:Nat} {f:FuncId} {fn:Func} {c:Code} {args:List Value} {w:World} {post:Ending→World→Prop} {vs:Fr} (hf:P.funcs[f]? = some fn) (hb:fn.body=some c) (hn:fn.ntmps=n)
  (hlen:Nat.ble args.length n=true) (hvs:∀ i v,look vs i=some v→args[i]? = some v)
  (h:CJ P (bodyPost P fn post) c [] ⟨n,[]⟩ vs (fun w'=>w'=w)):Calls P f args.toArray w post:=by
 refine calls_of_wp hf hb (wpS_wp (h _ _ ?_ rfl))
 have hle:args.length≤n:=by simpa [Nat.ble_eq] using hlen
 refine ⟨rfl,by simp [hn]; omega,fun i v hv=>?_⟩
 have h1:=hvs i v hv
 have h2:i<args.length:=(List.getElem?_eq_some_iff.1 h1).1
 rw [Array.getD_eq_getD_getElem?,Array.getElem?_append_left (by simpa using h2)]
 simp [h1]
end
section
variable {P:Program} {R:Post} {K:List Lay} {N:NN} {fr:Fr} {H:World→Prop}
theorem cj_loop {σ : Type} {c:Code} (l : σ → Fr) (Hs : σ → World→Prop) (p:Nat → σ → Prop) (n0:Nat) (s0 : σ) (hp:p n0 s0) (hl:SubF (l s0) fr) (hH:∀ w,H w→Hs s0 w)
  (round:∀ n s,p n s→CJ P R c (.inv (fun a w=>∃ n' s',n'<n∧p n' s'∧Frm N (l s') a∧Hs s' w)::K) N (l s) (Hs s)):CJ P R (.loop c) K N fr H:=by
 intro a w hf hw
 refine wpS_loop_ghost (fun n a w=>∃ s,p n s∧Frm N (l s) a∧Hs s w) n0 ⟨s0,hp,hf.sub hl,hH w hw⟩ ?_
 rintro n a w ⟨s,hps,hfs,hws⟩
 refine wpS_mono (round n s hps a w hfs hws) ?_
 intro e a' w' hq
 cases e with
 | normal =>
  obtain ⟨n',s',hlt,h1,h2,h3⟩:=hq
  exact ⟨n',hlt,s',h1,h2,h3⟩
 | exit id=>exact hq
 | goto l=>exact hq
 | ret=>exact hq
 | panic ch=>exact hq
 | outgrown=>exact hq
theorem nj_round {σ : Type} {l : σ → Fr} {Hs : σ → World→Prop} {p:Nat → σ → Prop} {n:Nat} {fr:Fr} {H:World→Prop} (n':Nat) (s' : σ) (hlt:n'<n) (hp:p n' s') (hl:SubF (l s') fr) (hH:∀ w,H w→Hs s' w) :
  NJ P R (.inv (fun a w=>∃ n' s',n'<n∧p n' s'∧Frm N (l s') a∧Hs s' w)::K) N fr H :=
 fun _ w hf hw=>⟨n',s',hlt,hp,hf.sub hl,hH w hw⟩
end
end Go.J
namespace Go.J
open Go Go.RowKit
def nth {α : Type _}:List α → Nat→Option α
 | [],_=>none
 | x::_,0=>some x
 | _::l,n+1=>nth l n
theorem nth_eq {α : Type _} (l:List α) (n:Nat):nth l n=l[n]?:=by
 induction l generalizing n with
 | nil=>cases n <;> rfl
 | cons x l ih=>cases n with
  | zero=>rfl
  | succ n=>simpa [nth] using ih n
def setN {α : Type _}:List α → Nat → α → List α
 | [],_,_=>[]
 | _::l,0,y=>y::l
 | x::l,n+1,y=>x::setN l n y
def pick1 {α : Type _}:List α → Nat→Option (α × List α)
 | [],_=>none
 | x::l,0=>some (x,l)
 | x::l,n+1=>match pick1 l n with
  | some (y,r)=>some (y,x::r)
  | none=>none
theorem pick1_perm {α : Type _} {l:List α} {k:Nat} {x : α} {r:List α} (h:pick1 l k=some (x,r)):List.Perm l (x::r):=by
 induction l generalizing k x r with
 | nil=>cases k <;> cases h
 | cons y l ih =>
  cases k with
  | zero=>cases h; exact List.Perm.refl _
  | succ k =>
   simp only [pick1] at h
   cases h2:pick1 l k with
   | none=>rw [h2] at h; cases h
   | some p =>
    obtain ⟨z,q⟩:=p
    rw [h2] at h
    cases h
    exact (List.Perm.cons y (ih h2)).trans (List.Perm.swap x y q)
def picks {α : Type _}:List Nat→List α → Option (List α × List α)
 | [],l=>some ([],l)
 | k::ks,l=>match pick1 l k with
  | some (x,r)=>match picks ks r with
   | some (xs,r')=>some (x::xs,r')
   | none=>none
  | none=>none
theorem picks_perm {α : Type _} {ks:List Nat} {l xs r:List α} (h:picks ks l=some (xs,r)):List.Perm l (xs++r):=by
 induction ks generalizing l xs r with
 | nil=>cases h; exact List.Perm.refl _
 | cons k ks ih =>
  simp only [picks] at h
  cases h2:pick1 l k with
  | none=>rw [h2] at h; cases h
  | some p =>
   obtain ⟨z,q⟩:=p
   rw [h2] at h
   simp only at h
   cases h3:picks ks q with
   | none=>rw [h3] at h; cases h
   | some p2 =>
    obtain ⟨zs,q2⟩:=p2
    rw [h3] at h
    cases h
    exact (pick1_perm h2).trans (List.Perm.cons z (ih h3))
section
variable {w0 w w':World} {M:List Nat} {A:Nat→Prop} {es es':List Ent}
theorem okr_congr {e:Ent} {n:Nat} {K K':List Nat} (h:e.okr A n K w) (hK:∀ b,b∈K'→b∈K):e.okr A n K' w:=by
 cases e with
 | ro F=>exact fun w' hs=>h w' ⟨hs.1,fun b hb hA hn=>hs.2 b hb hA (fun hm=>hn (hK b hm))⟩
 | box b T cs=>trivial
 | row R v xs=>trivial
 | obj o=>trivial
theorem Sat.perm (h:Sat w0 M A es w) (hp:List.Perm es es'):Sat w0 M A es' w :=
 ⟨h.chg,h.dis,(keys_perm hp).nodup_iff.1 h.nodup,fun k hk=>h.fresh k ((keys_perm hp).mem_iff.2 hk),fun e he=>h.okx e (hp.mem_iff.2 he),
  fun e he=>okr_congr (h.okr e (hp.mem_iff.2 he)) fun _ hb=>(keys_perm hp).mem_iff.2 hb⟩
theorem Sat.sublist (h:Sat w0 M A es w) (hp:List.Sublist es' es):Sat w0 M A es' w :=
 ⟨h.chg,h.dis,List.Nodup.sublist (keys_sublist hp) h.nodup,fun k hk=>h.fresh k ((keys_sublist hp).subset hk),fun e he=>h.okx e (hp.subset he),
  fun e he=>okr_congr (h.okr e (hp.subset he)) fun _ hb=>(keys_sublist hp).subset hb⟩
theorem Sat.picks (h:Sat w0 M A es w) (ks:List Nat) {xs r:List Ent} (hp:J.picks ks es=some (xs,r)):Sat w0 M A xs w :=
 (h.perm (picks_perm hp)).sublist (List.sublist_append_left xs r)
theorem Sat.heap_eq (h:Sat w0 M A es w) (h1:w'.heap=w.heap) (h2:w'.os=w.os) (h3:w'.tape=w.tape) (h4:w'.output=w.output):Sat w0 M A es w':=by
 refine ⟨⟨h2.trans h.chg.os,h3.trans h.chg.tape,h4.trans h.chg.output,by rw [h1]; exact h.chg.size,fun b hb hM=>by rw [h1]; exact h.chg.block b hb hM⟩,h.dis,h.nodup,fun k hk=>by rw [h1]; exact h.fresh k hk,?_,?_⟩
 ·exact fun e he=>Ent.okx_of_block (h.okx e he) fun k _=>by rw [h1]
 ·intro e he
  have:=h.okr e he
  cases e with
  | ro F=>exact fun w'' hs=>this w'' ⟨by rw [← h1]; exact hs.1,fun b hb hA hn=>by rw [← h1]; exact hs.2 b (by rw [h1]; exact hb) hA hn⟩
  | box b T cs=>trivial
  | row R v xs=>trivial
  | obj o=>trivial
theorem Sat.drew (h:Sat w0 M A es w):Sat w0 M A es { w with drawn:=w.drawn+1 }:=h.heap_eq rfl rfl rfl rfl
theorem nth_mem {k:Nat} {e:Ent} (hk:nth es k=some e):e∈es:=by
 rw [nth_eq] at hk
 exact List.mem_of_getElem? hk
theorem Sat.box (h:Sat w0 M A es w) {k b:Nat} {T:TypeId} {cs:List Value} (hk:nth es k=some (.box b T cs)):w.heap[b]? = some (.cells cs.toArray T (0,0)):=h.okx _ (nth_mem hk)
theorem Sat.row (h:Sat w0 M A es w) {α : Type} {k:Nat} {R:Rep α} {v:Value} {xs:List α} (hk:nth es k=some (.row R v xs)):w.ownsRow 0 R.T R.sz v xs.length (R.cells xs):=h.okx _ (nth_mem hk)
theorem Sat.alloc (h:Sat w0 M A es w) (T:TypeId) (cs:List Value):Sat w0 M A (.box w.heap.size T cs::es) (w.alloc (.cells cs.toArray T)):=by
 have:=h.step (w':=w.alloc (.cells cs.toArray T)) [] (by simp) ⟨rfl,rfl,rfl,by simp,fun b hb _=>Below.heap_alloc w _ b hb⟩ es [.box w.heap.size T cs] (List.Sublist.refl _) (by simp)
  (by simp [keys,Ent.kl]) (by intro k hk; simp [keys,Ent.kl] at hk; subst hk; exact ⟨by simp,.inl (Nat.le_refl _)⟩)
  (by intro e he; simp at he; subst he; exact heap_alloc_new w _) (by intro e he; simp at he; subst he; intros; trivial)
 exact this.perm List.perm_append_comm
theorem pick1_split {α : Type _} {l:List α} {k:Nat} {x : α} (h:nth l k=some x):∃ a b,l=a++x::b∧∀ y,setN l k y=a++y::b:=by
 induction l generalizing k with
 | nil=>cases k <;> cases h
 | cons z l ih =>
  cases k with
  | zero=>cases h; exact ⟨[],l,rfl,fun y=>rfl⟩
  | succ k =>
   obtain ⟨a,b,h1,h2⟩:=ih h
   exact ⟨z::a,b,by rw [h1]; rfl,fun y=>by simp only [setN,h2 y]; rfl⟩
theorem Sat.swap' (h:Sat w0 M A es w) {k:Nat} {e e':Ent} (hk:nth es k=some e) (hc:Chg e.kl w w') (hok:e'.okx w') (hnd':e'.kl.Nodup)
  (hkey:∀ b,b∈e'.kl→b<w'.heap.size∧(w.heap.size≤b∨b∈e.kl)) (hro:∀ F,e' ≠ .ro F):Sat w0 M A (setN es k e') w':=by
 obtain ⟨a,b,h1,h2⟩:=pick1_split hk
 rw [h2 e']
 subst h1
 have hkeys:keys (a++e::b)=keys a++(e.kl++keys b):=by rw [keys_append,keys_cons]
 have hnd:=h.nodup
 rw [hkeys,List.nodup_append] at hnd
 obtain ⟨hn1,hn2,hn3⟩:=hnd
 rw [List.nodup_append] at hn2
 obtain ⟨hn4,hn5,hn6⟩:=hn2
 have hst:=h.step (w':=w') e.kl (by intro x hx; rw [hkeys]; simp [hx]) hc (a++b) [e']
  (List.Sublist.append (List.Sublist.refl _) (List.sublist_cons_self _ _))
  (by
   intro x hx hx'
   rw [keys_append,List.mem_append] at hx
   rcases hx with hx | hx
   ·exact hn3 x hx x (List.mem_append_left _ hx') rfl
   ·exact hn6 x hx' x hx rfl)
  (by rw [keys_cons,keys_nil,List.append_nil]; exact hnd')
  (by
   intro x hx
   rw [keys_cons,keys_nil,List.append_nil] at hx
   exact hkey x hx)
  (by intro x hx; simp at hx; subst hx; exact hok)
  (by
   intro x hx
   simp at hx
   subst hx
   intro K _ _
   cases x with
   | ro F=>exact (hro F rfl).elim
   | box b T cs=>trivial
   | row R v xs=>trivial
   | obj o=>trivial)
 refine hst.perm ?_
 rw [List.append_assoc]
 exact List.Perm.append_left a List.perm_append_comm
theorem Sat.swap (h:Sat w0 M A es w) {k:Nat} {e e':Ent} (hk:nth es k=some e) (hc:Chg e.key.toList w w') (hok:e'.okx w')
  (hkey:∀ b,e'.key=some b→b<w'.heap.size∧(w.heap.size≤b∨e.key=some b)) (hro:∀ F,e' ≠ .ro F) (h1:∀ o,e ≠ .obj o:=by intro o h; cases h) (h2:∀ o,e' ≠ .obj o:=by intro o h; cases h):Sat w0 M A (setN es k e') w':=by
 have hkl:∀ e:Ent,(∀ o,e ≠ .obj o)→e.kl=e.key.toList:=by
  intro e he
  cases e with
  | obj o=>exact (he o rfl).elim
  | box b T cs=>rfl
  | row R v xs=>rfl
  | ro F=>rfl
 refine h.swap' hk (by rw [hkl e h1]; exact hc) hok ?_ ?_ hro
 ·rw [hkl e' h2]; cases e'.key <;> simp
 ·intro b hb
  rw [hkl e' h2] at hb
  have:=hkey b (by simpa using hb)
  exact ⟨this.1,this.2.imp id (fun h3=>by rw [hkl e h1,h3]; simp)⟩
theorem Sat.set_box (h:Sat w0 M A es w) {k b:Nat} {T:TypeId} {cs cs':List Value} (hk:nth es k=some (.box b T cs)) :
  Sat w0 M A (setN es k (.box b T cs')) (w.setRow b cs'.toArray):=by
 refine h.swap hk ?_ ?_ ?_ (fun F hF=>by cases hF)
 ·exact ⟨rfl,rfl,rfl,by simp,fun x _ hx=>setRow_other w b x _ (fun e=>hx (by simp [Ent.key,e]))⟩
 ·exact setRow_heap w b cs.toArray _ T (0,0) (h.box hk)
 ·intro x hx; simp [Ent.key] at hx; subst hx; exact ⟨by simp; exact (Array.getElem?_eq_some_iff.1 (h.box hk)).1,.inr rfl⟩
theorem Sat.add_ro (h:Sat w0 M A es w) {F:World→Prop} (hF:∀ w',Same (fun b=>A b∨b∈M) w0.heap.size (keys es) w w'→F w'):Sat w0 M A (.ro F::es) w:=by
 refine ⟨h.chg,h.dis,h.nodup,h.fresh,?_,?_⟩
 ·intro e he
  rcases List.mem_cons.1 he with h1 | h1
  ·subst h1; trivial
  ·exact h.okx e h1
 ·intro e he
  rcases List.mem_cons.1 he with h1 | h1
  ·subst h1; exact hF
  ·exact h.okr e h1
end
theorem RdS.of_row {α : Type} {R:Rep α} {v:Value} {xs:List α} {w:World} (h:w.ownsRow 0 R.T R.sz v xs.length (R.cells xs)):RdS R v xs w:=by
 rcases h.2 with ⟨h1,h2⟩ | ⟨g,cap,cur,h1,_,hg,hn,hcm,hcs,ht⟩
 ·have:xs=[]:=List.eq_nil_of_length_eq_zero h2
  subst this
  exact ⟨by simp [maxLen],.inl ⟨rfl,none,0,h1,by simp [maxLen]⟩⟩
 ·refine ⟨Nat.le_trans hn hcm,.inr ⟨g,0,cap,h1,hn,hcm,fun j u hu=>?_⟩⟩
  rw [Nat.zero_add,cell_of_row w g j cur R.T (0,0) hg]
  rw [← ht,List.getElem?_take] at hu
  split at hu
  ·simpa using hu
  ·cases hu
theorem RdS.of_block {α : Type} {R:Rep α} {v:Value} {xs:List α} {w w':World} (h:RdS R v xs w) (hs:∀ b,v.ownBlock=some b→w'.heap[b]? = w.heap[b]?):RdS R v xs w':=by
 refine ⟨h.1,?_⟩
 rcases h.2 with hn | ⟨b,off,cap,rfl,h1,h2,h3⟩
 ·exact .inl hn
 ·exact .inr ⟨b,off,cap,rfl,h1,h2,fun j u hu=>(World.cell?_of_block (a:=⟨b,off+j,none⟩) (hs b rfl)).trans (h3 j u hu)⟩
def Ext (w w':World):Prop:=w.heap.size≤w'.heap.size∧∀ b,b<w.heap.size→w'.heap[b]? = w.heap[b]?
theorem Ext.refl (w:World):Ext w w:=⟨Nat.le_refl _,fun _ _=>rfl⟩
inductive FactAt (es:List Ent):(World→Prop)→Prop where
 | ro {F:World→Prop} (j:Nat) (h:nth es j=some (.ro F)):FactAt es F
 | row {α : Type} {R:Rep α} {v:Value} {xs:List α} (j:Nat) (h:nth es j=some (.row R v xs)):FactAt es (RdS R v xs)
 | box {b:Nat} {T:TypeId} {cs:List Value} (j:Nat) (h:nth es j=some (.box b T cs)):FactAt es (fun w=>w.heap[b]? = some (.cells cs.toArray T (0,0)))
 | obj {o:OW} (j:Nat) (h:nth es j=some (.obj o)):FactAt es o.ok
 | der {fs:List (World→Prop)} {G:World→Prop} (hfs:∀ F,F∈fs→FactAt es F) (h:∀ w,(∀ F,F∈fs→∀ w',Ext w w'→F w')→G w):FactAt es G
theorem FactAt.stay {xs rest:List Ent} {F:World→Prop} (h:FactAt rest F) {w0 w w':World} {M:List Nat} {A:Nat→Prop} (hs:Sat w0 M A (xs++rest) w)
  (hw:w.heap.size≤w'.heap.size∧∀ b,b<w.heap.size→b∉keys xs→w'.heap[b]? = w.heap[b]?):F w':=by
 have hk:keys (xs++rest)=keys xs++keys rest:=by simp [keys]
 induction h generalizing w' with
 | ro j h =>
  rename_i F
  have hm:Ent.ro F∈xs++rest:=List.mem_append_right _ (by rw [nth_eq] at h; exact List.mem_of_getElem? h)
  exact hs.okr _ hm w' ⟨hw.1,fun b hb _ hn=>hw.2 b hb fun hx=>hn (by rw [hk]; exact List.mem_append_left _ hx)⟩
 | row j h =>
  rename_i α R v ys
  have hm0:Ent.row R v ys∈rest:=by rw [nth_eq] at h; exact List.mem_of_getElem? h
  have hm:Ent.row R v ys∈xs++rest:=List.mem_append_right _ hm0
  have hok:w.ownsRow 0 R.T R.sz v ys.length (R.cells ys):=hs.okx _ hm
  refine (RdS.of_row hok).of_block fun b hb=>?_
  refine hw.2 b (World.ownsRow.lt hok b hb).2 fun hx=>?_
  have hnd:=hs.nodup
  rw [hk,List.nodup_append] at hnd
  exact hnd.2.2 b hx b (mem_keys.2 ⟨_,hm0,kl_row hb⟩) rfl
 | box j h =>
  rename_i b T cs
  have hm0:Ent.box b T cs∈rest:=by rw [nth_eq] at h; exact List.mem_of_getElem? h
  have hok:w.heap[b]? = some (.cells cs.toArray T (0,0)):=hs.okx _ (List.mem_append_right xs hm0)
  refine (hw.2 b (Array.getElem?_eq_some_iff.1 hok).1 fun hx=>?_).trans hok
  have hnd:=hs.nodup
  rw [hk,List.nodup_append] at hnd
  exact hnd.2.2 b hx b (mem_keys.2 ⟨_,hm0,by simp [Ent.kl]⟩) rfl
 | obj j h =>
  rename_i o
  have hm0:Ent.obj o∈rest:=by rw [nth_eq] at h; exact List.mem_of_getElem? h
  have hok:o.ok w:=hs.okx _ (List.mem_append_right xs hm0)
  refine o.stay (fun b hb=>hw.2 b (o.lt hok b hb) fun hx=>?_) hok
  have hnd:=hs.nodup
  rw [hk,List.nodup_append] at hnd
  exact hnd.2.2 b hx b (mem_keys.2 ⟨_,hm0,hb⟩) rfl
 | der _ h ih=>exact h w' fun F hF w'' he=>ih F hF ⟨Nat.le_trans hw.1 he.1,fun b hb hn=>(he.2 b (Nat.lt_of_lt_of_le hb hw.1)).trans (hw.2 b hb hn)⟩
theorem FactAt.get {es:List Ent} {F:World→Prop} (h:FactAt es F) {w0 w:World} {M:List Nat} {A:Nat→Prop} (hs:Sat w0 M A es w):F w :=
 h.stay (xs:=[]) hs ⟨Nat.le_refl _,fun _ _ _=>rfl⟩
theorem FactAt.imp {es:List Ent} {G F:World→Prop} (h:FactAt es G) (hi:∀ w,G w→F w):FactAt es F :=
 .der (fs:=[G]) (fun F hF=>by simp at hF; subst hF; exact h) fun w hw=>hi w (hw G (by simp) w (Ext.refl w))
theorem FactAt.and {es:List Ent} {G F:World→Prop} (h1:FactAt es G) (h2:FactAt es F):FactAt es (fun w=>G w∧F w) :=
 .der (fs:=[G,F]) (fun X hX=>by simp at hX; rcases hX with hX | hX <;> subst hX <;> assumption) fun w hw=>⟨hw G (by simp) w (Ext.refl w),hw F (by simp) w (Ext.refl w)⟩
inductive FactRo (es:List Ent):(World→Prop)→Prop where
 | ro {F:World→Prop} (j:Nat) (h:nth es j=some (.ro F)):FactRo es F
 | der {fs:List (World→Prop)} {G:World→Prop} (hfs:∀ F,F∈fs→FactRo es F) (h:∀ w,(∀ F,F∈fs→∀ w',Ext w w'→F w')→G w):FactRo es G
theorem FactRo.imp {es:List Ent} {G F:World→Prop} (h:FactRo es G) (hi:∀ w,G w→F w):FactRo es F :=
 .der (fs:=[G]) (fun F hF=>by simp at hF; subst hF; exact h) fun w hw=>hi w (hw G (by simp) w (Ext.refl w))
theorem FactRo.and {es:List Ent} {G F:World→Prop} (h1:FactRo es G) (h2:FactRo es F):FactRo es (fun w=>G w∧F w) :=
 .der (fs:=[G,F]) (fun X hX=>by simp at hX; rcases hX with hX | hX <;> subst hX <;> assumption) fun w hw=>⟨hw G (by simp) w (Ext.refl w),hw F (by simp) w (Ext.refl w)⟩
theorem FactRo.tru {es:List Ent} {p:Prop} (h:p):FactRo es (fun _=>p):=.der (fs:=[]) (fun _ hF=>by cases hF) fun _ _=>h
theorem FactRo.stays {es:List Ent} {F:World→Prop} (h:FactRo es F) {w0 w:World} {M:List Nat} {A:Nat→Prop} (hs:Sat w0 M A es w) :
  ∀ w',Same (fun b=>A b∨b∈M) w0.heap.size (keys es) w w'→F w':=by
 induction h with
 | ro j h=>exact fun w' hw'=>hs.okr _ (nth_mem h) w' hw'
 | der _ h ih=>exact fun w' hw'=>h w' fun F hF w'' he=>ih F hF w'' ⟨Nat.le_trans hw'.1 he.1,fun b hb hA hn=>(he.2 b (Nat.lt_of_lt_of_le hb hw'.1)).trans (hw'.2 b hb hA hn)⟩
theorem Sat.freeze {w0 w:World} {M:List Nat} {A:Nat→Prop} {es rest:List Ent} {α : Type} {R:Rep α} {v:Value} {xs:List α} (h:Sat w0 M A es w) {k:Nat} (hk:pick1 es k=some (.row R v xs,rest)) :
  Sat w0 M A (.ro (RdS R v xs)::rest) w:=by
 have h2:=h.perm (pick1_perm hk)
 have hrow:w.ownsRow 0 R.T R.sz v xs.length (R.cells xs):=h2.okx _ (List.mem_cons_self ..)
 refine (h2.sublist (List.sublist_cons_self _ _)).add_ro fun w' hw'=>(RdS.of_row hrow).of_block fun b hb=>?_
 have hb1:b∈keys (.row R v xs::rest):=mem_keys.2 ⟨_,List.mem_cons_self ..,kl_row hb⟩
 refine hw'.2 b (h2.fresh b hb1).1 ?_ ?_
 ·rcases (h2.fresh b hb1).2 with h3 | h3
  ·exact .inr h3
  ·exact .inl (.inr h3)
 ·have hnd:=h2.nodup
  have hkk:keys (.row R v xs::rest)=b::keys rest:=by
   rw [keys_cons]
   have:Ent.kl (.row R v xs)=[b]:=by simp [Ent.kl,hb]
   rw [this]; rfl
  rw [hkk,List.nodup_cons] at hnd
  exact hnd.1
inductive Facts (es:List Ent):List (World→Prop)→Prop where
 | nil:Facts es []
 | cons {F:World→Prop} {fs:List (World→Prop)} (h:FactAt es F) (t:Facts es fs):Facts es (F::fs)
theorem Facts.mem {es:List Ent} {fs:List (World→Prop)} (h:Facts es fs) {F:World→Prop} (hF:F∈fs):FactAt es F:=by
 induction h with
 | nil=>cases hF
 | cons h _ ih =>
  rcases List.mem_cons.1 hF with h1 | h1
  ·subst h1; exact h
  ·exact ih h1
def noRo:List Ent→Bool
 | []=>true
 | .ro _::_=>false
 | _::es=>noRo es
theorem noRo_mem {es:List Ent} (h:noRo es=true) {F:World→Prop}:Ent.ro F∉es:=by
 induction es with
 | nil=>simp
 | cons e es ih =>
  intro hm
  rcases List.mem_cons.1 hm with h1 | h1
  ·subst h1; cases h
  ·cases e with
   | ro G=>cases h
   | box b T cs=>exact ih h h1
   | row R v xs=>exact ih h h1
   | obj o=>exact ih h h1
def Ctr (P:Program) (f:FuncId) (args:Array Value) (xs:List Ent) (fs:List (World→Prop)) {X:Type} (V:X→Value) (post:X→List Ent):Prop :=
 ∀ w A,Sat w (keys xs) A (xs++fs.map Ent.ro) w→Calls P f args w fun e w'=>∃ x,e = .returned (V x)∧Sat w (keys xs) A (post x) w'
theorem keys_ros (fs:List (World→Prop)):keys (fs.map Ent.ro)=[]:=by
 induction fs with
 | nil=>rfl
 | cons F fs ih=>rw [List.map_cons,keys_cons]; exact ih
theorem Ctr.use {P:Program} {f:FuncId} {args:Array Value} {xs:List Ent} {fs:List (World→Prop)} {X:Type} {V:X→Value} {post:X→List Ent} (hc:Ctr P f args xs fs V post)
  {w0 w:World} {M:List Nat} {A:Nat→Prop} {es rest:List Ent} (hs:Sat w0 M A es w) {ks:List Nat} (hp:picks ks es=some (xs,rest)) (hxs:noRo xs=true) (hfs:Facts rest fs) (hpost:∀ x,noRo (post x)=true) :
  Calls P f args w fun e w'=>∃ x,e = .returned (V x)∧Sat w0 M A (post x++rest) w':=by
 have hs2:=hs.perm (picks_perm hp)
 have hk2:keys (xs++rest)=keys xs++keys rest:=keys_append _ _
 have hnd:=hs2.nodup
 rw [hk2,List.nodup_append] at hnd
 have henter:Sat w (keys xs) (fun b=>b<w.heap.size∧b∉keys xs) (xs++fs.map Ent.ro) w:=by
  have hk3:keys (xs++fs.map Ent.ro)=keys xs:=by rw [keys_append,keys_ros,List.append_nil]
  refine ⟨Chg.refl _ _,fun b hb=>hb,by rw [hk3]; exact hnd.1,fun k hk=>?_,?_,?_⟩
  ·rw [hk3] at hk
   exact ⟨(hs2.fresh k (by rw [hk2]; exact List.mem_append_left _ hk)).1,.inr hk⟩
  ·intro e he
   rcases List.mem_append.1 he with h1 | h1
   ·exact hs2.okx e (List.mem_append_left _ h1)
   ·obtain ⟨F,_,rfl⟩:=List.mem_map.1 h1; trivial
  ·intro e he
   rcases List.mem_append.1 he with h1 | h1
   ·cases e with
    | ro F=>exact (noRo_mem hxs h1).elim
    | box b T cs=>trivial
    | row R v xs=>trivial
    | obj o=>trivial
   ·obtain ⟨F,hF,rfl⟩:=List.mem_map.1 h1
    intro w' hw'
    refine (hfs.mem hF).stay hs2 ⟨hw'.1,fun b hb hbx=>hw'.2 b hb (.inl (.inl ⟨hb,hbx⟩)) ?_⟩
    rw [hk3]; exact hbx
 refine (hc w _ henter).mono ?_
 rintro e w' ⟨x,he,hx⟩
 refine ⟨x,he,?_⟩
 have hst:=hs2.step (w':=w') (keys xs) (fun k hk=>by rw [hk2]; exact List.mem_append_left _ hk) hx.chg rest (post x) (List.sublist_append_right _ _)
  (fun k hk hk'=>hnd.2.2 k hk' k hk rfl) hx.nodup (fun k hk=>hx.fresh k hk) hx.okx
  (fun e he K _ _=>by
   cases e with
   | ro F=>exact (noRo_mem (hpost x) he).elim
   | box b T cs=>trivial
   | row R v xs=>trivial
   | obj o=>trivial)
 exact hst.perm List.perm_append_comm
inductive FactsRo (es:List Ent):List (World→Prop)→Prop where
 | nil:FactsRo es []
 | cons {F:World→Prop} {fs:List (World→Prop)} (h:FactRo es F) (t:FactsRo es fs):FactsRo es (F::fs)
theorem FactsRo.mem {es:List Ent} {fs:List (World→Prop)} (h:FactsRo es fs) {F:World→Prop} (hF:F∈fs):FactRo es F:=by
 induction h with
 | nil=>cases hF
 | cons h _ ih =>
  rcases List.mem_cons.1 hF with h1 | h1
  ·subst h1; exact h
  ·exact ih h1
theorem Ctr.useN {P:Program} {f:FuncId} {args:Array Value} {xs:List Ent} {fs:List (World→Prop)} {X:Type} {V:X→Value} {post:X→List Ent} (hc:Ctr P f args xs fs V post)
  {w0 w:World} {M:List Nat} {A:Nat→Prop} {es rest:List Ent} (hs:Sat w0 M A es w) {ks:List Nat} (hp:picks ks es=some (xs,rest)) (hxs:noRo xs=true) (hfs:FactsRo rest fs) :
  Calls P f args w fun e w'=>∃ x,e = .returned (V x)∧Sat w0 M A (post x++rest) w':=by
 have hs2:=hs.perm (picks_perm hp)
 have hk2:keys (xs++rest)=keys xs++keys rest:=keys_append _ _
 have hnd:=hs2.nodup
 rw [hk2,List.nodup_append] at hnd
 have hrest:=hs2.sublist (List.sublist_append_right xs rest)
 have henter:Sat w (keys xs) (fun b=>b<w.heap.size∧((A b∨b∈M)∨w0.heap.size≤b)∧b∉keys (xs++rest)) (xs++fs.map Ent.ro) w:=by
  have hk3:keys (xs++fs.map Ent.ro)=keys xs:=by rw [keys_append,keys_ros,List.append_nil]
  refine ⟨Chg.refl _ _,fun b hb=>⟨hb.1,fun h=>hb.2.2 (by rw [hk2]; exact List.mem_append_left _ h)⟩,by rw [hk3]; exact hnd.1,fun k hk=>?_,?_,?_⟩
  ·rw [hk3] at hk
   exact ⟨(hs2.fresh k (by rw [hk2]; exact List.mem_append_left _ hk)).1,.inr hk⟩
  ·intro e he
   rcases List.mem_append.1 he with h1 | h1
   ·exact hs2.okx e (List.mem_append_left _ h1)
   ·obtain ⟨F,_,rfl⟩:=List.mem_map.1 h1; trivial
  ·intro e he
   rcases List.mem_append.1 he with h1 | h1
   ·cases e with
    | ro F=>exact (noRo_mem hxs h1).elim
    | box b T cs=>trivial
    | row R v xs=>trivial
    | obj o=>trivial
   ·obtain ⟨F,hF,rfl⟩:=List.mem_map.1 h1
    intro w' hw'
    -- of the blocks that last,and of those alone,the fact speaks
    have key:∀ {F:World→Prop},FactRo rest F→∀ w',Same (fun b=>(b<w.heap.size∧((A b∨b∈M)∨w0.heap.size≤b)∧b∉keys (xs++rest))∨b∈keys xs) w.heap.size (keys (xs++fs.map Ent.ro)) w w'→F w':=by
     intro F hF
     induction hF with
     | ro j h =>
      intro w' hw'
      have hm:=List.mem_append_right xs (nth_mem h)
      refine hs2.okr _ hm w' ⟨hw'.1,fun b hb hA hn=>hw'.2 b hb (.inl (.inl ⟨hb,?_,hn⟩)) ?_⟩
      ·exact hA
      ·rw [hk3]; intro hx; exact hn (by rw [hk2]; exact List.mem_append_left _ hx)
     | der _ h ih=>exact fun w' hw'=>h w' fun F hF w'' he=>ih F hF w'' ⟨Nat.le_trans hw'.1 he.1,fun b hb hA hn=>(he.2 b (Nat.lt_of_lt_of_le hb hw'.1)).trans (hw'.2 b hb hA hn)⟩
    exact key (hfs.mem hF) w' hw'
 refine (hc w _ henter).mono ?_
 rintro e w' ⟨x,he,hx⟩
 refine ⟨x,he,?_⟩
 have hst:=hs2.step (w':=w') (keys xs) (fun k hk=>by rw [hk2]; exact List.mem_append_left _ hk) hx.chg rest (post x) (List.sublist_append_right _ _)
  (fun k hk hk'=>hnd.2.2 k hk' k hk rfl) hx.nodup (fun k hk=>hx.fresh k hk) hx.okx
  (fun e he K hK1 hK2=>by
   cases e with
   | ro F =>
    intro w'' hw''
    refine hx.okr _ he w'' ⟨hw''.1,fun b hb hA hn=>hw''.2 b hb ?_ fun hbK=>?_⟩
    ·rcases hA with (hA | hA) | hA
     ·exact hA.2.1
     ·rcases (hs2.fresh b (by rw [hk2]; exact List.mem_append_left _ hA)).2 with h3 | h3
      ·exact .inr h3
      ·exact .inl (.inr h3)
     ·exact .inr (Nat.le_trans hs2.chg.size hA)
    ·rcases hK2 b hbK with h3 | h3
     ·exact hn h3
     ·rcases hA with (hA | hA) | hA
      ·exact hA.2.2 (by rw [hk2]; exact List.mem_append_right _ h3)
      ·exact hnd.2.2 b hA b h3 rfl
      ·have:=(hs2.fresh b (by rw [hk2]; exact List.mem_append_right _ h3)).1; omega
   | box b T cs=>trivial
   | row R v xs=>trivial
   | obj o=>trivial)
 exact hst.perm List.perm_append_comm
end Go.J
namespace Go.J
open Go Go.RowKit
structure SV where
 a:Option Addr
 n:Nat
 c:Nat
@[reducible] def SV.v (s:SV):Value:=.slice s.a s.n s.c
def nilS:SV:=⟨none,0,0⟩
def SV.at_ (s:SV) (k:Nat):Option Addr:=s.a.map fun a=>⟨a.block,a.off+k,none⟩
@[reducible] def SV.p (s:SV) (k:Nat):Value:=.pointer (s.at_ k)
structure TyF (P:Program) (T:TypeId) (agg:Bool) (sz by_:Nat) (zs:List Value):Prop where
 agg:∀ w,(isAgg T).run P w = .ok agg w
 info:∃ i z,P.info? T=some i∧i.zero=some z∧z.cells=zs.toArray∧i.size=sz∧i.bytes=by_
def descAgg:TypeDesc→Bool
 | .struct _ | .array _ _=>true
 | _=>false
theorem TyF.mk' {P:Program} {T:TypeId} {d:TypeDesc} {z:Value} {sz by_:Nat} {zs:List Value} {agg:Bool} (hu:P.underlying T=some d) (hd:descAgg d=agg)
  (hi:(P.info? T).map (fun i=>(i.zero,i.size,i.bytes))=some (some z,sz,by_)) (hz:z.cells=zs.toArray):TyF P T agg sz by_ zs:=by
 refine ⟨fun w=>?_,?_⟩
 ·unfold isAgg
  rw [Sem.run_bind,run_underlying hu w]
  subst hd
  cases d <;> rfl
 ·obtain ⟨i,h1,h2,h3,h4⟩:=info_parts hi
  exact ⟨i,z,h1,h2,hz,h3,h4⟩
theorem TyF.size {P:Program} {T:TypeId} {agg:Bool} {sz by_:Nat} {zs:List Value} (h:TyF P T agg sz by_ zs) (w:World):(sizeOf T).run P w = .ok sz w:=by
 obtain ⟨i,z,h1,h2,h3,h4,h5⟩:=h.info
 simp [sizeOf,typeInfo,h1,h4]
theorem TyF.zero {P:Program} {T:TypeId} {agg:Bool} {sz by_:Nat} {zs:List Value} (h:TyF P T agg sz by_ zs):∃ z,z.cells=zs.toArray∧∀ w,(zeroValue T).run P w = .ok z w:=by
 obtain ⟨i,z,h1,h2,h3,h4,h5⟩:=h.info
 exact ⟨z,h3,fun w=>by simp [zeroValue,typeInfo,h1,h2]⟩
def PureOp (P:Program) (N:NN) (o:Oper) (l:Fr) (H:World→Prop) (v:Value):Prop:=∀ a w,Frm N l a→H w→(execOp a.eval o).run P w = .ok (.value v) w
section
variable {P:Program} {R:Post} {K:List Lay} {N:NN} {l:Fr} {H:World→Prop} {ops:Array Oper} {rest:List Oper} {d ty:Nat} {op:Op} {pos:String} {af:Array Edge} {v:Value}
theorem lp (hd:Nat.blt d N.n=true) (hp:PureOp P N ⟨some d,op,ty,pos,af,none⟩ l H v) (h:LJ P R ops rest K N ((d,v)::l) H):LJ P R ops (⟨some d,op,ty,pos,af,none⟩::rest) K N l H:=by
 intro a w hf hw
 refine wpList_plain rfl fun K' hK=>?_
 unfold Oper.wp
 rw [hp a w hf hw]
 exact hK _ _ (h _ _ (hf.put hd v) hw)
def gslot (ops:List Oper) (j:Nat):Option Nat:=match nth ops j with | some o=>o.dst | none=>none
theorem wanted_eq {opl:List Oper} {o:Oper} {j e:Nat} {b b':Bool} {a:Act} (hg:o.guard=some (j,b)) (hs:gslot opl j=some e) (hf:Frm N l a) (hv:look l e=some (.bool b')) (he:Nat.blt e N.n=true) :
  Region.wanted o (yielded opl.toArray a.tmps)=(b'==b):=by
 have he':e<N.n:=Nat.lt_of_succ_le (by simpa [Nat.blt] using he)
 have h1:=hf.vals e _ hv
 have h2:a.tmps[e]? = some (.bool b'):=by
  rw [← hf.size] at he'
  rw [Array.getElem?_eq_getElem he']
  rw [Array.getD_eq_getD_getElem?,Array.getElem?_eq_getElem he'] at h1
  simpa using h1
 unfold gslot at hs
 have h3:(opl.toArray[j]?).bind (·.dst)=some e:=by
  rw [List.getElem?_toArray,← nth_eq]
  cases h4:nth opl j with
  | none=>rw [h4] at hs; cases hs
  | some o'=>rw [h4] at hs; exact hs
 unfold Region.wanted yielded
 rw [hg]
 simp only [h3,Option.bind_some,h2]
 cases b <;> cases b' <;> rfl
theorem wanted_undef {opl:List Oper} {o:Oper} {j e:Nat} {b:Bool} {a:Act} (hg:o.guard=some (j,b)) (hs:gslot opl j=some e) (hf:Frm N l a) (hv:look l e=some undef) (he:Nat.blt e N.n=true) :
  Region.wanted o (yielded opl.toArray a.tmps)=false:=by
 have he':e<N.n:=Nat.lt_of_succ_le (by simpa [Nat.blt] using he)
 have h1:=hf.vals e _ hv
 have h2:a.tmps[e]? = some undef:=by
  rw [← hf.size] at he'
  rw [Array.getElem?_eq_getElem he']
  rw [Array.getD_eq_getD_getElem?,Array.getElem?_eq_getElem he'] at h1
  simpa using h1
 unfold gslot at hs
 have h3:(opl.toArray[j]?).bind (·.dst)=some e:=by
  rw [List.getElem?_toArray,← nth_eq]
  cases h4:nth opl j with
  | none=>rw [h4] at hs; cases hs
  | some o'=>rw [h4] at hs; exact hs
 unfold Region.wanted yielded
 rw [hg]
 simp only [h3,Option.bind_some,h2]
 cases b <;> rfl
variable {opl:List Oper} {j e:Nat}
theorem lg (b:Bool) (hs:gslot opl j=some e) (hv:look l e=some (.bool b)) (he:Nat.blt e N.n=true)
  (h:LJ P R opl.toArray (⟨some d,op,ty,pos,af,none⟩::rest) K N l H):LJ P R opl.toArray (⟨some d,op,ty,pos,af,some (j,b)⟩::rest) K N l H:=by
 intro a w hf hw
 have h1:=h a w hf hw
 have h2:=wanted_eq (o:=⟨some d,op,ty,pos,af,some (j,b)⟩) rfl hs hf hv he
 unfold wpList at h1 ⊢
 rw [if_pos (by rw [h2]; simp)]
 rw [if_pos (by simp [Region.wanted])] at h1
 exact h1
theorem ls (b:Bool) (hs:gslot opl j=some e) (hv:look l e=some (.bool (!b))) (he:Nat.blt e N.n=true) (hd:Nat.blt d N.n=true)
  (h:LJ P R opl.toArray rest K N ((d,undef)::l) H):LJ P R opl.toArray (⟨some d,op,ty,pos,af,some (j,b)⟩::rest) K N l H:=by
 intro a w hf hw
 have h2:=wanted_eq (o:=⟨some d,op,ty,pos,af,some (j,b)⟩) rfl hs hf hv he
 exact wpList_skip (by rw [h2]; cases b <;> rfl) (h _ _ (hf.put hd undef) hw)
theorem lsu {b:Bool} (hs:gslot opl j=some e) (hv:look l e=some undef) (he:Nat.blt e N.n=true) (hd:Nat.blt d N.n=true)
  (h:LJ P R opl.toArray rest K N ((d,undef)::l) H):LJ P R opl.toArray (⟨some d,op,ty,pos,af,some (j,b)⟩::rest) K N l H:=by
 intro a w hf hw
 have h2:=wanted_undef (o:=⟨some d,op,ty,pos,af,some (j,b)⟩) rfl hs hf hv he
 exact wpList_skip h2 (h _ _ (hf.put hd undef) hw)
theorem lcase {i:Nat} (b:Bool) (hv:look l i=some (.bool b)) (ht:b=true→LJ P R ops rest K N ((i,.bool true)::l) H) (hf:b=false→LJ P R ops rest K N ((i,.bool false)::l) H):LJ P R ops rest K N l H:=by
 have key:∀ b',b=b'→LJ P R ops rest K N ((i,.bool b')::l) H→LJ P R ops rest K N l H:=by
  intro b' e h a w hfr hw
  subst e
  refine h a w ⟨hfr.defers,hfr.size,fun k u hu=>?_⟩ hw
  rw [look_cons] at hu
  by_cases e:i=k
  ·subst e; rw [if_pos rfl] at hu; cases hu; exact hfr.vals i _ hv
  ·rw [if_neg e] at hu; exact hfr.vals k u hu
 cases hb:b with
 | true=>exact key true hb (ht hb)
 | false=>exact key false hb (hf hb)
end
section
variable {P:Program} {N:NN} {l:Fr} {H:World→Prop} {d:Option Nat} {ty:Nat} {pos:String} {af:Array Edge} {g:Option (Nat × Bool)} {x y z:Operand} {v u:Value} {k:IntKind} {m n:Int} {T T':TypeId} {b c:Bool} {s t:ByteArray}
theorem p_mv (h:ev l x=some v):PureOp P N ⟨d,.move x,ty,pos,af,g⟩ l H v:=fun a w hf _=>by rw [← hf.ev h]; rfl
theorem p_as (h:ev l x=some v):PureOp P N ⟨d,.assign x,ty,pos,af,g⟩ l H v:=fun a w hf _=>by rw [← hf.ev h]; rfl
theorem p_bin {bop:BinOp} (hx:ev l x=some v) (hy:ev l y=some u) {r:Value} (hr:∀ w,((do eqGuard bop T x y v u; binOp bop T v u:Sem Value)).run P w = .ok r w):PureOp P N ⟨d,.binOp bop T x y T',ty,pos,af,g⟩ l H r:=fun a w hf _=>by
 simp only [execOp,hf.ev hx,hf.ev hy,Sem.run_bind]
 have:=hr w
 simp only [Sem.run_bind] at this
 rw [this]
 rfl
theorem p_add (hx:ev l x=some (.int .i64 m)) (hy:ev l y=some (.int .i64 n)):PureOp P N ⟨d,.binOp .add T x y T',ty,pos,af,g⟩ l H (.int .i64 (w64 (m+n))):=p_bin hx hy fun w=>by simp [go_sem,Op.intArith,w64]
theorem p_sub (hx:ev l x=some (.int .i64 m)) (hy:ev l y=some (.int .i64 n)):PureOp P N ⟨d,.binOp .sub T x y T',ty,pos,af,g⟩ l H (.int .i64 (w64 (m - n))):=p_bin hx hy fun w=>by simp [go_sem,Op.intArith,w64]
theorem p_mul (hx:ev l x=some (.int .i64 m)) (hy:ev l y=some (.int .i64 n)):PureOp P N ⟨d,.binOp .mul T x y T',ty,pos,af,g⟩ l H (.int .i64 (w64 (m*n))):=p_bin hx hy fun w=>by simp [go_sem,Op.intArith,w64]
theorem p_quo (hx:ev l x=some (.int .i64 m)) (hy:ev l y=some (.int .i64 n)) (h:n≠0):PureOp P N ⟨d,.binOp .quo T x y T',ty,pos,af,g⟩ l H (.int .i64 (w64 (m.tdiv n))):=p_bin hx hy fun w=>by simp [go_sem,Op.intDiv,w64,h]
theorem p_rem (hx:ev l x=some (.int .i64 m)) (hy:ev l y=some (.int .i64 n)) (h:n≠0):PureOp P N ⟨d,.binOp .rem T x y T',ty,pos,af,g⟩ l H (.int .i64 (m.tmod n)):=p_bin hx hy fun w=>by simp [go_sem,Op.intDiv,h]
theorem p_lss (hx:ev l x=some (.int k m)) (hy:ev l y=some (.int k n)):PureOp P N ⟨d,.binOp .lss T x y T',ty,pos,af,g⟩ l H (.bool (decide (m<n))):=p_bin hx hy fun w=>by simp [go_sem]
theorem p_leq (hx:ev l x=some (.int k m)) (hy:ev l y=some (.int k n)):PureOp P N ⟨d,.binOp .leq T x y T',ty,pos,af,g⟩ l H (.bool (decide (m≤n))):=p_bin hx hy fun w=>by simp [go_sem]
theorem p_gtr (hx:ev l x=some (.int k m)) (hy:ev l y=some (.int k n)):PureOp P N ⟨d,.binOp .gtr T x y T',ty,pos,af,g⟩ l H (.bool (decide (m>n))):=p_bin hx hy fun w=>by simp [go_sem]
theorem p_geq (hx:ev l x=some (.int k m)) (hy:ev l y=some (.int k n)):PureOp P N ⟨d,.binOp .geq T x y T',ty,pos,af,g⟩ l H (.bool (decide (m≥n))):=p_bin hx hy fun w=>by simp [go_sem]
theorem p_eql (hx:ev l x=some (.int k m)) (hy:ev l y=some (.int k n)):PureOp P N ⟨d,.binOp .eql T x y T',ty,pos,af,g⟩ l H (.bool (m==n)):=p_bin hx hy fun w=>by simp [go_sem]
theorem p_neq (hx:ev l x=some (.int k m)) (hy:ev l y=some (.int k n)):PureOp P N ⟨d,.binOp .neq T x y T',ty,pos,af,g⟩ l H (.bool (m != n)):=p_bin hx hy fun w=>by simp [go_sem]
theorem p_eqs (hx:ev l x=some (.string s)) (hy:ev l y=some (.string t)):PureOp P N ⟨d,.binOp .eql T x y T',ty,pos,af,g⟩ l H (.bool (s.toList==t.toList)):=p_bin hx hy fun w=>by rw [eqGuard_at_string]; simp [binOp,Op.stringOp]
theorem p_nes (hx:ev l x=some (.string s)) (hy:ev l y=some (.string t)):PureOp P N ⟨d,.binOp .neq T x y T',ty,pos,af,g⟩ l H (.bool (!(s.toList==t.toList))):=p_bin hx hy fun w=>by rw [eqGuard_at_string]; simp [binOp,Op.stringOp]
theorem p_les (hx:ev l x=some (.string s)) (hy:ev l y=some (.string t)):PureOp P N ⟨d,.binOp .leq T x y T',ty,pos,af,g⟩ l H (.bool (Op.bytesLess s.toList t.toList||s.toList==t.toList)):=p_bin hx hy fun w=>by rw [eqGuard_at_string]; simp [binOp,Op.stringOp]
theorem p_cat (hx:ev l x=some (.string s)) (hy:ev l y=some (.string t)) (h:s.size+t.size≤9223372036854775807):PureOp P N ⟨d,.binOp .add T x y T',ty,pos,af,g⟩ l H (.string (s++t)):=p_bin hx hy fun w=>by
 rw [eqGuard_at_string]
 have h':¬ (9223372036854775807:Int)<(s.size:Int)+(t.size:Int):=by omega
 simp [binOp,Op.stringOp,IntKind.max_i64,h']
theorem p_not (hx:ev l x=some (.bool b)):PureOp P N ⟨d,.unOp .not T x,ty,pos,af,g⟩ l H (.bool (!b)):=fun a w hf _=>by simp [execOp,hf.ev hx,Op.unary]
theorem p_neg (hx:ev l x=some (.int .i64 m)):PureOp P N ⟨d,.unOp .neg T x,ty,pos,af,g⟩ l H (.int .i64 (w64 (0 - m))):=fun a w hf _=>by simp [execOp,hf.ev hx,Op.unary,Op.intArith,w64]
theorem p_pkt (hx:ev l x=some (.bool true)) (hy:ev l y=some v):PureOp P N ⟨d,.pick x y z,ty,pos,af,g⟩ l H v:=fun a w hf _=>by simp [execOp,hf.ev hx,hf.ev hy,asBool]
theorem p_pkf (hx:ev l x=some (.bool false)) (hy:ev l z=some v):PureOp P N ⟨d,.pick x y z,ty,pos,af,g⟩ l H v:=fun a w hf _=>by simp [execOp,hf.ev hx,hf.ev hy,asBool]
theorem p_nc {a:Addr} (hx:ev l x=some (.pointer (some a))):PureOp P N ⟨d,.nilCheck x,ty,pos,af,g⟩ l H (.pointer (some a)):=fun a w hf _=>by simp [execOp,hf.ev hx]
theorem p_ext {vs:List Value} {i:Nat} (hx:ev l x=some (.tuple vs.toArray)) (hi:nth vs i=some v):PureOp P N ⟨d,.extract x i,ty,pos,af,g⟩ l H v:=fun a w hf _=>by
 rw [nth_eq] at hi
 simp [execOp,hf.ev hx,Instr.extract,hi]
theorem p_fn {fn:Fn} {cap:List Operand} {cv:List Value} (hc:cap.mapM (ev l)=some cv):PureOp P N ⟨d,.makeFunc fn #[] cap.toArray,ty,pos,af,g⟩ l H (.func fn #[] cv.toArray):=fun a w hf _=>by
 have:cap.map a.eval=cv:=by
  induction cap generalizing cv with
  | nil=>simpa using hc
  | cons q cap ih =>
   simp only [List.mapM_cons,Option.bind_eq_bind,Option.bind_eq_some_iff,Option.pure_def,Option.some.injEq] at hc
   obtain ⟨u,hu,us,hus,rfl⟩:=hc
   simp [hf.ev hu,ih hus]
 simp [execOp,Instr.makeFunc,this]
theorem p_max (hx:ev l x=some (.int k m)) (hy:ev l y=some (.int k n)) {ats:Array TypeId}:PureOp P N ⟨d,.call { callee:=.builtin .max,args:=#[x,y],argTypes:=ats },ty,pos,af,g⟩ l H (.int k (max m n)):=fun a w hf _=>by
 have:(if n>m then n else m)=max m n:=by rw [Int.max_def]; split <;> split <;> omega
 simp [execOp,resolve,invoke,builtin,hf.ev hx,hf.ev hy,run_max_int2,this]
theorem p_min (hx:ev l x=some (.int k m)) (hy:ev l y=some (.int k n)) {ats:Array TypeId}:PureOp P N ⟨d,.call { callee:=.builtin .min,args:=#[x,y],argTypes:=ats },ty,pos,af,g⟩ l H (.int k (min m n)):=fun a w hf _=>by
 have:(if n<m then n else m)=min m n:=by rw [Int.min_def]; split <;> split <;> omega
 simp [execOp,resolve,invoke,builtin,hf.ev hx,hf.ev hy,run_min_int2,this]
theorem p_lens {T:TypeId} (hT:P.underlying T=some .string) (hx:ev l x=some (.string s)):PureOp P N ⟨d,.call { callee:=.builtin .len,args:=#[x],argTypes:=#[T] },ty,pos,af,g⟩ l H (.int .i64 s.size):=fun a w hf _=>by
 simp [execOp,resolve,invoke,builtin,hf.ev hx,Builtin.len_,run_underlying hT,goInt]
end
end Go.J
namespace Go.J
open Go Go.RowKit
def getI {α : Type} (xs:List α) (i:Int):Option α:=if 0≤i then xs[i.toNat]? else none
theorem getI_spec {α : Type} {xs:List α} {i:Int} {x : α} (h:getI xs i=some x):0≤i∧xs[i.toNat]? = some x:=by
 unfold getI at h
 split at h
 ·exact ⟨‹_›,h⟩
 ·cases h
theorem getI_nat {α : Type} {xs:List α} {i:Nat}:getI xs (i:Int)=xs[i]?:=by unfold getI; simp
theorem RdS.n {α : Type} {R:Rep α} {s:SV} {xs:List α} {w:World} (h:RdS R s.v xs w):s.n=xs.length:=by
 rcases h.2 with ⟨h2,x,cap,h1,_⟩ | ⟨b,off,cap,h1,_⟩
 ·injection h1 with h3 h4 h5; subst h2; simpa using h4
 ·injection h1
theorem RdS.at_ {α : Type} {R:Rep α} {s:SV} {xs:List α} {w:World} (h:RdS R s.v xs w) {i:Nat} {x : α} (hx:xs[i]? = some x) :
  ∃ b off,s.a=some ⟨b,off,none⟩∧∀ j u,(R.enc x)[j]? = some u→w.cell? ⟨b,off+(i*R.sz+j),none⟩=some u:=by
 rcases h.2 with ⟨h2,y,cap,h1,_⟩ | ⟨b,off,cap,h1,_,_,h4⟩
 ·subst h2; cases hx
 ·injection h1 with h5 h6 h7
  refine ⟨b,off,h5,fun j u hu=>h4 _ u ?_⟩
  have hj:j<R.sz:=by rw [← R.len x]; exact (List.getElem?_eq_some_iff.1 hu).1
  rw [R.cells_get xs i j x hx hj]; exact hu
theorem add_at (b off k:Nat):(⟨b,off,none⟩:Addr).add k=⟨b,off+k,none⟩:=Addr.add_lit b off k
def FldF (P:Program) (T:TypeId) (f o:Nat):Prop:=∀ a w,(Instr.fieldAt T (.pointer (some a)) f).run P w = .ok (.pointer (some (a.add o))) w
section
variable {P:Program} {N:NN} {l:Fr} {d:Option Nat} {ty:Nat} {pos:String} {af:Array Edge} {g:Option (Nat × Bool)} {x y z:Operand} {v u:Value} {k:IntKind} {m n:Int} {T E:TypeId}
variable {w0:World} {M:List Nat} {A:Nat→Prop} {es:List Ent} {α : Type} {R:Rep α} {s t:SV} {xs ys:List α} {e : α} {i o j b off:Nat} {sz by_:Nat} {zs cs vs:List Value}
theorem p_len (hT:P.underlying T=some (.slice E)) (hx:ev l x=some s.v) (hr:FactAt es (RdS R s.v xs)) :
  PureOp P N ⟨d,.call { callee:=.builtin .len,args:=#[x],argTypes:=#[T] },ty,pos,af,g⟩ l (Sat w0 M A es) (.int .i64 xs.length):=fun a w hf hw=>by
 have:=(hr.get hw).n
 simp [execOp,resolve,invoke,builtin,hf.ev hx,Builtin.len_,run_underlying hT,goInt,this]
theorem p_lenN {H:World→Prop} (hT:P.underlying T=some (.slice E)) (hx:ev l x=some (.slice none 0 0)) :
  PureOp P N ⟨d,.call { callee:=.builtin .len,args:=#[x],argTypes:=#[T] },ty,pos,af,g⟩ l H (.int .i64 0):=fun a w hf hw=>by
 simp [execOp,resolve,invoke,builtin,hf.ev hx,Builtin.len_,run_underlying hT,goInt]
theorem p_idx {agg:Bool} (hT:P.underlying T=some (.slice R.T)) (hE:TyF P R.T agg R.sz by_ zs) (hx:ev l x=some s.v) (hy:ev l y=some (.int k m)) (hr:FactAt es (RdS R s.v xs)) (he:getI xs m=some e) :
  PureOp P N ⟨d,.indexAddr T x y,ty,pos,af,g⟩ l (Sat w0 M A es) (s.p (m.toNat*R.sz)):=fun a w hf hw=>by
 obtain ⟨h0,h1⟩:=getI_spec he
 have hr':=hr.get hw
 obtain ⟨b,off,ha,_⟩:=hr'.at_ h1
 have hlt:m.toNat<xs.length:=(List.getElem?_eq_some_iff.1 h1).1
 have hn:=hr'.n
 have hm:m<(s.n:Int):=by omega
 simp [execOp,hf.ev hx,hf.ev hy,Instr.indexAt,run_underlying hT,asIntOf,ha,h0,hm,hE.size w,SV.p,SV.at_,add_at]
theorem run_loadVar_s (hE:TyF P T false sz by_ zs) {a:Addr} {w:World} (hc:w.cell? a=some v):(loadVar T a).run P w = .ok v w:=by
 simp [loadVar,hE.agg w,hc]
theorem run_loadVar_a (hE:TyF P T true sz by_ zs) {a:Addr} {w:World} (hl:vs.length=sz) (hc:∀ j v,vs[j]? = some v→w.cell? (a.add j)=some v):(loadVar T a).run P w = .ok (.agg vs.toArray) w:=by
 have:=run_loadCells_list (P:=P) w a vs hc
 rw [hl] at this
 simp [loadVar,hE.agg w,hE.size w,this]
theorem p_lde {q:Nat} (hE:TyF P T false 1 by_ zs) (hx:ev l x=some (s.p q)) (hq:q=i*R.sz+o) (hr:FactAt es (RdS R s.v xs)) (he:xs[i]? = some e) (hv:nth (R.enc e) o=some v) :
  PureOp P N ⟨d,.load T x,ty,pos,af,g⟩ l (Sat w0 M A es) v:=fun a w hf hw=>by
 subst hq
 obtain ⟨b,off,ha,hc⟩:=(hr.get hw).at_ he
 rw [nth_eq] at hv
 have h:=hc o v hv
 simp [execOp,hf.ev hx,Instr.loadAt,Instr.sureAddr,SV.p,SV.at_,ha,run_loadVar_s hE h]
theorem p_lea (hE:TyF P T true R.sz by_ zs) (hx:ev l x=some (s.p (i*R.sz))) (hr:FactAt es (RdS R s.v xs)) (he:xs[i]? = some e) :
  PureOp P N ⟨d,.load T x,ty,pos,af,g⟩ l (Sat w0 M A es) (.agg (R.enc e).toArray):=fun a w hf hw=>by
 obtain ⟨b,off,ha,hc⟩:=(hr.get hw).at_ he
 have h:(loadVar T ⟨b,off+i*R.sz,none⟩).run P w = .ok (.agg (R.enc e).toArray) w:=run_loadVar_a hE (R.len e) fun j v hv=>by rw [add_at,Nat.add_assoc]; exact hc j v hv
 simp [execOp,hf.ev hx,Instr.loadAt,Instr.sureAddr,SV.p,SV.at_,ha,h]
theorem p_fae {q:Nat} (hF:FldF P T j o) (hx:ev l x=some (s.p q)) (hr:FactAt es (RdS R s.v xs)) (he:xs[i]? = some e) :
  PureOp P N ⟨d,.fieldAddr T x j,ty,pos,af,g⟩ l (Sat w0 M A es) (s.p (q+o)):=fun a w hf hw=>by
 obtain ⟨b,off,ha,_⟩:=(hr.get hw).at_ he
 have h:=hF ⟨b,off+q,none⟩ w
 rw [add_at,Nat.add_assoc] at h
 simp [execOp,hf.ev hx,SV.p,SV.at_,ha,h]
theorem p_fab {H:World→Prop} (hF:FldF P T j o) (hx:ev l x=some (.pointer (some ⟨b,off,none⟩))):PureOp P N ⟨d,.fieldAddr T x j,ty,pos,af,g⟩ l H (.pointer (some ⟨b,off+o,none⟩)):=fun a w hf _=>by
 have h:=hF ⟨b,off,none⟩ w
 rw [add_at] at h
 simp [execOp,hf.ev hx,h]
theorem p_lbs {Tb:TypeId} (hE:TyF P T false 1 by_ zs) (hx:ev l x=some (.pointer (some ⟨b,off,none⟩))) (hk:nth es j=some (.box b Tb cs)) (hv:nth cs off=some v) :
  PureOp P N ⟨d,.load T x,ty,pos,af,g⟩ l (Sat w0 M A es) v:=fun a w hf hw=>by
 have h:w.cell? ⟨b,off,none⟩=some v:=by rw [cell_of_row w b off _ _ _ (hw.box hk)]; rw [nth_eq] at hv; simpa using hv
 simp [execOp,hf.ev hx,Instr.loadAt,Instr.sureAddr,run_loadVar_s hE h]
def cut {α : Type _}:List α → Nat→Nat→List α
 | [],_,_=>[]
 | _::cs,n+1,k=>cut cs n k
 | _,0,0=>[]
 | c::cs,0,k+1=>c::cut cs 0 k
theorem cut_eq {α : Type _} (cs:List α) (n k:Nat):cut cs n k=(cs.drop n).take k:=by
 induction cs generalizing n k with
 | nil=>simp [cut]
 | cons c cs ih =>
  cases n with
  | succ n=>simpa [cut] using ih n k
  | zero=>cases k with
   | zero=>rfl
   | succ k=>have:=ih 0 k; simp at this; simp [cut,this]
theorem p_lba {Tb:TypeId} (hE:TyF P T true sz by_ zs) (hx:ev l x=some (.pointer (some ⟨b,off,none⟩))) (hk:nth es j=some (.box b Tb cs)) (hl:Nat.ble (off+sz) cs.length=true) :
  PureOp P N ⟨d,.load T x,ty,pos,af,g⟩ l (Sat w0 M A es) (.agg (cut cs off sz).toArray):=fun a w hf hw=>by
 have hl':off+sz≤cs.length:=by simpa [Nat.ble_eq] using hl
 have h:(loadVar T ⟨b,off,none⟩).run P w = .ok (.agg (cut cs off sz).toArray) w:=run_loadVar_a hE (by rw [cut_eq]; simp; omega) fun q v hv=>by
  rw [add_at,cell_of_row w b (off+q) _ _ _ (hw.box hk)]
  rw [cut_eq,List.getElem?_take] at hv
  split at hv
  ·simpa using hv
  ·cases hv
 simp [execOp,hf.ev hx,Instr.loadAt,Instr.sureAddr,h]
theorem p_lbw {Tb:TypeId} (hE:TyF P T true sz by_ zs) (hx:ev l x=some (.pointer (some ⟨b,0,none⟩))) (hk:nth es j=some (.box b Tb cs)) (hl:cs.length=sz) :
  PureOp P N ⟨d,.load T x,ty,pos,af,g⟩ l (Sat w0 M A es) (.agg cs.toArray):=fun a w hf hw=>by
 have h:(loadVar T ⟨b,0,none⟩).run P w = .ok (.agg cs.toArray) w:=run_loadVar_a hE hl fun q v hv=>by
  rw [add_at,Nat.zero_add,cell_of_row w b q _ _ _ (hw.box hk)]; simpa using hv
 simp [execOp,hf.ev hx,Instr.loadAt,Instr.sureAddr,h]
def evP (l:Fr):List (Nat × Operand)→Option (List (Nat × Value))
 | []=>some []
 | (i,x)::r=>match ev l x with
  | some v=>match evP l r with
   | some q=>some ((i,v)::q)
   | none=>none
  | none=>none
theorem Frm.evP {a:Act} (hf:Frm N l a) {ps:List (Nat × Operand)} {pv:List (Nat × Value)} (h:J.evP l ps=some pv):ps.map (fun (i,x)=>(i,a.eval x))=pv:=by
 induction ps generalizing pv with
 | nil=>cases h; rfl
 | cons p r ih =>
  obtain ⟨i,x⟩:=p
  simp only [J.evP] at h
  cases h1:J.ev l x with
  | none=>rw [h1] at h; cases h
  | some v =>
   rw [h1] at h
   simp only at h
   cases h2:J.evP l r with
   | none=>rw [h2] at h; cases h
   | some q =>
    rw [h2] at h
    cases h
    simp only [List.map_cons,ih h2,hf.ev h1]
def evA (l:Fr):List Operand→Option (List Value)
 | []=>some []
 | x::r=>match ev l x with
  | some v=>match evA l r with
   | some q=>some (v::q)
   | none=>none
  | none=>none
theorem Frm.evA {a:Act} (hf:Frm N l a) {ps:List Operand} {pv:List Value} (h:J.evA l ps=some pv):ps.map a.eval=pv:=by
 induction ps generalizing pv with
 | nil=>cases h; rfl
 | cons x r ih =>
  simp only [J.evA] at h
  cases h1:J.ev l x with
  | none=>rw [h1] at h; cases h
  | some v =>
   rw [h1] at h
   simp only at h
   cases h2:J.evA l r with
   | none=>rw [h2] at h; cases h
   | some q =>
    rw [h2] at h
    cases h
    simp only [List.map_cons,ih h2,hf.ev h1]
theorem p_bld {H:World→Prop} {ps:List (Nat × Operand)} {pv:List (Nat × Value)} (cs:List Value) (hp:evP l ps=some pv) (hb:∀ w,(Instr.build T pv.toArray).run P w = .ok (.agg cs.toArray) w) :
  PureOp P N ⟨d,.build T ps.toArray,ty,pos,af,g⟩ l H (.agg cs.toArray):=fun a w hf _=>by
 have h:=hf.evP hp
 have h2:(ps.toArray.map fun (i,x)=>(i,a.eval x))=pv.toArray:=by rw [← h]; simp
 simp [execOp,h2,hb]
end
section
variable {P:Program} {Rp:Post} {K:List Lay} {N:NN} {l:Fr} {ops:Array Oper} {rest:List Oper} {d:Nat} {ty:Nat} {pos:String} {af:Array Edge} {x y z:Operand} {v u:Value} {T E Tb:TypeId}
variable {w0:World} {M:List Nat} {A:Nat→Prop} {es:List Ent} {α : Type} {R:Rep α} {s t:SV} {xs ys:List α} {e : α} {i o j b off:Nat} {sz by_:Nat} {zs cs vs:List Value}
theorem r_al {ag:Bool} (hE':TyF P T ag sz by_ zs) (hd:Nat.blt d N.n=true) (h:∀ b,LJ P Rp ops rest K N ((d,.pointer (some ⟨b,0,none⟩))::l) (Sat w0 M A (.box b T zs::es))) :
  LJ P Rp ops (⟨some d,.alloc T,ty,pos,af,none⟩::rest) K N l (Sat w0 M A es):=by
 obtain ⟨zv,hz1,hz2⟩:=hE'.zero
 intro a w hf hw
 refine wpList_plain rfl fun K' hK=>?_
 unfold Oper.wp
 have:(execOp a.eval ⟨some d,.alloc T,ty,pos,af,none⟩).run P w = .ok (.value (.pointer (some ⟨w.heap.size,0,none⟩))) (w.alloc (.cells zs.toArray T)):=by
  simp [execOp,Instr.alloc,hz2,newVar,newRow,hz1]
 rw [this]
 exact hK _ _ (h w.heap.size _ _ (hf.put hd _) (hw.alloc T zs))
theorem r_bx (hx:ev l x=some v) (hv:v.cells=cs.toArray) (hd:Nat.blt d N.n=true) (h:∀ b,LJ P Rp ops rest K N ((d,.pointer (some ⟨b,0,none⟩))::l) (Sat w0 M A (.box b T cs::es))) :
  LJ P Rp ops (⟨some d,.box T x,ty,pos,af,none⟩::rest) K N l (Sat w0 M A es):=by
 intro a w hf hw
 refine wpList_plain rfl fun K' hK=>?_
 unfold Oper.wp
 have:(execOp a.eval ⟨some d,.box T x,ty,pos,af,none⟩).run P w = .ok (.value (.pointer (some ⟨w.heap.size,0,none⟩))) (w.alloc (.cells cs.toArray T)):=by
  simp [execOp,Instr.box,hf.ev hx,newVar,newRow,hv]
 rw [this]
 exact hK _ _ (h w.heap.size _ _ (hf.put hd _) (hw.alloc T cs))
def ov {α : Type _}:List α → List α → List α
 | _::cs,v::vs=>v::ov cs vs
 | cs,[]=>cs
 | [],_=>[]
def splice {α : Type _}:List α → Nat→List α → List α
 | c::cs,n+1,vs=>c::splice cs n vs
 | cs,0,vs=>ov cs vs
 | [],_,_=>[]
theorem ov_eq {α : Type _} (cs vs:List α) (h:vs.length≤cs.length):ov cs vs=vs++cs.drop vs.length:=by
 induction cs generalizing vs with
 | nil=>cases vs with
  | nil=>rfl
  | cons v vs=>simp at h
 | cons c cs ih=>cases vs with
  | nil=>rfl
  | cons v vs=>simp [ov]; exact ih vs (by simpa using h)
theorem splice_eq {α : Type _} (cs:List α) (n:Nat) (vs:List α) (h:n+vs.length≤cs.length):splice cs n vs=cs.take n++vs++cs.drop (n+vs.length):=by
 induction cs generalizing n with
 | nil =>
  have h1:n=0:=by simp at h; omega
  have h2:vs=[]:=by simp at h; exact List.eq_nil_of_length_eq_zero (by simp [h.2])
  subst h1; subst h2; rfl
 | cons c cs ih=>cases n with
  | zero=>rw [splice,ov_eq _ _ (by simpa using h)]; simp
  | succ n =>
   have:=ih n (by simp at h ⊢; omega)
   simp [splice,this,Nat.add_right_comm n 1]
theorem r_sb {ag:Bool} (hE:TyF P T ag sz by_ zs) (hx:ev l x=some (.pointer (some ⟨b,off,none⟩))) (hy:ev l y=some v) (hv:v.cells=vs.toArray) (h1:vs.all (·.oneCell')=true) (hs:Nat.beq vs.length sz=true)
  (hk:nth es j=some (.box b Tb cs)) (hl:Nat.ble (off+sz) cs.length=true) (h:LJ P Rp ops rest K N l (Sat w0 M A (setN es j (.box b Tb (splice cs off vs))))) :
  LJ P Rp ops (⟨none,.store T x y,ty,pos,af,none⟩::rest) K N l (Sat w0 M A es):=by
 intro a w hf hw
 have hl':off+sz≤cs.length:=by simpa [Nat.ble_eq] using hl
 have hs':vs.length=sz:=by simpa using hs
 refine wpList_plain rfl fun K' hK=>?_
 unfold Oper.wp
 have hst:=run_storeCells_at P b off Tb vs 0 cs.toArray w (hw.box hk) (by simp; omega) (fun v hv=>List.all_eq_true.1 h1 v hv)
 have:(execOp a.eval ⟨none,.store T x y,ty,pos,af,none⟩).run P w = .ok .skip (w.setRow b (splice cs off vs).toArray):=by
  simp only [Nat.add_zero] at hst
  rw [splice_eq _ _ _ (by omega)]
  simp [execOp,hf.ev hx,hf.ev hy,Instr.storeAt,Instr.sureAddr,storeVar,hv,hE.size w,hs',hst]
 rw [this]
 exact hK _ _ (h _ _ (hf.put_none undef) (hw.set_box hk))
theorem r_bs {T:TypeId} {n:Nat} {ps:List (Nat × Operand)} {pv:List (Nat × Value)} (R:Rep α) (xs:List α) (hp:evP l ps=some pv) (hn:Nat.beq xs.length n=true) (hm:Nat.ble n 1000000=true)
  (hb:∀ w,(Instr.buildSlice T n pv.toArray).run P w = .ok (.slice (some ⟨w.heap.size,0,none⟩) n n) (w.alloc (.cells (R.cells xs).toArray R.T))) (hd:Nat.blt d N.n=true)
  (h:∀ s:SV,LJ P Rp ops rest K N ((d,s.v)::l) (Sat w0 M A (.row R s.v xs::es))) :
  LJ P Rp ops (⟨some d,.buildSlice T n ps.toArray,ty,pos,af,none⟩::rest) K N l (Sat w0 M A es):=by
 intro a w hf hw
 have hn':xs.length=n:=by simpa using hn
 have hm':n≤1000000:=by simpa [Nat.ble_eq] using hm
 refine wpList_plain rfl fun K' hK=>?_
 unfold Oper.wp
 have he:=hf.evP hp
 have h2:(ps.toArray.map fun (i,x)=>(i,a.eval x))=pv.toArray:=by rw [← he]; simp
 have:(execOp a.eval ⟨some d,.buildSlice T n ps.toArray,ty,pos,af,none⟩).run P w = .ok (.value (.slice (some ⟨w.heap.size,0,none⟩) n n)) (w.alloc (.cells (R.cells xs).toArray R.T)):=by
  simp [execOp,h2,hb]
 rw [this]
 refine hK _ _ (h ⟨some ⟨w.heap.size,0,none⟩,n,n⟩ _ _ (hf.put hd _) ?_)
 have hal:=hw.alloc R.T (R.cells xs)
 have:=hal.swap (w':=w.alloc (.cells (R.cells xs).toArray R.T)) (k:=0) (e:=.box w.heap.size R.T (R.cells xs)) (e':=.row R (SV.v ⟨some ⟨w.heap.size,0,none⟩,n,n⟩) xs) rfl (Chg.refl _ _)
  ⟨by rw [R.cells_len],.inr ⟨w.heap.size,n,_,by rw [hn'],Nat.zero_le _,Go.heap_alloc_new w _,by omega,by unfold maxLen; omega,by simp [R.cells_len,hn'],by rw [← R.cells_len]; simp⟩⟩
  (by intro q hq; simp only [Ent.key,Value.ownBlock,Option.some.injEq] at hq; subst hq; exact ⟨by simp,.inr rfl⟩) (fun F hF=>by cases hF)
 exact this
end
end Go.J
namespace Go.J
open Go Go.RowKit
def SubA:Fr→List Value→Prop
 | [],_=>True
 | (i,v)::r,args=>nth args i=some v∧SubA r args
theorem SubA.look {vs:Fr} {args:List Value} (h:SubA vs args):∀ i v,J.look vs i=some v→args[i]? = some v:=by
 induction vs with
 | nil=>intro i v hv; cases hv
 | cons p r ih =>
  obtain ⟨j,u⟩:=p
  intro i v hv
  rw [look_cons] at hv
  by_cases e:j=i
  ·subst e; rw [if_pos rfl] at hv; cases hv; rw [← nth_eq]; exact h.1
  ·rw [if_neg e] at hv; exact ih h.2 i v hv
theorem CJ.imp {P:Program} {R:Post} {c:Code} {K:List Lay} {N:NN} {l:Fr} {H H':World→Prop} (h:CJ P R c K N l H') (hH:∀ w,H w→H' w):CJ P R c K N l H:=fun a w hf hw=>h a w hf (hH w hw)
theorem ownsRow_form {w:World} {e:TypeId} {sz:Nat} {v:Value} {n:Nat} {xs:List Value} (h:w.ownsRow 0 e sz v n xs):∃ s:SV,v=s.v:=by
 rcases h.2 with ⟨rfl,_⟩ | ⟨g,cap,cur,rfl,_⟩
 ·exact ⟨nilS,rfl⟩
 ·exact ⟨⟨some ⟨g,0,none⟩,n,cap⟩,rfl⟩
theorem size_zeroCells' (z:Array Value) (n:Nat):(Builtin.zeroCells z n).size=n*z.size:=by simp [Builtin.zeroCells]
theorem run_app {P:Program} {α : Type} {R:Rep α} {T ty:TypeId} {ag:Bool} {by_:Nat} {zs:List Value} (hT:P.underlying T=some (.slice R.T)) (hE:TyF P R.T ag R.sz by_ zs) (hzs:zs.length=R.sz)
  {v:Value} {xs ys:List α} {t:SV} {w:World} (hown:w.ownsRow 0 R.T R.sz v xs.length (R.cells xs)) (hsrc:RdS R t.v ys w) (hb:(xs.length+ys.length)*by_≤140737488355328) (hb2:xs.length+ys.length≤maxLen) :
  ∃ (s:SV) (w':World),(Builtin.append_ #[T,T] ty #[v,t.v]).run P w = .ok s.v w'∧w'.ownsRow 0 R.T R.sz s.v (xs++ys).length (R.cells (xs++ys))∧Chg v.ownBlock.toList w w' ∧
   (∀ b,s.v.ownBlock=some b→w.heap.size≤b∨v.ownBlock=some b)∧∀ s0:SV,v=s0.v→s0.a.isNone=false→s.a.isNone=false:=by
 obtain ⟨i,z,hi,hz,hzc,hsz,hby⟩:=hE.info
 have hlen:(R.cells (xs++ys)).length=(xs++ys).length*R.sz:=R.cells_len _
 have hml:xs.length+ys.length≤9223372036854775807:=by simpa [maxLen] using hb2
 have hzs':z.cells.size=R.sz:=by rw [hzc]; simpa using hzs
 have grown:∀ (old:Nat) (cells:List Value),cells=R.cells (xs++ys)→old<xs.length+ys.length→∀ (c:Nat),c=grownCap w (xs.length+ys.length) old R.T →
   (w.drew.alloc (.cells (cells.toArray++Builtin.zeroCells z.cells (c - (xs.length+ys.length))) R.T)).ownsRow 0 R.T R.sz (SV.v ⟨some ⟨w.heap.size,0,none⟩,xs.length+ys.length,c⟩) (xs++ys).length (R.cells (xs++ys)):=by
  intro old cells hc ho c hcc
  have hge:=grownCap_ge w (xs.length+ys.length) old R.T
  have hcm:grownCap w (xs.length+ys.length) old R.T≤maxLen:=grownCap_le_maxLen w _ old R.T hb2
  subst hc hcc
  refine ⟨hlen,.inr ⟨w.heap.size,_,_,by rw [List.length_append],Nat.zero_le _,Go.heap_alloc_new w.drew _,by rw [List.length_append]; exact hge,hcm,?_,?_⟩⟩
  ·simp only [Array.size_append,List.size_toArray,size_zeroCells',hzs',hlen,List.length_append,← Nat.add_mul]
   congr 1
   omega
  ·simp only [Array.toList_append]
   rw [← hlen]
   exact List.take_left
 rcases hsrc.2 with ⟨h2,x0,cap0,h1,_⟩ | ⟨b,off,cap,h1,h2,h3,h4⟩
 ·
  subst h2
  obtain ⟨s,rfl⟩:=ownsRow_form hown
  refine ⟨s,w,?_,by simpa using hown,Chg.refl _ _,fun b hb=>.inr hb,fun s0 e h=>by injection e with e1; rw [e1]; exact h⟩
  rw [h1]
  have hle:s.n≤s.c:=by
   rcases hown.2 with ⟨h5,h6⟩ | ⟨g,cap,cur,h5,_,_,h6,_⟩
   ·injection h5 with _ h7 h8; omega
   ·injection h5 with _ h7 h8; omega
  simp only [SV.v]
  cases ha:s.a with
  | none=>cases x0 <;> simp [Builtin.append_,run_underlying hT,sizeOf,typeInfo,hi,Builtin.lenOf,hle,Builtin.firstCells,loadCells,loadCellsFrom]
  | some a=>cases x0 <;> simp [Builtin.append_,run_underlying hT,sizeOf,typeInfo,hi,Builtin.lenOf,hle,Builtin.firstCells,storeCells,loadCells,loadCellsFrom]
 ·rw [h1]
  have hl:(R.cells ys).length=ys.length*i.size:=by rw [hsz]; exact R.cells_len ys
  have hnews:∀ j u,(R.cells ys)[j]? = some u→w.cell? ((⟨b,off,none⟩:Addr).add j)=some u:=fun j u hu=>by rw [add_at]; exact h4 j u hu
  rcases hown.2 with ⟨rfl,h6⟩ | ⟨g,c0,cur,rfl,_,hg,hn,hcm,hcs,ht⟩
  ·have hx:xs=[]:=List.eq_nil_of_length_eq_zero h6
   subst hx
   by_cases hm:ys.length=0
   ·have hy:ys=[]:=List.eq_nil_of_length_eq_zero hm
    subst hy
    refine ⟨nilS,w,?_,hown,Chg.refl _ _,fun b hb=>.inr hb,fun s0 e h=>by injection e with e1; rw [← e1] at h; cases h⟩
    simp [Builtin.append_,run_underlying hT,sizeOf,typeInfo,hi,Builtin.lenOf,Builtin.firstCells,loadCells,loadCellsFrom,nilS]
   ·have hr:=run_append_nil (P:=P) w T ty R.T i z hT hi hz ⟨b,off,none⟩ ys.length cap (R.cells ys) hl hnews (by omega) (by simp at hml; omega) (by rw [hby]; simp at hb; omega)
    have hgr:=grown 0 (R.cells ys) (by simp) (by simp; omega) _ rfl
    simp only [List.length_nil,Nat.zero_add] at hgr
    refine ⟨⟨some ⟨w.heap.size,0,none⟩,ys.length,_⟩,_,hr,hgr,⟨rfl,rfl,rfl,by simp,fun k hk _=>Below.heap_alloc w.drew _ k hk⟩,fun k hk=>?_,fun _ _ _=>rfl⟩
    simp only [Value.ownBlock,Option.some.injEq] at hk
    exact .inl (by omega)
  ·have holds:∀ j u,(R.cells xs)[j]? = some u→w.cell? ((⟨g,0,none⟩:Addr).add j)=some u:=hown.cells (g:=g) rfl
   by_cases hroom:xs.length+ys.length≤c0
   ·have hfit:xs.length*i.size+(R.cells ys).length≤cur.size:=by rw [hl,hcs,hsz,← Nat.add_mul]; exact Nat.mul_le_mul_right _ hroom
    have hr:=run_append_room (P:=P) w T ty R.T i hT hi g xs.length c0 cur hg ⟨b,off,none⟩ ys.length cap (R.cells ys) hl hnews (R.cells_one ys) hroom hfit
    refine ⟨⟨some ⟨g,0,none⟩,xs.length+ys.length,c0⟩,_,hr,⟨hlen,.inr ⟨g,c0,_,by rw [List.length_append],Nat.zero_le _,setRow_heap w g cur _ R.T _ hg,by rw [List.length_append]; exact hroom,hcm,?_,?_⟩⟩,⟨rfl,rfl,rfl,by simp,fun k _ hk=>setRow_other w g k _ (fun e=>hk (by simp [Value.ownBlock,e]))⟩,fun k hk=>.inr hk,fun _ _ _=>rfl⟩
    ·rw [hsz] at hfit ⊢
     simp only [List.size_toArray,List.length_append,List.length_take,List.length_drop,Array.length_toList]
     omega
    ·rw [hsz,ht,← hlen,R.cells_append]
     exact List.take_left
   ·have hr:=run_append_grow (P:=P) w T ty R.T i z hT hi hz ⟨g,0,none⟩ xs.length c0 (R.cells xs) (by rw [hsz]; exact R.cells_len xs) holds ⟨b,off,none⟩ ys.length cap (R.cells ys) hl hnews (by omega) (by omega) (by rw [hby]; exact growslice_fits (by omega) hb)
    have hgr:=grown c0 (R.cells xs++R.cells ys) (by rw [R.cells_append]) (by omega) _ rfl
    simp only [← List.append_toArray] at hgr
    refine ⟨⟨some ⟨w.heap.size,0,none⟩,xs.length+ys.length,_⟩,_,hr,hgr,⟨rfl,rfl,rfl,by simp,fun k hk _=>Below.heap_alloc w.drew _ k hk⟩,fun k hk=>?_,fun _ _ _=>rfl⟩
    simp only [Value.ownBlock,Option.some.injEq] at hk
    exact .inl (by omega)
def appM {α : Type} (by_:Nat) (xs ys:List α):Option (List α):=if (xs.length+ys.length)*by_≤140737488355328∧xs.length+ys.length≤maxLen then some (xs++ys) else none
theorem appM_spec {α : Type} {by_:Nat} {xs ys zs:List α} (h:appM by_ xs ys=some zs):zs=xs++ys∧(xs.length+ys.length)*by_≤140737488355328∧xs.length+ys.length≤maxLen:=by
 unfold appM at h
 split at h
 ·cases h; exact ⟨rfl,‹_›⟩
 ·cases h
section
variable {P:Program} {Rp:Post} {K:List Lay} {N:NN} {l:Fr} {ops:Array Oper} {rest:List Oper} {d:Nat} {ty:Nat} {pos:String} {af:Array Edge} {g:Option (Nat × Bool)} {x y z:Operand} {v u:Value} {T E Tb:TypeId}
variable {w0:World} {M:List Nat} {A:Nat→Prop} {es:List Ent} {α : Type} {R:Rep α} {s t:SV} {xs ys qs:List α} {e : α} {i o j k b off:Nat} {sz by_:Nat} {zs cs vs:List Value} {m n:Int}
theorem r_app {ag:Bool} (hT:P.underlying T=some (.slice R.T)) (hE:TyF P R.T ag R.sz by_ zs) (hzs:zs.length=R.sz) (hx:ev l x=some s.v) (hy:ev l y=some t.v) (hk:nth es k=some (.row R s.v xs)) (hr:FactAt es (RdS R t.v ys))
  (hq:appM by_ xs ys=some qs) (hd:Nat.blt d N.n=true) (h:∀ s':SV,LJ P Rp ops rest K N ((d,s'.v)::l) (Sat w0 M A (setN es k (.row R s'.v qs)))) :
  LJ P Rp ops (⟨some d,.call { callee:=.builtin .append,args:=#[x,y],argTypes:=#[T,T] },ty,pos,af,none⟩::rest) K N l (Sat w0 M A es):=by
 intro a w hf hw
 obtain ⟨rfl,hb,hb2⟩:=appM_spec hq
 refine wpList_plain rfl fun K' hK=>?_
 unfold Oper.wp
 obtain ⟨s',w',hrun,hown,hc,hkey,-⟩:=run_app (P:=P) (ty:=ty) hT hE hzs (hw.row hk) (hr.get hw) hb hb2
 have:(execOp a.eval ⟨some d,.call { callee:=.builtin .append,args:=#[x,y],argTypes:=#[T,T] },ty,pos,af,none⟩).run P w = .ok (.value s'.v) w':=by
  simp [execOp,resolve,invoke,builtin,hf.ev hx,hf.ev hy,hrun]
 rw [this]
 refine hK _ _ (h s' _ _ (hf.put hd _) (hw.swap hk hc hown (fun b hb=>?_) (fun F hF=>by cases hF)))
 exact ⟨(World.ownsRow.lt hown b hb).2,hkey b hb⟩
theorem Sat.nil_row {w:World} (h:Sat w0 M A es w) (R:Rep α):Sat w0 M A (.row R (.slice none 0 0) []::es) w:=by
 have:=h.step (w':=w) [] (by simp) (Chg.refl _ _) es [.row R (.slice none 0 0) []] (List.Sublist.refl _) (by simp) List.nodup_nil (fun k hk=>by change k∈([]:List Nat) at hk; cases hk)
  (by intro e he; simp at he; subst he; exact World.ownsRow_nil w 0 R.T R.sz) (by intro e he; simp at he; subst he; intros; trivial)
 exact this.perm List.perm_append_comm
theorem r_nil (R:Rep α) (h:LJ P Rp ops rest K N l (Sat w0 M A (.row R (SV.v nilS) []::es))):LJ P Rp ops rest K N l (Sat w0 M A es):=fun a w hf hw=>h a w hf (hw.nil_row R)
theorem cj_nil {c:Code} (R:Rep α) (h:CJ P Rp c K N l (Sat w0 M A (.row R (SV.v nilS) []::es))):CJ P Rp c K N l (Sat w0 M A es):=fun a w hf hw=>h a w hf (hw.nil_row R)
theorem RdS.nil (R:Rep α) (w:World):RdS R (SV.v nilS) [] w:=⟨by simp [maxLen],.inl ⟨rfl,none,0,rfl,by simp [maxLen]⟩⟩
def sliceI {α : Type} (xs:List α) (lo hi:Int):Option (List α):=if 0≤lo∧lo≤hi∧hi≤xs.length then some ((xs.drop lo.toNat).take (hi.toNat - lo.toNat)) else none
theorem sliceI_spec {xs qs:List α} {lo hi:Int} (h:sliceI xs lo hi=some qs):∃ a b:Nat,lo=a∧hi=b∧a≤b∧b≤xs.length∧qs=(xs.drop a).take (b - a):=by
 unfold sliceI at h
 split at h
 ·cases h; exact ⟨lo.toNat,hi.toNat,by omega,by omega,by omega,by omega,rfl⟩
 ·cases h
def SV.sub (s:SV) (sz a b:Nat):SV:=⟨if s.c=a then s.a else s.a.map (·.add (a*sz)),b - a,s.c - a⟩
theorem RdS.sub {w:World} (h:RdS R s.v xs w) {a b:Nat} (hab:a≤b) (hb:b≤xs.length):RdS R (s.sub R.sz a b).v ((xs.drop a).take (b - a)) w:=by
 have hn:=h.n
 have hlen:((xs.drop a).take (b - a)).length=b - a:=by simp; omega
 refine ⟨by rw [hlen]; have:=h.1; omega,?_⟩
 rcases h.2 with ⟨h2,x0,cap0,h1,hm⟩ | ⟨g,off,cap,h1,h2,h3,h4⟩
 ·subst h2
  simp at hb
  subst hb
  have:a=0:=by omega
  subst this
  injection h1 with h5 h6 h7
  exact .inl ⟨by simp,_,s.c - 0,rfl,by omega⟩
 ·injection h1 with h5 h6 h7
  by_cases hc:s.c=a
  ·have:b=a:=by omega
   subst this
   refine .inr ⟨g,off,s.c - b,by simp [SV.sub,hc,h5],by omega,by omega,?_⟩
   intro j u hu
   simp [Rep.cells] at hu
  ·refine .inr ⟨g,off+a*R.sz,s.c - a,by simp [SV.sub,hc,h5,add_at]; omega,by omega,by omega,?_⟩
   intro j u hu
   rw [Nat.add_assoc]
   apply h4
   have e1:xs=xs.take a++((xs.drop a).take (b - a)++(xs.drop a).drop (b - a)):=by rw [List.take_append_drop,List.take_append_drop]
   have e2:(R.cells (xs.take a)).length=a*R.sz:=by rw [R.cells_len,List.length_take,Nat.min_eq_left (by omega)]
   rw [e1,R.cells_append,R.cells_append,List.getElem?_append_right (by rw [e2]; omega),e2,show a*R.sz+j - a*R.sz=j by omega]
   rw [List.getElem?_append_left (List.getElem?_eq_some_iff.1 hu).1]
   exact hu
theorem run_sliceBound {w:World} {i y:Nat} {code:BoundsCode} (h:i≤y):(Instr.sliceBound (.int .i64 i) y code).run P w = .ok i w:=by
 have h':(0:Int)≤(i:Int)∧(i:Int)≤(y:Int):=by omega
 unfold Instr.sliceBound
 simp only [asIntOf,Sem.run_bind,Sem.run_pure,Result.andThen_ok]
 rw [if_pos h']
 simp
theorem run_sliceBounds {w:World} {n c:Nat} {lo hi:Option Value} {a b:Nat} (hab:a≤b) (hb:b≤n) (hn:n≤c)
  (hlo:lo=some (.int .i64 a)∨(lo=none∧a=0)) (hhi:hi=some (.int .i64 b)∨(hi=none∧b=n)):(Instr.sliceBounds true n c lo hi none).run P w = .ok (a,b,c) w:=by
 have h1:∀ code,(Instr.sliceBound (.int .i64 (b:Int)) c code).run P w = .ok b w:=fun code=>run_sliceBound (by omega)
 have h2:∀ code,(Instr.sliceBound (.int .i64 (a:Int)) b code).run P w = .ok a w:=fun code=>run_sliceBound hab
 unfold Instr.sliceBounds
 rcases hlo with rfl | ⟨rfl,rfl⟩ <;> rcases hhi with rfl | ⟨rfl,rfl⟩
 all_goals simp only [Sem.run_bind,Sem.run_pure,Result.andThen_ok,h1,h2]
theorem run_sliceAt {w:World} {lo hi:Option Value} {a b:Nat} {ag:Bool} (hT:P.underlying T=some (.slice R.T)) (hE:TyF P R.T ag R.sz by_ zs) (h:RdS R s.v xs w) (hab:a≤b) (hb:b≤xs.length)
  (hlo:lo=some (.int .i64 a)∨(lo=none∧a=0)) (hhi:hi=some (.int .i64 b)∨(hi=none∧b=xs.length)):(Instr.sliceAt T s.v lo hi none).run P w = .ok (s.sub R.sz a b).v w:=by
 have hn:=h.n
 have hcap:xs.length≤s.c:=by
  rcases h.2 with ⟨h2,x0,cap0,h1,hm⟩ | ⟨g,off,cap,h1,h2,h3,h4⟩
  ·subst h2; simp
  ·injection h1 with h5 h6 h7; omega
 rw [← hn] at hb hhi
 have hB:=run_sliceBounds (P:=P) (w:=w) (c:=s.c) hab hb (by omega) hlo hhi
 simp only [Instr.sliceAt,Sem.run_bind,run_underlying hT,Result.andThen_ok,Instr.slice,hB,hE.size w,Sem.run_pure]
 rfl
def evO (l:Fr):Option Operand→Option (Option Value)
 | none=>some none
 | some x=>match ev l x with
  | some v=>some (some v)
  | none=>none
theorem Frm.evO {a:Act} (hf:Frm N l a) {q:Option Operand} {r:Option Value} (h:J.evO l q=some r):q.map a.eval=r:=by
 cases q with
 | none=>cases h; rfl
 | some x =>
  simp only [J.evO] at h
  cases h1:J.ev l x with
  | none=>rw [h1] at h; cases h
  | some v=>rw [h1] at h; cases h; simp [hf.ev h1]
def loV (o:Option Value):Int:=match o with | some (.int _ n)=>n | _=>0
def hiV (o:Option Value) (n:Int):Int:=match o with | some (.int _ n)=>n | _=>n
def boundV:Option Value→Bool
 | none=>true
 | some (.int .i64 _)=>true
 | _=>false
theorem r_call {f:FuncId} {c:Operand} {as:List Operand} {ats:Array TypeId} {cv avs:List Value} {xs:List Ent} {rs:List Ent} {fs:List (World→Prop)} {X:Type} {V:X→Value} {post:X→List Ent} (ks:List Nat)
  (hcf:∀ args w,(callFunc f args).run P w = .ok (.enter f args) w) (hc:ev l c=some (.func (.func f) #[] cv.toArray)) (ha:evA l as=some avs)
  (hctr:Ctr P f (avs++cv).toArray xs fs V post) (hp:picks ks es=some (xs,rs)) (hxs:noRo xs=true) (hfs:Facts rs fs) (hpost:∀ x,noRo (post x)=true) (hd:Nat.blt d N.n=true)
  (h:∀ x,LJ P Rp ops rest K N ((d,V x)::l) (Sat w0 M A (post x++rs))) :
  LJ P Rp ops (⟨some d,.call { callee:=.value c,args:=as.toArray,argTypes:=ats },ty,pos,af,none⟩::rest) K N l (Sat w0 M A es):=by
 intro a w hf hw
 refine wpList_plain rfl fun K' hK=>?_
 unfold Oper.wp
 have h1:=hf.evA ha
 have:(execOp a.eval ⟨some d,.call { callee:=.value c,args:=as.toArray,argTypes:=ats },ty,pos,af,none⟩).run P w = .ok (.enter f (avs++cv).toArray) w:=by
  simp [execOp,resolve,Deferred.ofValue,hf.ev hc,invoke,hcf,← h1]
 rw [this]
 refine (hctr.use hw hp hxs hfs hpost).mono ?_
 rintro e w' ⟨q,rfl,hq⟩
 exact hK _ _ (h q _ _ (hf.put hd _) hq)
theorem ctr_mk {n:Nat} {f:FuncId} {fn:Func} {c:Code} {args:List Value} {xs:List Ent} {fs:List (World→Prop)} {X:Type} {V:X→Value} {post:X→List Ent} {vs:Fr} (hf:P.funcs[f]? = some fn) (hb:fn.body=some c) (hn:fn.ntmps=n)
  (hlen:Nat.ble args.length n=true) (hvs:SubA vs args)
  (h:∀ w0 A,CJ P (bodyPost P fn fun e w'=>∃ x,e = .returned (V x)∧Sat w0 (keys xs) A (post x) w') c [] ⟨n,[]⟩ vs (Sat w0 (keys xs) A (xs++fs.map Ent.ro))) :
  Ctr P f args.toArray xs fs V post:=fun w A hs=>calls_cj hf hb hn hlen hvs.look ((h w A).imp (fun w' e=>by subst e; exact hs))
end
end Go.J
namespace Go.J
open Go Go.RowKit
def Flow.fin {σ ρ : Type} (f:Flow σ ρ) (k : σ → Option ρ):Option ρ:=match f with | .nxt _=>none | .brk s=>k s | .ret v=>some v
def Sum.fin {σ τ : Type} (q : σ ⊕ τ) (k : σ → Option τ):Option τ:=match q with | .inl s=>k s | .inr v=>some v
theorem Flow.fin_b {σ τ : Type} {s : σ} {k : σ → Option τ} {f:Flow σ τ} {r:Option τ} (e:f = .brk s) (h:f.fin k=r):k s=r:=by subst e; exact h
theorem Sum.fin_l {σ τ : Type} {s : σ} {k : σ → Option τ} {q : σ ⊕ τ} {r:Option τ} (e:q = .inl s) (h:Sum.fin q k=r):k s=r:=by subst e; exact h
def rangeI (n:Int):Option (List Nat):=if n≤9223372036854775807 then some (List.range n.toNat) else none
theorem rangeI_spec {n:Int} {xs:List Nat} (h:rangeI n=some xs):(∀ i:Nat,(i:Int)<n↔i<xs.length)∧xs.length≤maxLen:=by
 unfold rangeI at h
 split at h
 ·cases h
  refine ⟨fun i=>by simp only [List.length_range]; omega,by simp only [List.length_range,maxLen]; omega⟩
 ·cases h
theorem nat_lt (n:Nat) (i:Nat):(i:Int)<(n:Int)↔i<n:=by omega
inductive ResOK (P:Program) (l:Fr) (es:List Ent):List ResultVar→List Value→Prop where
 | nil:ResOK P l es [] []
 | tmp {i:Nat} {v:Value} {rs:List ResultVar} {vs:List Value} (h:look l i=some v) (t:ResOK P l es rs vs):ResOK P l es (.tmp i::rs) (v::vs)
 | agg {i b k sz by_:Nat} {T Tb:TypeId} {cs zs:List Value} {rs:List ResultVar} {vs:List Value} (hE:TyF P T true sz by_ zs) (h:look l i=some (.pointer (some ⟨b,0,none⟩))) (hk:nth es k=some (.box b Tb cs)) (hl:cs.length=sz)
   (t:ResOK P l es rs vs):ResOK P l es (.cell i T::rs) (.agg cs.toArray::vs)
 | one {i b k by_:Nat} {T Tb:TypeId} {v:Value} {zs:List Value} {rs:List ResultVar} {vs:List Value} (hE:TyF P T false 1 by_ zs) (h:look l i=some (.pointer (some ⟨b,0,none⟩))) (hk:nth es k=some (.box b Tb [v]))
   (t:ResOK P l es rs vs):ResOK P l es (.cell i T::rs) (v::vs)
def resOf (tmps:Array Value):ResultVar→Sem Value
 | .tmp t=>pure (tmps.getD t undef)
 | .cell q t=>do loadVar t (← asAddr (tmps.getD q undef))
theorem run_resOf_cell {P:Program} {tmps:Array Value} {q:Nat} {T:TypeId} {w:World} {ad:Addr} {v:Value} (h:tmps.getD q undef = .pointer (some ad)) (h2:(loadVar T ad).run P w = .ok v w):(resOf tmps (.cell q T)).run P w = .ok v w:=by
 show (Sem.run P (asAddr (tmps.getD q undef) >>= loadVar T) w)=_
 rw [h,Sem.run_bind]
 exact h2
theorem ResOK.run {P:Program} {l:Fr} {es:List Ent} {rs:List ResultVar} {vs:List Value} (h:ResOK P l es rs vs) {N:NN} {a:Act} {w0 w:World} {M:List Nat} {A:Nat→Prop} (hf:Frm N l a) (hw:Sat w0 M A es w) :
  (rs.mapM (resOf a.tmps)).run P w = .ok vs w:=by
 induction h with
 | nil=>rfl
 | tmp h _ ih =>
  rw [List.mapM_cons]
  simp only [Sem.run_bind]
  show (Result.andThen (Result.ok (a.tmps.getD _ undef) w) _)=_
  rw [Result.andThen_ok,ih,hf.vals _ _ h]
  rfl
 | agg hE h hk hl _ ih =>
  rename_i i b k sz by_ T Tb cs zs rs vs _ht
  rw [List.mapM_cons]
  have h2:=hf.vals _ _ h
  have h3:(loadVar T ⟨b,0,none⟩).run P w = .ok (.agg cs.toArray) w:=run_loadVar_a hE hl fun q v hv=>by
   rw [add_at,Nat.zero_add,cell_of_row w b q _ _ _ (hw.box hk)]; simpa using hv
  simp only [Sem.run_bind,run_resOf_cell h2 h3,Sem.run_pure,Result.andThen_ok,ih]
 | one hE h hk _ ih =>
  rename_i i b k by_ T Tb v zs rs vs _ht
  rw [List.mapM_cons]
  have h2:=hf.vals _ _ h
  have h3:(loadVar T ⟨b,0,none⟩).run P w = .ok v w:=run_loadVar_s hE (by rw [cell_of_row w b 0 _ _ _ (hw.box hk)]; rfl)
  simp only [Sem.run_bind,run_resOf_cell h2 h3,Sem.run_pure,Result.andThen_ok,ih]
def packV:List Value→Value
 | [v]=>v
 | vs=>.tuple vs.toArray
theorem results_ok {P:Program} {fn:Func} {l:Fr} {es:List Ent} {rs:List ResultVar} {vs:List Value} (hres:fn.results=rs.toArray) (h:ResOK P l es rs vs) {N:NN} {a:Act} {w0 w:World} {M:List Nat} {A:Nat→Prop} (hf:Frm N l a) (hw:Sat w0 M A es w) :
  (results fn a.tmps).run P w = .ok (packV vs) w:=by
 have h1:=h.run hf hw
 unfold results
 rw [hres,List.mapM_toArray]
 simp only [Sem.run_bind,Sem.run_map]
 show (Result.andThen (Result.andThen (Sem.run P (List.mapM (resOf a.tmps) rs) w) _) _)=_
 rw [h1]
 simp only [Result.andThen_ok,Sem.run_pure]
 congr 1
 match vs with
 | []=>rfl
 | [v]=>rfl
 | _::_::_=>simp [packV]
section
variable {P:Program} {K:List Lay} {N:NN} {l:Fr} {w0:World} {M:List Nat} {A:Nat→Prop} {es r:List Ent} {rs:List ResultVar} {vs:List Value} {fn:Func} {X:Type} {V:X→Value} {post:X→List Ent}
theorem cj_rt {n:Nat} (x:X) (ks:List Nat) (hres:fn.results=rs.toArray) (h:ResOK P l es rs vs) (hv:packV vs=V x) (hp:picks ks es=some (post x,r)) :
  CJ P (bodyPost P fn fun e w'=>∃ x,e = .returned (V x)∧Sat w0 M A (post x) w') .ret K ⟨n,[]⟩ l (Sat w0 M A es) :=
 cj_ret fun _ _ hf hw=>⟨hf.defers,_,results_ok hres h hf hw,x,by rw [hv],hw.picks ks hp⟩
theorem nj_rt {n:Nat} (x:X) (ks:List Nat) (hres:fn.results=rs.toArray) (h:ResOK P l es rs vs) (hv:packV vs=V x) (hp:picks ks es=some (post x,r)) :
  NJ P (bodyPost P fn fun e w'=>∃ x,e = .returned (V x)∧Sat w0 M A (post x) w') [] ⟨n,[]⟩ l (Sat w0 M A es) :=
 nj_end fun _ _ hf hw=>⟨hf.defers,_,results_ok hres h hf hw,x,by rw [hv],hw.picks ks hp⟩
end
def FLe (l' l:Fr):Prop:=∀ i v,look l' i=some v→look l i=some v
theorem Frm.le {N:NN} {l l':Fr} {a:Act} (h:Frm N l a) (hs:FLe l' l):Frm N l' a:=⟨h.defers,h.size,fun i v hv=>h.vals i v (hs i v hv)⟩
section
variable {P:Program} {R:Post} {K:List Lay} {N:NN} {fr:Fr} {H:World→Prop}
theorem cj_range0 {α σ γ ρ : Type} {xs:List α} {step:Nat → α → σ → Option (Flow σ ρ)} {s0 : σ} {f:Flow σ ρ} {m:Int} {bodyc:Code} {b0 b1 r1 r2 tc ti tn td T1 T2 T3 T4 ty1 ty2 ty3:Nat} {p1 p2 p3:String} {a1 a2 a3:Array Edge}
  (hs:rangeM step 0 xs s0=some f) (g0 : γ) (l : σ → γ → Fr) (Hs : σ → γ → World→Prop) (hl:SubF ((ti,.int .i64 0)::(tn,.int .i64 m)::l s0 g0) fr) (hH:∀ w,H w→Hs s0 g0 w) (hm:∀ i:Nat,(i:Int)<m↔i<xs.length) (hmx:xs.length≤maxLen)
  (hfr:∀ s c,look (l s c) tc=none∧look (l s c) td=none∧look (l s c) ti=none∧look (l s c) tn=none) (hne:Nat.beq tc ti=false∧Nat.beq tc tn=false∧Nat.beq td tn=false∧Nat.beq ti tn=false∧Nat.beq td ti=false) (hb1:Nat.blt tc N.n=true) (hb2:Nat.blt td N.n=true) (hb3:Nat.blt ti N.n=true)
  (after:∀ s c,f = .brk s→NJ P R K N (l s c) (Hs s c))
  (body:∀ (i:Nat) (x : α) (s : σ) (c : γ) (g:Flow σ ρ),xs[i]? = some x→step i x s=some g→∀ J : σ → Prop,(∀ s',g = .nxt s'→J s')→(∀ s',g = .brk s'→f = .brk s')→(∀ v,g = .ret v→f = .ret v) →
   ∀ I:Act→World→Prop,(∀ (fr':Fr) (H':World→Prop) (s' : σ) (c' : γ),J s'→SubF ((ti,.int .i64 i)::(tn,.int .i64 m)::l s' c') fr'→(∀ w,H' w→Hs s' c' w)→NJ P R (.inv I :: .blk b0::K) N fr' H') →
   CJ P R bodyc (.blk b1 :: .inv I :: .blk b0::K) N ((ti,.int .i64 i)::(tn,.int .i64 m)::l s c) (Hs s c)) :
  CJ P R (.block b0 (.loop (.seq (.region r1 #[⟨some tc,.binOp .lss T1 (.tmp ti) (.tmp tn) T2,ty1,p1,a1,none⟩] false) (.seq (.cond (.tmp tc) .skip (.exit b0)) (.seq (.block b1 bodyc)
   (.region r2 #[⟨some td,.binOp .add T3 (.tmp ti) (.const (.int .i64 1)) T4,ty2,p2,a2,none⟩,⟨some ti,.move (.tmp td),ty3,p3,a3,none⟩] false)))))) K N fr H:=by
 have n1:tc≠ti:=fun e=>by have:=hne.1; rw [e] at this; simp at this
 have n2:tc≠tn:=fun e=>by have:=hne.2.1; rw [e] at this; simp at this
 have n3:td≠tn:=fun e=>by have:=hne.2.2.1; rw [e] at this; simp at this
 have n4:ti≠tn:=fun e=>by have:=hne.2.2.2.1; rw [e] at this; simp at this
 have n5:td≠ti:=fun e=>by have:=hne.2.2.2.2; rw [e] at this; simp at this
 refine cj_blk (cj_loop (σ:=Nat × σ × γ) (fun q=>(ti,.int .i64 q.1)::(tn,.int .i64 m)::l q.2.1 q.2.2) (fun q=>Hs q.2.1 q.2.2) (fun n q=>n=xs.length - q.1∧q.1≤xs.length∧rangeM step q.1 (xs.drop q.1) q.2.1=some f) xs.length (0,s0,g0)
  ⟨by simp,Nat.zero_le _,by simpa using hs⟩ hl hH ?_)
 rintro n ⟨i,s,c⟩ ⟨hn,hi,hrun⟩
 simp only at hn hi hrun
 have le1:∀ v,FLe ((ti,.int .i64 (i:Int))::(tn,.int .i64 m)::l s c) ((tc,v)::(ti,.int .i64 (i:Int))::(tn,.int .i64 m)::l s c):=by
  intro v j u hj
  rw [look_cons]
  by_cases e:tc=j
  ·subst e
   rw [look_cons,if_neg n1.symm,look_cons,if_neg n2.symm,(hfr s c).1] at hj
   cases hj
  ·rw [if_neg e]; exact hj
 refine cj_rseq (lp hb1 (p_lss (x:=.tmp ti) (y:=.tmp tn) (m:=(i:Int)) (n:=m) (k:=.i64) ?_ ?_) (lj_seq (cj_seq (cj_if (b:=decide ((i:Int)<m)) ?_ (fun hb=>?_) (fun hb=>?_)))))
 ·simp only [ev]; rw [look_cons,if_pos rfl]
 ·simp only [ev]; rw [look_cons,if_neg n4,look_cons,if_pos rfl]
 ·simp only [ev]; rw [look_cons,if_pos rfl]
 ·have hlt:i<xs.length:=(hm i).1 (by simpa using hb)
  have hd:xs.drop i=xs[i]::xs.drop (i+1):=List.drop_eq_getElem_cons hlt
  rw [hd] at hrun
  obtain ⟨g,hg,h2⟩:=bindS hrun
  refine cj_skip (nj_seq (cj_seq (cj_blk ?_)))
  -- the body's own continuation
  have hbody:=body i xs[i] s c g (List.getElem?_eq_getElem hlt) hg (fun s'=>rangeM step (i+1) (xs.drop (i+1)) s'=some f) (fun s' e=>by subst e; exact h2) (fun s' e=>by subst e; cases h2; rfl) (fun v e=>by subst e; cases h2; rfl)
   (fun a w=>Code.wpS P (Code.region r2 #[⟨some td,.binOp .add T3 (.tmp ti) (.const (.int .i64 1)) T4,ty2,p2,a2,none⟩,⟨some ti,.move (.tmp td),ty3,p3,a3,none⟩] false)
    (QK P R (.inv (fun a w=>∃ (n':Nat) (q':Nat × σ × γ),n'<n∧(n'=xs.length - q'.1∧q'.1≤xs.length∧rangeM step q'.1 (xs.drop q'.1) q'.2.1=some f)∧Frm N ((ti,.int .i64 q'.1)::(tn,.int .i64 m)::l q'.2.1 q'.2.2) a∧Hs q'.2.1 q'.2.2 w) :: .blk b0::K)) a w)
   ?_
  ·intro a w hf hw
   refine wpS_mono (hbody a w (hf.le (le1 _)) hw) ?_
   intro e a' w' hq
   cases e with
   | normal=>exact hq
   | exit id =>
    by_cases e:id=b1
    ·subst e
     simp only [QK,Exit.inBlock,if_true,Exit.then] at hq ⊢
     exact hq
    ·simp only [QK,Exit.inBlock,if_neg e,Exit.then] at hq ⊢
     exact hq
   | goto l=>exact hq
   | ret=>exact hq
   | panic ch=>exact hq
   | outgrown=>exact hq
  ·intro fr' H' s' c' hJ hsub hH'
   refine nj_inv fun a w hf hw=>?_
   have hf0:=hf.sub hsub
   have hw64:w64 ((i:Int)+1)=((i+1:Nat):Int):=by
    rw [w64_id]
    ·rfl
    ·unfold maxLen at hmx; omega
   have hstep:CJ P R (Code.region r2 #[⟨some td,.binOp .add T3 (.tmp ti) (.const (.int .i64 1)) T4,ty2,p2,a2,none⟩,⟨some ti,.move (.tmp td),ty3,p3,a3,none⟩] false)
     (.inv (fun a w=>∃ (n':Nat) (q':Nat × σ × γ),n'<n∧(n'=xs.length - q'.1∧q'.1≤xs.length∧rangeM step q'.1 (xs.drop q'.1) q'.2.1=some f)∧Frm N ((ti,.int .i64 q'.1)::(tn,.int .i64 m)::l q'.2.1 q'.2.2) a∧Hs q'.2.1 q'.2.2 w) :: .blk b0::K) N
     ((ti,.int .i64 (i:Int))::(tn,.int .i64 m)::l s' c') (Hs s' c'):=by
    refine cj_reg (lp hb2 (p_add (m:=(i:Int)) (n:=1) ?_ rfl) (lp hb3 (p_mv (v:=.int .i64 (w64 ((i:Int)+1))) ?_) (lj_nil (nj_inv fun a w hf hw=>⟨xs.length - (i+1),(i+1,s',c'),by omega,⟨rfl,hlt,hJ⟩,hf.le ?_,hw⟩))))
    ·simp only [ev]; rw [look_cons,if_pos rfl]
    ·simp only [ev]; rw [look_cons,if_pos rfl]
    ·intro j u hj
     rw [look_cons] at hj ⊢
     by_cases e1:ti=j
     ·rw [if_pos e1] at hj ⊢; rw [hw64]; exact hj
     ·rw [if_neg e1] at hj ⊢
      rw [look_cons] at hj
      by_cases e2:tn=j
      ·subst e2
       rw [if_pos rfl] at hj
       rw [look_cons,if_neg n3,look_cons,if_neg n4,look_cons,if_pos rfl]
       exact hj
      ·rw [if_neg e2] at hj
       have e3:td≠j:=fun e=>by subst e; rw [(hfr s' c').2.1] at hj; cases hj
       rw [look_cons,if_neg e3,look_cons,if_neg e1,look_cons,if_neg e2]
       exact hj
   exact hstep a w hf0 (hH' w hw)
 ·have hge:¬ i<xs.length:=fun h=>by have:=(hm i).2 h; simp at hb; omega
  have hd:xs.drop i=[]:=List.drop_eq_nil_of_le (by omega)
  rw [hd] at hrun
  simp only [rangeM,Option.some.injEq] at hrun
  refine cj_exit (K':=K) ?_ (fun a w hf hw=>after s c hrun.symm a w (hf.le ?_) hw)
  ·simp [target]
  ·intro j u hj
   rw [look_cons,if_neg (fun e=>by subst e; rw [(hfr s c).1] at hj; cases hj),look_cons,if_neg (fun e=>by subst e; rw [(hfr s c).2.2.1] at hj; cases hj),look_cons,if_neg (fun e=>by subst e; rw [(hfr s c).2.2.2] at hj; cases hj)]
   exact hj
theorem cj_range {α σ γ ρ : Type} {xs:List α} {step:Nat → α → σ → Option (Flow σ ρ)} {s0 : σ} {f:Flow σ ρ} {m:Int} {bodyc:Code} {b0 b1 r1 r2 tc ti tn td T1 T2 T3 T4 ty1 ty2 ty3:Nat} {p1 p2 p3:String} {a1 a2 a3:Array Edge}
  (hs:rangeM step 0 xs s0=some f) (g0 : γ) (l : σ → γ → Fr) (Hs : σ → γ → World→Prop) (hl:SubF ((ti,.int .i64 0)::(tn,.int .i64 m)::l s0 g0) fr) (hH:∀ w,H w→Hs s0 g0 w) (hm:∀ i:Nat,(i:Int)<m↔i<xs.length) (hmx:∀ w,H w→xs.length≤maxLen)
  (hfr:∀ s c,look (l s c) tc=none∧look (l s c) td=none∧look (l s c) ti=none∧look (l s c) tn=none) (hne:Nat.beq tc ti=false∧Nat.beq tc tn=false∧Nat.beq td tn=false∧Nat.beq ti tn=false∧Nat.beq td ti=false) (hb1:Nat.blt tc N.n=true) (hb2:Nat.blt td N.n=true) (hb3:Nat.blt ti N.n=true)
  (after:∀ s c,f = .brk s→NJ P R K N (l s c) (Hs s c))
  (body:(∀ s c,f = .brk s→NJ P R K N (l s c) (Hs s c))→∀ (i:Nat) (x : α) (s : σ) (c : γ) (g:Flow σ ρ),xs[i]? = some x→step i x s=some g→∀ J : σ → Prop,(∀ s',g = .nxt s'→J s')→(∀ s',g = .brk s'→f = .brk s')→(∀ v,g = .ret v→f = .ret v) →
   ∀ I:Act→World→Prop,(∀ (fr':Fr) (H':World→Prop) (s' : σ) (c' : γ),J s'→SubF ((ti,.int .i64 i)::(tn,.int .i64 m)::l s' c') fr'→(∀ w,H' w→Hs s' c' w)→NJ P R (.inv I :: .blk b0::K) N fr' H') →
   CJ P R bodyc (.blk b1 :: .inv I :: .blk b0::K) N ((ti,.int .i64 i)::(tn,.int .i64 m)::l s c) (Hs s c)) :
  CJ P R (.block b0 (.loop (.seq (.region r1 #[⟨some tc,.binOp .lss T1 (.tmp ti) (.tmp tn) T2,ty1,p1,a1,none⟩] false) (.seq (.cond (.tmp tc) .skip (.exit b0)) (.seq (.block b1 bodyc)
   (.region r2 #[⟨some td,.binOp .add T3 (.tmp ti) (.const (.int .i64 1)) T4,ty2,p2,a2,none⟩,⟨some ti,.move (.tmp td),ty3,p3,a3,none⟩] false)))))) K N fr H :=
 fun a w hf hw=>cj_range0 hs g0 l Hs hl hH hm (hmx w hw) hfr hne hb1 hb2 hb3 after (body after) a w hf hw
end
section
variable {P:Program} {R:Post} {K:List Lay} {N:NN} {fr l:Fr} {H:World→Prop} {ops:Array Oper} {rest:List Oper}
theorem QK_seq_inv {y:Code} {J:Act→World→Prop} (h:∀ a w,J a w→Code.wpS P y (QK P R K) a w):∀ e a w,QK P R (.inv J::K) e a w→QK P R (.seq y::K) e a w:=by
 intro e a w hq
 cases e with
 | normal=>exact h a w hq
 | exit id=>exact hq
 | goto l=>exact hq
 | ret=>exact hq
 | panic ch=>exact hq
 | outgrown=>exact hq
theorem Oper.wp_mono2 {o:Oper} {a:Act} {w:World} {K K':Act→World→Prop} {Q Q':Post} (hK:∀ a w,K a w→K' a w) (hQ:∀ e a w,Q e a w→Q' e a w) (hh:o.wp P a w K Q):o.wp P a w K' Q':=by
 unfold Oper.wp at *
 generalize (execOp a.eval o).run P w=r at *
 cases r with
 | ok n w' =>
  cases n <;> simp only [Oper.upon] at hh ⊢ <;>
   first
    | exact hK _ _ hh
    | exact Calls.mono hh (fun e w'' he=>by cases e <;> first | exact hK _ _ he | exact hQ _ _ _ he | (obtain ⟨a,w,h⟩:=he; exact ⟨a,w,hQ _ _ _ h⟩))
    | exact Rows.mono hh (fun _ _ he=>hK _ _ he)
 | halt x w'=>cases x <;> simp only [Oper.upon] at hh ⊢ <;> first | exact hQ _ _ _ hh | exact hh
theorem wpList_mono {Q Q':Post} (hQ:∀ e a w,Q e a w→Q' e a w):∀ {l:List Oper} {a:Act} {w:World},wpList P ops Q l a w→wpList P ops Q' l a w
 | [],_,_,h=>hQ _ _ _ h
 | o::l,a,w,h=>by
  unfold wpList at h ⊢
  split
  ·rename_i hw
   rw [if_pos hw] at h
   rcases h with h | ⟨h1,a',w',h2⟩
   ·exact .inl (Oper.wp_mono2 (fun _ _ h=>wpList_mono hQ h) hQ h)
   ·exact .inr ⟨h1,a',w',hQ _ _ _ h2⟩
  ·rename_i hw
   rw [if_neg hw] at h
   exact wpList_mono hQ h
theorem lj_join {σ γ : Type} {y:Code} (p : σ → Prop) (l' : σ → γ → Fr) (H' : σ → γ → World→Prop) (hy:∀ s c,p s→CJ P R y K N (l' s c) (H' s c))
  (hx:∀ J:Act→World→Prop,(∀ (fr':Fr) (Hc:World→Prop) s c,p s→SubF (l' s c) fr'→(∀ w,Hc w→H' s c w)→NJ P R (.inv J::K) N fr' Hc)→LJ P R ops rest (.inv J::K) N l H):LJ P R ops rest (.seq y::K) N l H:=by
 intro a w hf hw
 have h:=hx (fun a w=>∃ s c,p s∧Frm N (l' s c) a∧H' s c w) (fun fr' Hc s c hp hl hH=>nj_inv fun a w hf hw=>⟨s,c,hp,hf.sub hl,hH w hw⟩) a w hf hw
 have hmono:=QK_seq_inv (P:=P) (R:=R) (K:=K) (y:=y) (J:=fun a w=>∃ s c,p s∧Frm N (l' s c) a∧H' s c w) (fun a w ⟨s,c,hp,hf,hw⟩=>hy s c hp a w hf hw)
 clear hx
 exact wpList_mono hmono h
theorem cj_joinK {σ γ : Type} {x y:Code} (p : σ → Prop) (l' : σ → γ → Fr) (H' : σ → γ → World→Prop) (hy:∀ s c,p s→CJ P R y K N (l' s c) (H' s c))
  (hx:∀ J:Act→World→Prop,(∀ (fr':Fr) (Hc:World→Prop) s c,p s→SubF (l' s c) fr'→(∀ w,Hc w→H' s c w)→NJ P R (.inv J::K) N fr' Hc)→CJ P R x (.inv J::K) N l H):CJ P R x (.seq y::K) N l H:=by
 intro a w hf hw
 have h:=hx (fun a w=>∃ s c,p s∧Frm N (l' s c) a∧H' s c w) (fun fr' Hc s c hp hl hH=>nj_inv fun a w hf hw=>⟨s,c,hp,hf.sub hl,hH w hw⟩) a w hf hw
 exact wpS_mono h (QK_seq_inv fun a w ⟨s,c,hp,hf,hw⟩=>hy s c hp a w hf hw)
theorem cj_whileG {σ γ ρ : Type} {c:Code} {step : σ → Option (Flow σ ρ)} {s0 : σ} {f:Flow σ ρ} (hs:loopM step s0=some f) (g0 : γ) (l : σ → γ → Fr) (Hs : σ → γ → World→Prop) (hl:SubF (l s0 g0) fr) (hH:∀ w,H w→Hs s0 g0 w)
  (round:∀ (s : σ) (q : γ) (g:Flow σ ρ),step s=some g→∀ J : σ → Prop,(∀ s',g = .nxt s'→J s')→(∀ s',g = .brk s'→f = .brk s')→(∀ v,g = .ret v→f = .ret v) →
   ∀ I:Act→World→Prop,(∀ (fr':Fr) (H':World→Prop) s' q',J s'→SubF (l s' q') fr'→(∀ w,H' w→Hs s' q' w)→NJ P R (.inv I::K) N fr' H')→CJ P R c (.inv I::K) N (l s q) (Hs s q)):CJ P R (.loop c) K N fr H:=by
 obtain ⟨n0,hn0⟩:=runN_of_loopM hs
 refine cj_loop (σ:=σ × γ) (fun s=>l s.1 s.2) (fun s=>Hs s.1 s.2) (fun n s=>runN step n s.1=some f) n0 (s0,g0) hn0 hl hH ?_
 rintro n ⟨s,q⟩ hn
 cases n with
 | zero=>cases hn
 | succ n =>
  obtain ⟨g,hg,h2⟩:=bindS hn
  refine round s q g hg (fun s'=>runN step n s'=some f) (fun s' e=>by subst e; exact h2) (fun s' e=>by subst e; cases h2; rfl) (fun v e=>by subst e; cases h2; rfl) _ ?_
  intro fr' H' s' q' hJ hl' hH'
  exact nj_round (σ:=σ × γ) (l:=fun s=>l s.1 s.2) (Hs:=fun s=>Hs s.1 s.2) n (s',q') (Nat.lt_succ_self n) hJ hl' hH'
theorem cj_whileA {σ γ ρ : Type} {c:Code} {b0:Nat} {step : σ → Option (Flow σ ρ)} {s0 : σ} {f:Flow σ ρ} (hs:loopM step s0=some f) (g0 : γ) (l : σ → γ → Fr) (Hs : σ → γ → World→Prop) (hl:SubF (l s0 g0) fr) (hH:∀ w,H w→Hs s0 g0 w)
  (after:∀ s q,f = .brk s→NJ P R K N (l s q) (Hs s q))
  (round:(∀ s q,f = .brk s→NJ P R K N (l s q) (Hs s q))→∀ (s : σ) (q : γ) (g:Flow σ ρ),step s=some g→∀ J : σ → Prop,(∀ s',g = .nxt s'→J s')→(∀ s',g = .brk s'→f = .brk s')→(∀ v,g = .ret v→f = .ret v) →
   ∀ I:Act→World→Prop,(∀ (fr':Fr) (H':World→Prop) s' q',J s'→SubF (l s' q') fr'→(∀ w,H' w→Hs s' q' w)→NJ P R (.inv I :: .blk b0::K) N fr' H')→CJ P R c (.inv I :: .blk b0::K) N (l s q) (Hs s q)):CJ P R (.block b0 (.loop c)) K N fr H :=
 cj_blk (cj_whileG hs g0 l Hs hl hH (round after))
end
def QJ (P:Program) (R:Post) (ops:Array Oper) (K:List Lay) (rest:List Oper) (N:NN) (l:Fr) (H:World→Prop):Prop:=∀ a,Frm N l a→wpQuiet P ops H (fun a'=>∀ w',H w'→QK P R K .normal a' w') rest a
section
variable {P:Program} {R:Post} {K:List Lay} {N:NN} {l:Fr} {H:World→Prop} {ops:Array Oper} {rest opl:List Oper} {d ty j e id:Nat} {op:Op} {pos:String} {af:Array Edge} {v:Value}
variable {w0:World} {M:List Nat} {A:Nat→Prop} {es:List Ent}
theorem wpS_region_quiet {ops:Array Oper} {C:World→Prop} {Q:Post} {a:Act} {w:World} (hm:P.follows .mixedOrders=true) (hB:Region.lexB .any ops=true) (hC:C { w with drawn:=w.drawn+1 })
  (h:wpQuiet P ops C (fun a'=>∀ w',C w'→Q .normal a' w') ops.toList a):Code.wpS P (.region id ops true) Q a w:=by
 simp only [Region.lexB,Bool.and_eq_true] at hB
 refine wpS_region_any hm (wpAny_of_quiet (Q:=fun a'=>∀ w',C w'→Q .normal a' w') (fun _ w' hw' h=>h w' hw') _ _ _ _ hC ?_)
 have:=wpAnyQ_lex (C:=C) (md:=.any) hB.1 ops.toList 0 (Array.replicate ops.size false) a (by simp) (by simpa using hB.2) h
 simpa using this
theorem cj_quiet (hm:P.follows .mixedOrders=true) (hB:Region.lexB .any opl.toArray=true) (h:QJ P R opl.toArray K opl N l (Sat w0 M A es)):CJ P R (.region id opl.toArray true) K N l (Sat w0 M A es) :=
 fun a _ hf hw=>wpS_region_quiet hm hB hw.drew (by simpa using h a hf)
theorem q_nil (h:NJ P R K N l H):QJ P R ops K [] N l H:=fun a hf w' hw'=>h a w' hf hw'
theorem q_p (hd:Nat.blt d N.n=true) (hp:PureOp P N ⟨some d,op,ty,pos,af,none⟩ l H v) (h:QJ P R ops K rest N ((d,v)::l) H):QJ P R ops K (⟨some d,op,ty,pos,af,none⟩::rest) N l H:=by
 intro a hf
 refine wpQuiet_step fun K' hK=>?_
 rw [if_pos (by simp [Region.wanted])]
 refine ⟨v,fun w hw=>?_,hK _ (h _ (hf.put hd v))⟩
 unfold Oper.quietAt
 rw [hp a w hf hw]
 exact ⟨rfl,rfl⟩
theorem q_g (b:Bool) (hs:gslot opl j=some e) (hv:look l e=some (.bool b)) (he:Nat.blt e N.n=true)
  (h:QJ P R opl.toArray K (⟨some d,op,ty,pos,af,none⟩::rest) N l H):QJ P R opl.toArray K (⟨some d,op,ty,pos,af,some (j,b)⟩::rest) N l H:=by
 intro a hf
 have h1:=h a hf
 have h2:=wanted_eq (o:=⟨some d,op,ty,pos,af,some (j,b)⟩) rfl hs hf hv he
 unfold wpQuiet at h1 ⊢
 rw [if_pos (by rw [h2]; simp)]
 rw [if_pos (by simp [Region.wanted])] at h1
 exact h1
theorem q_s (b:Bool) (hs:gslot opl j=some e) (hv:look l e=some (.bool (!b))) (he:Nat.blt e N.n=true) (hd:Nat.blt d N.n=true)
  (h:QJ P R opl.toArray K rest N ((d,undef)::l) H):QJ P R opl.toArray K (⟨some d,op,ty,pos,af,some (j,b)⟩::rest) N l H:=by
 intro a hf
 have h2:=wanted_eq (o:=⟨some d,op,ty,pos,af,some (j,b)⟩) rfl hs hf hv he
 refine wpQuiet_step fun K' hK=>?_
 rw [if_neg (by rw [h2]; cases b <;> simp)]
 exact hK _ (h _ (hf.put hd undef))
theorem q_su {b:Bool} (hs:gslot opl j=some e) (hv:look l e=some undef) (he:Nat.blt e N.n=true) (hd:Nat.blt d N.n=true)
  (h:QJ P R opl.toArray K rest N ((d,undef)::l) H):QJ P R opl.toArray K (⟨some d,op,ty,pos,af,some (j,b)⟩::rest) N l H:=by
 intro a hf
 have h2:=wanted_undef (o:=⟨some d,op,ty,pos,af,some (j,b)⟩) rfl hs hf hv he
 refine wpQuiet_step fun K' hK=>?_
 rw [if_neg (by rw [h2]; simp)]
 exact hK _ (h _ (hf.put hd undef))
theorem q_case {i:Nat} (b:Bool) (hv:look l i=some (.bool b)) (ht:b=true→QJ P R ops K rest N ((i,.bool true)::l) H) (hf:b=false→QJ P R ops K rest N ((i,.bool false)::l) H):QJ P R ops K rest N l H:=by
 have key:∀ b',b=b'→QJ P R ops K rest N ((i,.bool b')::l) H→QJ P R ops K rest N l H:=by
  intro b' e h a hfr
  subst e
  refine h a ⟨hfr.defers,hfr.size,fun k u hu=>?_⟩
  rw [look_cons] at hu
  by_cases e:i=k
  ·subst e; rw [if_pos rfl] at hu; cases hu; exact hfr.vals i _ hv
  ·rw [if_neg e] at hu; exact hfr.vals k u hu
 cases hb:b with
 | true=>exact key true hb (ht hb)
 | false=>exact key false hb (hf hb)
theorem q_call {f:FuncId} {c:Operand} {as:List Operand} {ats:Array TypeId} {cv avs:List Value} {fs:List (World→Prop)} {X:Type} {V:X→Value} {post:X→List Ent} (v:Value)
  (hcf:∀ args w,(callFunc f args).run P w = .ok (.enter f args) w) (hc:ev l c=some (.func (.func f) #[] cv.toArray)) (ha:evA l as=some avs)
  (hctr:Ctr P f (avs++cv).toArray [] fs V post) (hfs:Facts es fs) (hpost:∀ x,post x=[]) (hV:∀ x,V x=v) (hd:Nat.blt d N.n=true)
  (h:QJ P R ops K rest N ((d,v)::l) (Sat w0 M A es)) :
  QJ P R ops K (⟨some d,.call { callee:=.value c,args:=as.toArray,argTypes:=ats },ty,pos,af,none⟩::rest) N l (Sat w0 M A es):=by
 intro a hf
 refine wpQuiet_step fun K' hK=>?_
 rw [if_pos (by simp [Region.wanted])]
 refine ⟨v,fun w hw=>?_,hK _ (h _ (hf.put hd v))⟩
 have h1:=hf.evA ha
 have:(execOp a.eval ⟨some d,.call { callee:=.value c,args:=as.toArray,argTypes:=ats },ty,pos,af,none⟩).run P w = .ok (.enter f (avs++cv).toArray) w:=by
  simp [execOp,resolve,Deferred.ofValue,hf.ev hc,invoke,hcf,← h1]
 unfold Oper.quietAt
 rw [this]
 refine ⟨rfl,(hctr.use hw (ks:=[]) (xs:=[]) (rest:=es) rfl rfl hfs (fun x=>by rw [hpost x]; rfl)).mono ?_⟩
 rintro e w' ⟨q,rfl,hq⟩
 rw [hpost q] at hq
 exact ⟨by rw [hV q],hq⟩
end
end Go.J
namespace Go.J
open Go Go.RowKit
def quoM (a b:Int):Option Int:=if b=0 then none else some (w64 (a.tdiv b))
def remM (a b:Int):Option Int:=if b=0 then none else some (a.tmod b)
def catM (a b:ByteArray):Option ByteArray:=if a.size+b.size≤9223372036854775807 then some (a++b) else none
section
variable {P:Program} {N:NN} {l:Fr} {H:World→Prop} {d:Option Nat} {ty:Nat} {pos:String} {af:Array Edge} {g:Option (Nat × Bool)} {x y:Operand} {m n r:Int} {T T':TypeId} {s t u:ByteArray}
theorem p_quoM (h:quoM m n=some r) (hx:ev l x=some (.int .i64 m)) (hy:ev l y=some (.int .i64 n)):PureOp P N ⟨d,.binOp .quo T x y T',ty,pos,af,g⟩ l H (.int .i64 r):=by
 unfold quoM at h
 split at h
 ·cases h
 ·cases h; exact p_quo hx hy ‹_›
theorem p_remM (h:remM m n=some r) (hx:ev l x=some (.int .i64 m)) (hy:ev l y=some (.int .i64 n)):PureOp P N ⟨d,.binOp .rem T x y T',ty,pos,af,g⟩ l H (.int .i64 r):=by
 unfold remM at h
 split at h
 ·cases h
 ·cases h; exact p_rem hx hy ‹_›
theorem p_catM (h:catM s t=some u) (hx:ev l x=some (.string s)) (hy:ev l y=some (.string t)):PureOp P N ⟨d,.binOp .add T x y T',ty,pos,af,g⟩ l H (.string u):=by
 unfold catM at h
 split at h
 ·cases h; exact p_cat hx hy ‹_›
 ·cases h
end
def EqV (P:Program) (d:Nat) (T:TypeId) (u v:Value) (b:Bool):Prop:=∀ w,(Op.equalIn d T u v).run P w = .ok b w
def EqFs (P:Program) (d:Nat) (xs ys:Array Value) (fs:List Field) (b:Bool):Prop:=∀ w,(Op.eqFields d xs ys fs).run P w = .ok b w
section
variable {P:Program} {d:Nat} {T:TypeId} {xs ys:Array Value} {fs:List Field} {f:Field} {b c:Bool} {k:IntKind}
theorem eqv_int (h:P.underlying T=some (.int k)) (m n:Int):EqV P (d+1) T (.int k m) (.int k n) (m==n):=fun w=>run_equalIn_int w d T k k m n h
theorem eqv_bool (h:P.underlying T=some .bool) (m n:Bool):EqV P (d+1) T (.bool m) (.bool n) (m==n):=fun w=>run_equalIn_bool w d T m n h
theorem eqv_str (h:P.underlying T=some .string) (m n:ByteArray):EqV P (d+1) T (.string m) (.string n) (m==n):=fun w=>by rw [beq_toListBytes]; exact run_equalIn_string w d T m n h
theorem eqf_nil:EqFs P d xs ys [] true:=fun _=>rfl
theorem eqf_cons (u v : Value) (hn : f.name ≠ "_") (hu : ∀ w, (part f.type xs f.offset).run P w = .ok u w) (hv : ∀ w, (part f.type ys f.offset).run P w = .ok v w) (h : EqV P d f.type u v b) (t : EqFs P d xs ys fs c) : EqFs P d xs ys (f :: fs) (b && c) := by
 intro w
 simp only [Op.eqFields,if_pos hn,Sem.run_bind,hu,hv,Result.andThen_ok,h w]
 cases b
 ·simp
 ·simpa using t w
theorem eqv_struct (hu:P.underlying T=some (.struct fs.toArray)) (hp:P.stoodInHeld T=false) (h:EqFs P d xs ys fs b):EqV P (d+1) T (.agg xs) (.agg ys) b:=by
 have hf:P.fieldsOf T=fs.toArray:=by unfold Program.fieldsOf; rw [hu]
 intro w
 rw [run_equalIn_struct w d T xs ys (by rw [hf]; exact hu) hp,hf]
 exact h w
theorem p_nest {N:NN} {l:Fr} {H:World→Prop} {dd:Option Nat} {ty T':Nat} {pos:String} {af:Array Edge} {g:Option (Nat × Bool)} {x y:Operand} (hm:P.eqGuardType P.depth T=false) (hx:ev l x=some (.agg xs)) (hy:ev l y=some (.agg ys)) (h:EqV P 10000 T (.agg xs) (.agg ys) b) :
  PureOp P N ⟨dd,.binOp .neq T x y T',ty,pos,af,g⟩ l H (.bool (!b)):=p_bin hx hy fun w=>by
 simp only [Sem.run_bind,run_eqGuard_agg w _ _ _ _ _ _ hm,Result.andThen_ok,run_neq_struct,h w]
end
def SJ (P:Program) (R:Post) (ops:Array Oper) (K:List Lay) (hd tl:List Oper) (N:NN) (l:Fr) (H:World→Prop):Prop:=∀ a w,Frm N l a→H w→wpStill P ops w (fun a'=>wpList P ops (QK P R K) tl a' w) hd a
section
variable {P:Program} {R:Post} {K:List Lay} {N:NN} {l:Fr} {H:World→Prop} {ops:Array Oper} {rest tl opl:List Oper} {d ty j e id:Nat} {op:Op} {pos:String} {af:Array Edge} {v:Value}
variable {w0:World} {M:List Nat} {A:Nat→Prop} {es:List Ent}
theorem wpS_tail {Q:Post} {a:Act} {w:World} (n:Nat) (hm:P.follows .mixedOrders=true) (hB:Region.lexTailB .any opl.toArray n=true)
  (h:wpStill P opl.toArray { w with drawn:=w.drawn+1 } (fun a'=>wpList P opl.toArray Q (opl.drop n) a' { w with drawn:=w.drawn+1 }) (opl.take n) a):Code.wpS P (.region id opl.toArray true) Q a w:=by
 refine wpS_region_any hm ?_
 unfold Region.lexTailB at hB
 simp only [Bool.and_eq_true,decide_eq_true_eq,List.size_toArray] at hB
 have hlen:=hB.1.1.1.2
 have hd:(opl.drop n).length=opl.toArray.size - n:=by rw [List.length_drop,List.size_toArray]
 have ht:(opl.take n).length=n:=List.length_take_of_le (Nat.le_of_lt hlen)
 have hfr:HeadInv .any opl.toArray n (Array.replicate opl.toArray.size false):=by
  refine ⟨by simp,fun j oj _ hl=>?_,fun t _ hlt=>?_⟩
  ·rw [getD_replicate_false] at hl; cases hl
  ·exact getD_in (by simpa using hlt) (getD_replicate_false _ _)
 have hget:∀ j,j<(opl.take n).length→(opl.take n)[j]? = opl.toArray[0+j]?:=fun j hj=>by
  rw [ht] at hj
  simp [hj]
 have hlex:=hB.2
 have key:=wpAnyL_lex (md:=.any) (g:=opl.toArray.size - n) hB.1.1.1.1 hB.1.1.2 hB.1.2 (by simpa using hlen) (opl.take n) 0 _ a hget (by rw [ht,Nat.zero_add]) hfr (by rw [ht]; simpa using hlex) h
 have tailed:=wpAny_of_head (Q':=Q) (g:=opl.toArray.size - n) (fun listed a' hL=>by
  have e:=wpAny_of_seq (md:=.any) (Q':=Q) (opl.drop n) n listed a' { w with drawn:=w.drawn+1 } (fun j=>by simp [List.getElem?_drop]) (by rw [hd]; exact hL.1) hL.2
  rw [hd] at e
  exact e) _ _ _ key
 have hs:(opl.take n).length+(opl.toArray.size - n)=opl.toArray.size:=by rw [ht,List.size_toArray]; omega
 rw [hs] at tailed
 exact tailed
theorem cj_tail (n:Nat) (hm:P.follows .mixedOrders=true) (hB:Region.lexTailB .any opl.toArray n=true) (h:SJ P R opl.toArray K (opl.take n) (opl.drop n) N l (Sat w0 M A es)):CJ P R (.region id opl.toArray true) K N l (Sat w0 M A es) :=
 fun a _ hf hw=>wpS_tail n hm hB (h a _ hf hw.drew)
theorem s_nil (h:LJ P R ops tl K N l H):SJ P R ops K [] tl N l H:=fun a w hf hw=>h a w hf hw
theorem s_p (hd:Nat.blt d N.n=true) (hp:PureOp P N ⟨some d,op,ty,pos,af,none⟩ l H v) (h:SJ P R ops K rest tl N ((d,v)::l) H):SJ P R ops K (⟨some d,op,ty,pos,af,none⟩::rest) tl N l H:=by
 intro a w hf hw
 refine wpStill_step fun K' hK=>?_
 rw [if_pos (by simp [Region.wanted])]
 unfold Oper.still
 rw [hp a w hf hw]
 exact ⟨rfl,hK _ (h _ w (hf.put hd v) hw)⟩
end
end Go.J
namespace Go.J
open Go Go.RowKit
def AJ (P:Program) (R:Post) (opl:List Oper) (K:List Lay) (S:World→Prop) (fuel:Nat) (listed:Array Bool) (N:NN) (l:Fr) (H:World→Prop):Prop :=
 ∀ a w,Frm N l a→H w→wpAnyH P .any opl.toArray (QK P R K) S fuel listed a w
section
variable {P:Program} {R:Post} {K:List Lay} {N:NN} {l:Fr} {H:World→Prop} {opl:List Oper} {S:World→Prop} {fuel:Nat} {listed:Array Bool} {d ty i id:Nat} {op:Op} {pos:String} {af:Array Edge} {gd:Option (Nat × Bool)} {v:Value}
variable {w0:World} {M:List Nat} {A:Nat→Prop} {es:List Ent}
class PanicOk (R:Post):Prop where
 ok:∀ (c:List PanicEntry) (a:Act) (w:World) (dd:Option Nat) (v:Value),R (.panic c) (a.put dd v) w→R (.panic c) a w
instance {P:Program} {fn:Func} {Rp:Ending→World→Prop}:PanicOk (bodyPost P fn Rp):=⟨fun _ _ _ dd _ h=>by cases dd <;> exact h⟩
def RF:Post:=fun _ _ _=>False
instance:PanicOk RF:=⟨fun _ _ _ _ _ h=>h⟩
theorem QK_panic {R:Post} [PanicOk R] {c:List PanicEntry} {dd:Option Nat}:∀ {K:List Lay} {a:Act} {w:World} {v:Value},QK P R K (.panic c) (a.put dd v) w→QK P R K (.panic c) a w
 | [],a,w,v,h=>PanicOk.ok (R:=R) c a w dd v h
 | .seq _::K,_,_,_,h=>by have:=QK_panic (K:=K) h; exact this
 | .inv _::K,_,_,_,h=>by have:=QK_panic (K:=K) h; exact this
 | .blk _::K,_,_,_,h=>by have:=QK_panic (K:=K) h; exact this
inductive Each (P:Program) (R:Post) (opl:List Oper) (K:List Lay) (S:World→Prop) (fuel:Nat) (listed:Array Bool) (N:NN) (l:Fr) (H:World→Prop):List Nat→Prop where
 | nil:Each P R opl K S fuel listed N l H []
 | cons {i:Nat} {rs:List Nat} {o:Oper} (ho:nth opl i=some o)
   (h:∀ I:Act→World→Prop,(∀ (l':Fr) (H':World→Prop),(∀ w,H' w→S w)→AJ P R opl K S fuel (listed.setIfInBounds i true) N l' H'→NJ P R (.inv I::K) N l' H')→LJ P R opl.toArray [o] (.inv I::K) N l H)
   (t:Each P R opl K S fuel listed N l H rs):Each P R opl K S fuel listed N l H (i::rs)
end
theorem Rep.cells_set {α : Type} (R:Rep α) (xs:List α) (i:Nat) (e e' : α) (hi:xs[i]? = some e):R.cells (xs.set i e')=(R.cells xs).take (i*R.sz)++R.enc e'++(R.cells xs).drop (i*R.sz+R.sz):=by
 induction xs generalizing i with
 | nil=>cases hi
 | cons x xs ih =>
  cases i with
  | zero =>
   simp only [List.set_cons_zero,Rep.cells,List.flatMap_cons,Nat.zero_mul,List.take_zero,List.nil_append,Nat.zero_add]
   congr 1
   rw [List.drop_left' (R.len x)]
  | succ i =>
   simp only [List.getElem?_cons_succ] at hi
   have:=ih i hi
   simp only [Rep.cells] at this
   simp only [List.set_cons_succ,Rep.cells,List.flatMap_cons,this]
   have h1:(i+1)*R.sz=(R.enc x).length+i*R.sz:=by rw [R.len,Nat.add_mul]; omega
   rw [h1,List.take_length_add_append,Nat.add_assoc,List.drop_length_add_append]
   simp only [List.append_assoc]
section
variable {P:Program} {Rp:Post} {K:List Lay} {N:NN} {l:Fr} {ops:Array Oper} {rest:List Oper} {ty:Nat} {pos:String} {af:Array Edge} {x y:Operand} {v:Value} {T:TypeId}
variable {w0:World} {M:List Nat} {A:Nat→Prop} {es:List Ent} {α : Type} {R:Rep α} {s:SV} {xs:List α} {e e' : α} {i o k q:Nat} {sz by_:Nat} {zs vs:List Value}
theorem r_ste {ag:Bool} (hE:TyF P T ag sz by_ zs) (hx:ev l x=some (s.p q)) (hq:q=i*R.sz+o) (hy:ev l y=some v) (hv:v.cells=vs.toArray) (h1:vs.all (·.oneCell')=true) (hs:Nat.beq vs.length sz=true)
  (hk:nth es k=some (.row R s.v xs)) (he:xs[i]? = some e) (e' : α) (hen:R.enc e'=splice (R.enc e) o vs) (hl:Nat.ble (o+sz) R.sz=true) (h:LJ P Rp ops rest K N l (Sat w0 M A (setN es k (.row R s.v (xs.set i e'))))) :
  LJ P Rp ops (⟨none,.store T x y,ty,pos,af,none⟩::rest) K N l (Sat w0 M A es):=by
 intro a w hf hw
 have hl':o+sz≤R.sz:=by simpa [Nat.ble_eq] using hl
 have hs':vs.length=sz:=by simpa using hs
 subst hq
 have hown:=hw.row hk
 have hi:i<xs.length:=(List.getElem?_eq_some_iff.1 he).1
 rcases hown.2 with ⟨_,h0⟩ | ⟨g,cap,cur,hsv,hbg,hg,hn,hcm,hcs,ht⟩
 ·omega
 ·injection hsv with ha hn2 hc2
  have hmul:(i+1)*R.sz≤xs.length*R.sz:=Nat.mul_le_mul_right _ hi
  have hmul2:xs.length*R.sz≤cap*R.sz:=Nat.mul_le_mul_right _ hn
  have hmul3:(i+1)*R.sz=i*R.sz+R.sz:=by rw [Nat.add_mul]; omega
  have hst:=run_storeCells_at P g (i*R.sz+o) R.T vs 0 cur w hg (by omega) (fun v hv=>List.all_eq_true.1 h1 v hv)
  have hrun:(execOp a.eval ⟨none,.store T x y,ty,pos,af,none⟩).run P w = .ok .skip (w.setRow g (cur.toList.take (i*R.sz+o)++vs++cur.toList.drop (i*R.sz+o+vs.length)).toArray):=by
   simp only [Nat.add_zero] at hst
   simp [execOp,hf.ev hx,hf.ev hy,SV.p,SV.at_,ha,Instr.storeAt,Instr.sureAddr,storeVar,hv,hE.size w,hs',hst]
  refine wpList_plain rfl fun K' hK=>?_
  unfold Oper.wp
  rw [hrun]
  refine hK _ _ (h _ _ (hf.put_none undef) (hw.swap hk (e':=.row R s.v (xs.set i e')) ?_ ?_ ?_ (fun F hF=>by cases hF)))
  ·have:(Ent.row R s.v xs).key=some g:=by simp [Ent.key,SV.v,ha,Value.ownBlock]
   rw [this]
   exact ⟨rfl,rfl,rfl,by simp,fun b _ hb=>setRow_other w g b _ (fun e=>hb (by simp [e]))⟩
  ·refine ⟨R.cells_len _,.inr ⟨g,cap,_,by simp [SV.v,ha,hn2,hc2],hbg,setRow_heap w g cur _ R.T _ hg,by simpa using hn,hcm,?_,?_⟩⟩
   ·simp only [List.size_toArray,List.length_append,List.length_take,List.length_drop,Array.length_toList]
    omega
   ·have hlen:(R.enc e).length=R.sz:=R.len e
    have e1:cur.toList=(R.cells xs)++cur.toList.drop (xs.length*R.sz):=by rw [← ht,List.take_append_drop]
    have e2:(R.cells xs).length=xs.length*R.sz:=R.cells_len xs
    have e3:R.cells xs=(R.cells xs).take (i*R.sz)++R.enc e++(R.cells xs).drop (i*R.sz+R.sz):=by
     have:=R.cells_set xs i e e he
     have hself:xs.set i e=xs:=by
      apply List.ext_getElem?
      intro j
      rw [List.getElem?_set]
      split
      ·rename_i hij; subst hij; exact he.symm
      ·rfl
     rw [hself] at this
     exact this
    rw [R.cells_set xs i e e' he,hen,splice_eq _ _ _ (by omega)]
    simp only [List.length_set]
    apply List.ext_getElem?
    intro j
    have hcj:∀ j,j<xs.length*R.sz→cur.toList[j]? = (R.cells xs)[j]?:=fun j hj=>by rw [← ht,List.getElem?_take,if_pos hj]
    have hej:∀ j,j<R.sz→(R.cells xs)[i*R.sz+j]? = (R.enc e)[j]?:=fun j hj=>R.cells_get xs i j e he hj
    have hl1:((R.cells xs).take (i*R.sz)).length=i*R.sz:=by rw [List.length_take,e2]; omega
    have hl2:((R.enc e).take o).length=o:=by rw [List.length_take,hlen]; omega
    have hl3:(cur.toList.take (i*R.sz+o)).length=i*R.sz+o:=by rw [List.length_take,Array.length_toList,hcs]; omega
    rw [List.getElem?_take]
    simp only [List.getElem?_append,List.length_append,hl1,hl2,hl3,List.length_drop,hlen,List.getElem?_take,List.getElem?_drop]
    by_cases c0:j<xs.length*R.sz
    ·rw [if_pos c0]
     by_cases c1:j<i*R.sz
     ·rw [if_pos (by omega),if_pos (by omega),if_pos (by omega),if_pos (by omega),if_pos c1,if_pos c1]
      exact hcj j c0
     ·by_cases c2:j<i*R.sz+o
      ·rw [if_pos (by omega),if_pos (by omega),if_pos (by omega),if_pos (by omega),if_neg c1,if_pos (by omega),if_pos (by omega),if_pos (by omega)]
       rw [hcj j c0]
       have:=hej (j - i*R.sz) (by omega)
       rw [show i*R.sz+(j - i*R.sz)=j by omega] at this
       exact this
      ·by_cases c3:j<i*R.sz+o+vs.length
       ·rw [if_pos (by omega),if_neg (by omega),if_pos (by omega),if_neg c1,if_pos (by omega),if_neg (by omega)]
        congr 1; omega
       ·by_cases c4:j<i*R.sz+R.sz
        ·rw [if_neg (by omega),if_pos (by omega),if_neg c1,if_neg (by omega)]
         have h5:=hej (j - i*R.sz) (by omega)
         rw [show i*R.sz+(j - i*R.sz)=j by omega] at h5
         rw [show i*R.sz+o+vs.length+(j - (i*R.sz+o+vs.length))=j by omega,hcj j c0,h5]
         congr 1; omega
        ·rw [if_neg (by omega),if_neg (by omega),show i*R.sz+o+vs.length+(j - (i*R.sz+o+vs.length))=j by omega,hcj j c0]
         congr 1; omega
    ·rw [if_neg c0,if_neg (by omega)]
     symm
     rw [List.getElem?_eq_none_iff,e2]
     omega
  ·intro b hb
   simp only [Ent.key,SV.v,ha,Value.ownBlock,Option.some.injEq] at hb
   subst hb
   exact ⟨by simp; exact (Array.getElem?_eq_some_iff.1 hg).1,.inr (by simp [Ent.key,SV.v,ha,Value.ownBlock])⟩
theorem nj_nil {β : Type} (R:Rep β) (h:NJ P Rp K N l (Sat w0 M A (.row R (SV.v nilS) []::es))):NJ P Rp K N l (Sat w0 M A es):=fun a w hf hw=>h a w hf (hw.nil_row R)
end
end Go.J
namespace Go.J
open Go Go.RowKit
structure SL (α : Type) where
 s:SV
 xs:List α
structure Dat (αL α : Type) where
 R:Rep αL
 er : αL → α
 ok : αL→World→Prop
section
variable {αL α : Type} {D:Dat αL α} {xl yl:List αL} {xs ys qs:List α} {w:World}
end
section
variable {P:Program} {Rp:Post} {K:List Lay} {N:NN} {l:Fr} {ops:Array Oper} {rest:List Oper} {d:Nat} {ty:Nat} {pos:String} {af:Array Edge}
variable {w0:World} {M:List Nat} {A:Nat→Prop} {es rs:List Ent} {α : Type} {R:Rep α} {v:Value} {xs:List α} {F:World→Prop} {p:Prop} {c:Code} {k:Nat}
theorem r_fz (k:Nat) (hk:pick1 es k=some (.row R v xs,rs)) (h:LJ P Rp ops rest K N l (Sat w0 M A (.ro (RdS R v xs)::rs))):LJ P Rp ops rest K N l (Sat w0 M A es):=fun a w hf hw=>h a w hf (hw.freeze hk)
theorem r_fact (hF:FactRo es F) (h:LJ P Rp ops rest K N l (Sat w0 M A (.ro F::es))):LJ P Rp ops rest K N l (Sat w0 M A es):=fun a w hf hw=>h a w hf (hw.add_ro (hF.stays hw))
theorem cj_fact (hF:FactRo es F) (h:CJ P Rp c K N l (Sat w0 M A (.ro F::es))):CJ P Rp c K N l (Sat w0 M A es):=fun a w hf hw=>h a w hf (hw.add_ro (hF.stays hw))
theorem r_pure (hF:FactAt es F) (hp:∀ w,F w→p) (h:p→LJ P Rp ops rest K N l (Sat w0 M A es)):LJ P Rp ops rest K N l (Sat w0 M A es):=fun a w hf hw=>h (hp w (hF.get hw)) a w hf hw
theorem cj_pure (hF:FactAt es F) (hp:∀ w,F w→p) (h:p→CJ P Rp c K N l (Sat w0 M A es)):CJ P Rp c K N l (Sat w0 M A es):=fun a w hf hw=>h (hp w (hF.get hw)) a w hf hw
theorem nj_pure (hF:FactAt es F) (hp:∀ w,F w→p) (h:p→NJ P Rp K N l (Sat w0 M A es)):NJ P Rp K N l (Sat w0 M A es):=fun a w hf hw=>h (hp w (hF.get hw)) a w hf hw
theorem r_callN {f:FuncId} {cc:Operand} {as:List Operand} {ats:Array TypeId} {cv avs:List Value} {xs:List Ent} {fs:List (World→Prop)} {X:Type} {V:X→Value} {post:X→List Ent} (ks:List Nat)
  (hcf:∀ args w,(callFunc f args).run P w = .ok (.enter f args) w) (hc:ev l cc=some (.func (.func f) #[] cv.toArray)) (ha:evA l as=some avs)
  (hctr:Ctr P f (avs++cv).toArray xs fs V post) (hp:picks ks es=some (xs,rs)) (hxs:noRo xs=true) (hfs:FactsRo rs fs) (hd:Nat.blt d N.n=true)
  (h:∀ x,LJ P Rp ops rest K N ((d,V x)::l) (Sat w0 M A (post x++rs))) :
  LJ P Rp ops (⟨some d,.call { callee:=.value cc,args:=as.toArray,argTypes:=ats },ty,pos,af,none⟩::rest) K N l (Sat w0 M A es):=by
 intro a w hf hw
 refine wpList_plain rfl fun K' hK=>?_
 unfold Oper.wp
 have h1:=hf.evA ha
 have:(execOp a.eval ⟨some d,.call { callee:=.value cc,args:=as.toArray,argTypes:=ats },ty,pos,af,none⟩).run P w = .ok (.enter f (avs++cv).toArray) w:=by
  simp [execOp,resolve,Deferred.ofValue,hf.ev hc,invoke,hcf,← h1]
 rw [this]
 refine (hctr.useN hw hp hxs hfs).mono ?_
 rintro e w' ⟨q,rfl,hq⟩
 exact hK _ _ (h q _ _ (hf.put hd _) hq)
end
end Go.J
namespace Go.J
open Go Go.RowKit
structure Nst (α G:Type) where
 R:Rep (α × G)
 inn : α × G→World→Prop
def Lk {α G:Type} (D:Nst α G) (xs:List α) (xg:List (α × G)) (w:World):Prop:=xg.map Prod.fst=xs∧∀ p,p∈xg→D.inn p w
section
variable {α G:Type} {D:Nst α G} {xs ys qs:List α} {xg yg qg:List (α × G)} {w:World} {x : α} {g:G} {i:Nat}
theorem Lk.at_ {p : α × G} (h:Lk D xs xg w) (hi:xg[i]? = some p):D.inn p w:=h.2 p (List.mem_of_getElem? hi)
theorem Lk.nil:Lk D [] [] w:=⟨rfl,fun p hp=>by cases hp⟩
theorem Lk.cons (h1:D.inn (x,g) w) (h:Lk D xs xg w):Lk D (x::xs) ((x,g)::xg) w:=⟨by simp [h.1],fun p hp=>by
 rcases List.mem_cons.1 hp with h2 | h2
 ·subst h2; exact h1
 ·exact h.2 p h2⟩
theorem Lk.app {by_:Nat} (hq:appM by_ xs ys=some qs) (h1:Lk D xs xg w) (h2:Lk D ys yg w):Lk D qs (xg++yg) w:=by
 obtain ⟨rfl,-⟩:=appM_spec hq
 exact ⟨by rw [List.map_append,h1.1,h2.1],fun p hp=>by
  rcases List.mem_append.1 hp with h | h
  ·exact h1.2 p h
  ·exact h2.2 p h⟩
theorem Lk.set (h:Lk D xs xg w) (h1:D.inn (x,g) w):Lk D (xs.set i x) (xg.set i (x,g)) w:=⟨by rw [List.map_set,h.1],fun p hp=>by
 rcases List.mem_or_eq_of_mem_set hp with h2 | h2
 ·exact h.2 p h2
 ·subst h2; exact h1⟩
theorem Lk.sub (h:Lk D xs xg w) (hL:qg.map Prod.fst=qs) (hs:∀ p,p∈qg→p∈xg):Lk D qs qg w:=⟨hL,fun p hp=>h.2 p (hs p hp)⟩
theorem lk_get (hL:xg.map Prod.fst=xs) (h:xs[i]? = some x):∃ g,xg[i]? = some (x,g):=by
 subst hL
 rw [List.getElem?_map] at h
 cases hx:xg[i]? with
 | none=>rw [hx] at h; cases h
 | some p=>rw [hx] at h; cases h; exact ⟨p.2,rfl⟩
theorem lk_getI {m:Int} (hL:xg.map Prod.fst=xs) (h:getI xs m=some x):∃ g,getI xg m=some (x,g):=by
 unfold getI at h ⊢
 split at h
 ·rename_i h0
  rw [if_pos h0]
  exact lk_get hL h
 ·cases h
theorem lk_len (hL:xg.map Prod.fst=xs):xg.length=xs.length:=by rw [← hL,List.length_map]
theorem lk_app {by_:Nat} (hq:appM by_ xs ys=some qs) (h1:xg.map Prod.fst=xs) (h2:yg.map Prod.fst=ys):appM by_ xg yg=some (xg++yg):=by
 subst h1 h2
 unfold appM at hq ⊢
 simp only [List.length_map] at hq
 split at hq
 ·rename_i h; rw [if_pos h]
 ·cases hq
theorem lk_set (hL:xg.map Prod.fst=xs):(xg.set i (x,g)).map Prod.fst=xs.set i x:=by rw [List.map_set,hL]
theorem lk_cut {a b:Int} (hL:xg.map Prod.fst=xs) (hq:sliceI xs a b=some qs):∃ qg,sliceI xg a b=some qg∧qg.map Prod.fst=qs∧∀ p,p∈qg→p∈xg:=by
 subst hL
 obtain ⟨p,q,rfl,rfl,hpq,hq',rfl⟩:=sliceI_spec hq
 rw [List.length_map] at hq'
 refine ⟨(xg.drop p).take (q - p),?_,by rw [List.map_take,List.map_drop],fun e he=>List.mem_of_mem_drop (List.mem_of_mem_take he)⟩
 unfold sliceI
 rw [if_pos (by omega)]
 simp
theorem RdS.cut {R:Rep α} {s:SV} {lo hi:Int} (h:RdS R s.v xs w) (hq:sliceI xs lo hi=some qs):RdS R (s.sub R.sz lo.toNat hi.toNat).v qs w:=by
 obtain ⟨p,q,rfl,rfl,hpq,hqx,rfl⟩:=sliceI_spec hq
 exact h.sub hpq hqx
theorem FactRo.nilS {es:List Ent} (R:Rep α):FactRo es (RdS R (SV.v nilS) []):=.imp (.tru trivial) fun w _=>RdS.nil R w
theorem FactRo.nilL {es:List Ent} (D:Nst α G):FactRo es (Lk D [] []):=.imp (.tru trivial) fun _ _=>Lk.nil
theorem appM_nn (by_:Nat):appM by_ ([]:List α) []=some []:=by simp [appM]
end
def BoxS (b:Nat) (T:TypeId) (cs:List Value) (w:World):Prop:=w.heap[b]? = some (.cells cs.toArray T (0,0))
section
variable {w0 w:World} {M:List Nat} {A:Nat→Prop} {es:List Ent} {α : Type} {R:Rep α} {s:SV} {xs qs:List α} {lo hi:Int}
end
section
variable {P:Program} {Rp:Post} {K:List Lay} {N:NN} {l:Fr} {ops:Array Oper} {rest:List Oper} {d:Nat} {dd:Option Nat} {ty:Nat} {pos:String} {af:Array Edge} {g:Option (Nat × Bool)} {x y:Operand} {v:Value} {T E:TypeId} {c:Code}
variable {w0:World} {M:List Nat} {A:Nat→Prop} {es:List Ent} {α G:Type} {R:Rep α} {s:SV} {xs qs:List α} {e : α} {i o j k b off:Nat} {sz by_:Nat} {zs cs vs:List Value} {m n:Int} {lo hi:Int} {st t:ByteArray} {kk:IntKind}
theorem p_lenG {R:Rep (α × G)} {xg:List (α × G)} (hL:xg.map Prod.fst=xs) (hT:P.underlying T=some (.slice E)) (hx:ev l x=some s.v) (hr:FactAt es (RdS R s.v xg)) :
  PureOp P N ⟨dd,.call { callee:=.builtin .len,args:=#[x],argTypes:=#[T] },ty,pos,af,g⟩ l (Sat w0 M A es) (.int .i64 xs.length):=by
 rw [← lk_len hL]
 exact p_len hT hx hr
theorem p_cut {ag:Bool} {ol oh:Option Operand} {vl vh:Option Value} (hT:P.underlying T=some (.slice R.T)) (hE:TyF P R.T ag R.sz by_ zs) (hx:ev l x=some s.v) (hlo:evO l ol=some vl) (hhi:evO l oh=some vh)
  (hbl:boundV vl=true) (hbh:boundV vh=true) (hk:FactAt es (RdS R s.v xs)) (hl:loV vl=lo) (hh:hiV vh xs.length=hi) (hq:sliceI xs lo hi=some qs) :
  PureOp P N ⟨dd,.slice T x ol oh none,ty,pos,af,g⟩ l (Sat w0 M A es) (s.sub R.sz lo.toNat hi.toNat).v:=fun a w hf hw=>by
 subst hl hh
 obtain ⟨p,q,hp,hq1,hpq,hqx,rfl⟩:=sliceI_spec hq
 have hrun:=run_sliceAt (P:=P) (T:=T) (lo:=vl) (hi:=vh) hT hE (hk.get hw) hpq hqx
  (by
   cases vl with
   | none=>exact .inr ⟨rfl,by simp [loV] at hp; omega⟩
   | some v=>cases v <;> first | cases hbl; done | (rename_i kk nn; cases kk <;> first | cases hbl; done | (simp [loV] at hp; exact .inl (by rw [hp]))))
  (by
   cases vh with
   | none=>exact .inr ⟨rfl,by simp [hiV] at hq1; omega⟩
   | some v=>cases v <;> first | cases hbh; done | (rename_i kk nn; cases kk <;> first | cases hbh; done | (simp [hiV] at hq1; exact .inl (by rw [hq1]))))
 rw [hp,hq1]
 simp only [Int.toNat_natCast]
 simp [execOp,hf.ev hx,hf.evO hlo,hf.evO hhi,hrun]
theorem p_cutN {H:World→Prop} {ol oh:Option Operand} {vl vh:Option Value} {ag:Bool} (R:Rep α) (hT:P.underlying T=some (.slice R.T)) (hE:TyF P R.T ag R.sz by_ zs) (hx:ev l x=some (SV.v nilS)) (hlo:evO l ol=some vl) (hhi:evO l oh=some vh)
  (hbl:boundV vl=true) (hbh:boundV vh=true) (hl:loV vl=lo) (hh:hiV vh 0=hi) (hq:sliceI ([]:List α) lo hi=some qs) :
  PureOp P N ⟨dd,.slice T x ol oh none,ty,pos,af,g⟩ l H (SV.v nilS):=fun a w hf hw=>by
 subst hl hh
 obtain ⟨p,q,hp,hq1,hpq,hqx,rfl⟩:=sliceI_spec hq
 simp at hqx
 subst hqx
 have hp0:p=0:=by omega
 subst hp0
 have hrun:=run_sliceAt (P:=P) (T:=T) (lo:=vl) (hi:=vh) (a:=0) (b:=0) hT hE (RdS.nil R w) (Nat.le_refl _) (Nat.le_refl _)
  (by
   cases vl with
   | none=>exact .inr ⟨rfl,rfl⟩
   | some v=>cases v <;> first | cases hbl; done | (rename_i kk nn; cases kk <;> first | cases hbl; done | (simp [loV] at hp; exact .inl (by rw [hp]; rfl))))
  (by
   cases vh with
   | none=>exact .inr ⟨rfl,rfl⟩
   | some v=>cases v <;> first | cases hbh; done | (rename_i kk nn; cases kk <;> first | cases hbh; done | (simp [hiV] at hq1; exact .inl (by rw [hq1]; rfl))))
 have:(nilS.sub R.sz 0 0).v=SV.v nilS:=rfl
 rw [this] at hrun
 simp [execOp,hf.ev hx,hf.evO hlo,hf.evO hhi,hrun]
theorem p_eqnil {T':TypeId} {H:World→Prop} (hT:P.underlying T=some (.slice E)) (hx:ev l x=some s.v) (hy:ev l y=some (.slice none 0 0)):PureOp P N ⟨dd,.binOp .eql T x y T',ty,pos,af,g⟩ l H (.bool s.a.isNone):=p_bin hx hy fun w=>by
 have h1:=Lib.run_equalIn_slice_nil (P:=P) w 9999 T E s.a s.n s.c 0 0 hT
 have h2:(eqGuard .eql T x y s.v (.slice none 0 0)).run P w = .ok () w:=by simp [eqGuard]
 simp only [SV.v] at h2 ⊢
 simp [h2,binOp,Op.equal,Op.maxDepth,h1]
theorem RdS.nil_of {R:Rep α} {w:World} (h:RdS R s.v xs w) (hb:s.a.isNone=true):xs=[]:=by
 rcases h.2 with ⟨h2,_⟩ | ⟨b,off,cap,h1,_⟩
 ·exact h2
 ·injection h1 with h5 h6 h7
  rw [h5] at hb
  cases hb
theorem p_leaN (hE:TyF P T true R.sz by_ zs) (hx:ev l x=some (s.p (i*R.sz))) (hr:FactAt es (RdS R s.v xs)) (he:xs[i]? = some e) (hv:R.enc e=cs) :
  PureOp P N ⟨dd,.load T x,ty,pos,af,g⟩ l (Sat w0 M A es) (.agg cs.toArray):=by subst hv; exact p_lea hE hx hr he
def strI (s:ByteArray) (i:Int):Option Int:=if 0≤i then (s[i.toNat]?).map fun b=>(b.toNat:Int) else none
def strS (s:ByteArray) (lo hi:Int):Option ByteArray:=if 0≤lo∧lo≤hi∧hi≤s.size then some (s.extract lo.toNat hi.toNat) else none
theorem p_stri (hT:P.underlying T=some .string) (hx:ev l x=some (.string st)) (hy:ev l y=some (.int kk m)) {H:World→Prop} (h:strI st m=some n):PureOp P N ⟨dd,.index T x y,ty,pos,af,g⟩ l H (.int .u8 n):=fun a w hf _=>by
 unfold strI at h
 split at h
 ·rename_i h0
  cases hb:st[m.toNat]? with
  | none=>rw [hb] at h; cases h
  | some b =>
   rw [hb] at h
   cases h
   simp [execOp,hf.ev hx,hf.ev hy,Instr.index,asIntOf,run_underlying hT,h0,hb]
 ·cases h
theorem p_strs {ol oh:Option Operand} {vl vh:Option Value} {H:World→Prop} (hT:P.underlying T=some .string) (hx:ev l x=some (.string st)) (hlo:evO l ol=some vl) (hhi:evO l oh=some vh)
  (hbl:boundV vl=true) (hbh:boundV vh=true) (hl:loV vl=lo) (hh:hiV vh st.size=hi) (hq:strS st lo hi=some t) :
  PureOp P N ⟨dd,.slice T x ol oh none,ty,pos,af,g⟩ l H (.string t):=fun a w hf hw=>by
 unfold strS at hq
 split at hq
 ·rename_i h0
  cases hq
  obtain ⟨h1,h2,h3⟩:=h0
  subst hl hh
  have hb:(Instr.sliceBounds false st.size st.size vl vh none).run P w = .ok ((loV vl).toNat,(hiV vh st.size).toNat,st.size) w:=by
   unfold Instr.sliceBounds
   cases vl with
   | none =>
    cases vh with
    | none=>simp [loV,hiV]
    | some v =>
     cases v <;> first | cases hbh; done | skip
     rename_i kk nn
     cases kk <;> first | cases hbh; done | skip
     simp only [loV,hiV] at h1 h2 h3 ⊢
     obtain ⟨q,rfl⟩:=Int.eq_ofNat_of_zero_le h2
     have:=fun code=>run_sliceBound (P:=P) (w:=w) (i:=q) (y:=st.size) (code:=code) (by omega)
     simp [this]
   | some u =>
    cases u <;> first | cases hbl; done | skip
    rename_i kk nn
    cases kk <;> first | cases hbl; done | skip
    cases vh with
    | none =>
     simp only [loV,hiV] at h1 h2 h3 ⊢
     obtain ⟨q,rfl⟩:=Int.eq_ofNat_of_zero_le h1
     have:=fun code=>run_sliceBound (P:=P) (w:=w) (i:=q) (y:=st.size) (code:=code) (by omega)
     simp [this]
    | some v =>
     cases v <;> first | cases hbh; done | skip
     rename_i kk nn2
     cases kk <;> first | cases hbh; done | skip
     simp only [loV,hiV] at h1 h2 h3 ⊢
     obtain ⟨q,rfl⟩:=Int.eq_ofNat_of_zero_le h1
     obtain ⟨q2,rfl⟩:=Int.eq_ofNat_of_zero_le (Int.le_trans h1 h2)
     have e1:=fun code=>run_sliceBound (P:=P) (w:=w) (i:=q2) (y:=st.size) (code:=code) (by omega)
     have e2:=fun code=>run_sliceBound (P:=P) (w:=w) (i:=q) (y:=q2) (code:=code) (by omega)
     simp [Sem.run_bind,e1,e2]
  simp [execOp,hf.ev hx,hf.evO hlo,hf.evO hhi,Instr.sliceAt,Instr.slice,Sem.run_bind,run_underlying hT,hb]
 ·cases hq
end
end Go.J
namespace Go.J
open Go Go.RowKit
def SofT (st0 st2:List Nat) (S1 S2:World→Prop) (j:Nat) (w w':World):Prop:=if st0.contains j=true then w'=w else if st2.contains j=true then S2 w' else S1 w'
def wpAnyT (P:Program) (ops:Array Oper) (Q:Exit→Act→World→Prop) (st0 st2:List Nat) (S1 S2:World→Prop):Nat→Array Bool→Act→World→Prop
 | 0,listed,a,w=>Region.ready .any ops listed=[]∧Q .normal a w
 | fuel+1,listed,a,w=>(Region.ready .any ops listed=[]→Q .normal a w) ∧
   ∀ i∈Region.ready .any ops listed,wpOp P ops Q i (fun a' w'=>SofT st0 st2 S1 S2 i w w'∧wpAnyT P ops Q st0 st2 S1 S2 fuel (listed.setIfInBounds i true) a' w') a w
section
variable {P:Program} {ops:Array Oper} {Q:Exit→Act→World→Prop} {st0 st2:List Nat} {S1 S2:World→Prop}
theorem wpAny_of_T:∀ (fuel:Nat) (listed:Array Bool) (a:Act) (w:World),wpAnyT P ops Q st0 st2 S1 S2 fuel listed a w→wpAny P .any ops Q fuel listed a w
 | 0,_,_,_,h=>h
 | fuel+1,_,_,_,h=>⟨h.1,fun i hi=>wpOp_mono (fun a' w' h'=>wpAny_of_T fuel _ a' w' h'.2) (h.2 i hi)⟩
theorem wpAnyT_first {Y:World→Prop} {i:Nat} {oi:Oper} {v:Value} (hi:ops[i]? = some oi) (hsel:∀ (j:Nat) (o:Oper) cs b,ops[j]? = some o→o.op ≠ .select cs b)
  (hQ:∀ c a w,Q (.panic c) (a.put oi.dst v) w→Q (.panic c) a w) (hSi:st0.contains i=true) :
  ∀ (fuel:Nat) (listed:Array Bool) (a:Act) (w:World),
   (∀ j oj,ops[j]? = some oj→j≠i→listed.getD j true=false→(∀ e∈oj.after,Region.binds .any e=true→e.on≠i)→oi.apart ops oj=true) →
   (∀ j oj,ops[j]? = some oj→j≠i→listed.getD j true=false→(∀ e∈oj.after,Region.binds .any e=true→e.on≠i)→st0.contains j=true∨(st0.contains j=false∧∀ w w',SofT st0 st2 S1 S2 j w w'→Y w')) →
   i∈Region.ready .any ops listed→YieldsIf P ops Y oi v a→Y w →
   wpAnyT P ops Q st0 st2 S1 S2 fuel (listed.setIfInBounds i true) (a.put oi.dst v) w→wpAnyT P ops Q st0 st2 S1 S2 (fuel+1) listed a w:=by
 intro fuel
 induction fuel with
 | zero =>
  intro listed a w _ _ hr hy hS H
  refine ⟨fun h=>(by rw [h] at hr; cases hr),fun j hj=>?_⟩
  by_cases hji:j=i
  ·subst hji; exact hy.wpOp hi hS ⟨by unfold SofT; rw [if_pos hSi],H⟩
  ·have:=ready_mono hj hji
   rw [H.1] at this
   cases this
 | succ fuel ih =>
  intro listed a w hfree hst hr hy hS H
  refine ⟨fun h=>(by rw [h] at hr; cases hr),fun j hj=>?_⟩
  by_cases hji:j=i
  ·subst hji; exact hy.wpOp hi hS ⟨by unfold SofT; rw [if_pos hSi],H⟩
  ·have h1:=H.2 j (ready_mono hj hji)
   obtain ⟨hjun,oj,hoj,hall⟩:=mem_ready.1 hj
   have hnot:∀ e∈oj.after,Region.binds .any e=true→e.on≠i:=fun e he hb heq=>by
    have h1:=hall e he hb
    have h0:=(mem_ready.1 hr).1
    rw [heq] at h1
    rcases Nat.lt_or_ge i listed.size with h' | h'
    ·simp [h'] at h0 h1; rw [h0] at h1; cases h1
    ·simp [Array.getElem?_eq_none h'] at h1
   have h2:=wpOp_putIf hoj (hfree j oj hoj hji hjun hnot) (fun cs b=>hsel i oi cs b hi) (fun cs b=>hsel j oj cs b hoj) hQ hy h1
   have hmono:∀ k,(listed.setIfInBounds j true).getD k true=false→listed.getD k true=false:=fun k hun=>by
    by_cases hjk:j=k
    ·subst hjk; exact hjun
    ·rw [getD_set_ne true hjk] at hun; exact hun
   refine wpOp_mono (fun a' w' h3=>⟨h3.2.1,ih (listed.setIfInBounds j true) a' w' (fun k ok hk hki hun hno=>hfree k ok hk hki (hmono k hun) hno)
    (fun k ok hk hki hun hno=>hst k ok hk hki (hmono k hun) hno) (ready_mono hr (Ne.symm hji)) h3.1 (by
     rcases hst j oj hoj hji hjun hnot with h4 | ⟨_,h4⟩
     ·have h5:=h3.2.1
      unfold SofT at h5
      rw [if_pos h4] at h5
      rw [h5]; exact hS
     ·exact h4 w w' h3.2.1) ?_⟩) h2
   rw [Array.setIfInBounds_comm _ _ hji]
   exact h3.2.2
end
def stWaits (opl:List Oper) (st2:List Nat) (listed:Array Bool) (i:Nat):Bool :=
 st2.all fun j=>listed.getD j true||match nth opl j with | some o=>o.after.any (fun e=>Region.binds .any e&&Nat.beq e.on i) | none=>true
def AT (P:Program) (R:Post) (opl:List Oper) (K:List Lay) (st0 st2:List Nat) (S1 S2:World→Prop) (fuel:Nat) (listed:Array Bool) (N:NN) (l:Fr) (H:World→Prop):Prop :=
 ∀ a w,Frm N l a→H w→wpAnyT P opl.toArray (QK P R K) st0 st2 S1 S2 fuel listed a w
section
variable {P:Program} {R:Post} {K:List Lay} {N:NN} {l:Fr} {H:World→Prop} {opl:List Oper} {st0 st2:List Nat} {S1 S2:World→Prop} {fuel:Nat} {listed:Array Bool} {d ty i id:Nat} {op:Op} {pos:String} {af:Array Edge} {v:Value}
variable {w0:World} {M:List Nat} {A:Nat→Prop} {es:List Ent}
theorem cj_anyT (st0 st2:List Nat) (S1 S2:World→Prop) (hm:P.follows .mixedOrders=true) (h:AT P R opl K st0 st2 S1 S2 opl.length (Array.replicate opl.length false) N l (Sat w0 M A es)):CJ P R (.region id opl.toArray true) K N l (Sat w0 M A es) :=
 fun a _ hf hw=>wpS_region_any hm (wpAny_of_T _ _ _ _ (by simpa using h a _ hf hw.drew))
theorem at_take1 [PanicOk R] (i:Nat) (ho:nth opl i=some ⟨some d,op,ty,pos,af,none⟩) (hs:Region.noSelect opl.toArray=true) (hf:Region.free .any opl.toArray listed i=true) (hr:(Region.ready .any opl.toArray listed).contains i=true)
  (hw:stWaits opl st2 listed i=true) (h2:st0.contains i=true) (hd:Nat.blt d N.n=true) (hp:PureOp P N ⟨some d,op,ty,pos,af,none⟩ l S1 v) (hS:∀ w,H w→S1 w)
  (h:AT P R opl K st0 st2 S1 S2 fuel (listed.setIfInBounds i true) N ((d,v)::l) H):AT P R opl K st0 st2 S1 S2 (fuel+1) listed N l H:=by
 intro a w hfr hw'
 have ho':opl.toArray[i]? = some ⟨some d,op,ty,pos,af,none⟩:=by rw [List.getElem?_toArray,← nth_eq]; exact ho
 refine wpAnyT_first (Y:=S1) (v:=v) ho' (Region.noSelect_spec hs) (fun c a w h=>QK_panic h) h2 fuel listed a w (Region.free_spec ho' hf) ?_ (by simpa using hr)
  (.inl ⟨by simp [Region.wanted],fun w' hw'=>hp a w' hfr hw'⟩) (hS w hw') (h _ _ (hfr.put hd v) hw')
 intro j oj hj hji hun hno
 cases h0:st0.contains j with
 | true=>exact .inl rfl
 | false =>
  refine .inr ⟨rfl,fun w1 w hSw=>?_⟩
  unfold SofT at hSw
  rw [h0,if_neg (by simp)] at hSw
  split at hSw
  ·rename_i hc
   unfold stWaits at hw
   have h3:=List.all_eq_true.1 hw j (by simpa using hc)
   rw [hun,nth_eq] at h3
   rw [List.getElem?_toArray] at hj
   rw [hj] at h3
   simp only [Bool.false_or,Array.any_eq_true,Bool.and_eq_true,Nat.beq_eq] at h3
   obtain ⟨k,hk,hb,he⟩:=h3
   exact absurd he (hno _ (Array.getElem_mem hk) hb)
  ·exact hSw
theorem at_take2 [PanicOk R] (i:Nat) (ho:nth opl i=some ⟨some d,op,ty,pos,af,none⟩) (hs:Region.noSelect opl.toArray=true) (hf:Region.free .any opl.toArray listed i=true) (hr:(Region.ready .any opl.toArray listed).contains i=true)
  (h12:∀ w,S1 w→S2 w) (h2:st0.contains i=true) (hd:Nat.blt d N.n=true) (hp:PureOp P N ⟨some d,op,ty,pos,af,none⟩ l S2 v) (hS:∀ w,H w→S2 w)
  (h:AT P R opl K st0 st2 S1 S2 fuel (listed.setIfInBounds i true) N ((d,v)::l) H):AT P R opl K st0 st2 S1 S2 (fuel+1) listed N l H:=by
 intro a w hfr hw'
 have ho':opl.toArray[i]? = some ⟨some d,op,ty,pos,af,none⟩:=by rw [List.getElem?_toArray,← nth_eq]; exact ho
 refine wpAnyT_first (Y:=S2) (v:=v) ho' (Region.noSelect_spec hs) (fun c a w h=>QK_panic h) h2 fuel listed a w (Region.free_spec ho' hf) ?_ (by simpa using hr)
  (.inl ⟨by simp [Region.wanted],fun w' hw'=>hp a w' hfr hw'⟩) (hS w hw') (h _ _ (hfr.put hd v) hw')
 intro j oj hj hji hun hno
 cases h0:st0.contains j with
 | true=>exact .inl rfl
 | false =>
  refine .inr ⟨rfl,fun w1 w hSw=>?_⟩
  unfold SofT at hSw
  rw [h0,if_neg (by simp)] at hSw
  split at hSw
  ·exact hSw
  ·exact h12 w hSw
theorem at_done (hr:Region.ready .any opl.toArray listed=[]) (h:NJ P R K N l H):AT P R opl K st0 st2 S1 S2 fuel listed N l H:=fun a w hf hw=>by
 cases fuel with
 | zero=>exact ⟨hr,h a w hf hw⟩
 | succ n=>exact ⟨fun _=>h a w hf hw,by rw [hr]; simp⟩
inductive EachT (P:Program) (R:Post) (opl:List Oper) (K:List Lay) (st0 st2:List Nat) (S1 S2:World→Prop) (fuel:Nat) (listed:Array Bool) (N:NN) (l:Fr) (H:World→Prop):List Nat→Prop where
 | nil:EachT P R opl K st0 st2 S1 S2 fuel listed N l H []
 | cons {i:Nat} {rs:List Nat} {o:Oper} (ho:nth opl i=some o)
   (h:∀ I:Act→World→Prop,(∀ (l':Fr) (H':World→Prop),(∀ w w',H' w'→SofT st0 st2 S1 S2 i w w')→AT P R opl K st0 st2 S1 S2 fuel (listed.setIfInBounds i true) N l' H'→NJ P R (.inv I::K) N l' H')→LJ P R opl.toArray [o] (.inv I::K) N l H)
   (t:EachT P R opl K st0 st2 S1 S2 fuel listed N l H rs):EachT P R opl K st0 st2 S1 S2 fuel listed N l H (i::rs)
theorem at_each {rs:List Nat} (hr:Region.ready .any opl.toArray listed=rs) (hne:rs≠[]) (h:EachT P R opl K st0 st2 S1 S2 fuel listed N l H rs):AT P R opl K st0 st2 S1 S2 (fuel+1) listed N l H:=by
 intro a w hf hw
 refine ⟨fun h0=>absurd (hr ▸ h0) hne,fun i hi=>?_⟩
 rw [hr] at hi
 clear hr hne
 induction h with
 | nil=>cases hi
 | cons ho h _ ih =>
  rcases List.mem_cons.1 hi with h1 | h1
  ·subst h1
   rename_i o _
   have hl:=h (fun a' w'=>SofT st0 st2 S1 S2 i w w'∧wpAnyT P opl.toArray (QK P R K) st0 st2 S1 S2 fuel (listed.setIfInBounds i true) a' w') (fun l' H' hS' hA=>nj_inv fun a w' hf hw=>⟨hS' w w' hw,hA a w' hf hw⟩) a w hf hw
   unfold wpOp
   have ho':opl.toArray[i]? = some o:=by rw [List.getElem?_toArray,← nth_eq]; exact ho
   simp only [ho']
   unfold wpList at hl
   have hQ:∀ e a1 w1,QK P R (.inv (fun a' w'=>SofT st0 st2 S1 S2 i w w'∧wpAnyT P opl.toArray (QK P R K) st0 st2 S1 S2 fuel (listed.setIfInBounds i true) a' w')::K) e a1 w1→e ≠ .normal→QK P R K e a1 w1:=by
    intro e a1 w1 hq hne
    cases e with
    | normal=>exact (hne rfl).elim
    | exit id=>exact hq
    | goto l=>exact hq
    | ret=>exact hq
    | panic ch=>exact hq
    | outgrown=>exact hq
   split at hl
   ·rename_i hwt
    rw [if_pos hwt]
    rcases hl with hl | ⟨h2,a',w',h3⟩
    ·left
     unfold Oper.wp at hl ⊢
     generalize (execOp a.eval o).run P w=r at *
     cases r with
     | ok n w' =>
      cases n <;> simp only [Oper.upon] at hl ⊢ <;>
       first
        | exact hl
        | exact Calls.mono hl (fun e w'' he=>by cases e <;> first | exact he | exact hQ _ _ _ he (by simp) | (obtain ⟨a,w,h⟩:=he; exact ⟨a,w,hQ _ _ _ h (by simp)⟩))
        | exact Rows.mono hl (fun _ _ he=>he)
     | halt x w'=>cases x <;> simp only [Oper.upon] at hl ⊢ <;> first | exact hQ _ _ _ hl (by simp) | exact hl
    ·exact .inr ⟨h2,a',w',hQ _ _ _ h3 (by simp)⟩
   ·rename_i hwt
    rw [if_neg hwt]
    exact hl
  ·exact ih h1
theorem sof1 {i:Nat} (h0:st0.contains i=false) (h2:st2.contains i=false) (hS:∀ w,H w→S1 w):∀ w w',H w'→SofT st0 st2 S1 S2 i w w':=fun w w' hw=>by unfold SofT; rw [h0,h2]; exact hS w' hw
theorem sof2 {i:Nat} (h0:st0.contains i=false) (h2:st2.contains i=true) (hS:∀ w,H w→S2 w):∀ w w',H w'→SofT st0 st2 S1 S2 i w w':=fun w w' hw=>by unfold SofT; rw [h0,h2]; exact hS w' hw
end
theorem ba_toList_inj {a b:ByteArray}:a.toList=b.toList↔a=b:=by
 rw [ByteArray.toList_eq,ByteArray.toList_eq]
 exact ⟨fun h=>ByteArray.ext (Array.toList_inj.1 h),fun h=>h ▸ rfl⟩
theorem ba_beq {a b:ByteArray}:(a==b)=true↔a=b:=by rw [beq_toListBytes,beq_iff_eq,ba_toList_inj]
section
variable {P:Program} {N:NN} {l:Fr} {H:World→Prop} {dd:Option Nat} {ty:Nat} {pos:String} {af:Array Edge} {g:Option (Nat × Bool)} {x:Operand} {T:TypeId} {s:SV} {q j o:Nat}
theorem RdS.some_of {α : Type} {R:Rep α} {xs:List α} {e : α} {i:Nat} {w:World} (h:RdS R s.v xs w) (he:xs[i]? = some e):s.a.isSome=true:=by
 obtain ⟨b,off,ha,_⟩:=h.at_ he
 rw [ha]; rfl
end
end Go.J
namespace Go.J
open Go Go.RowKit
section
variable {P:Program} {N:NN} {l:Fr} {H:World→Prop} {d:Option Nat} {ty:Nat} {pos:String} {af:Array Edge} {g:Option (Nat × Bool)} {x y:Operand} {m n r:Int} {T T':TypeId} {s t:ByteArray} {kk:IntKind}
end
section
variable {P:Program} {Rp:Post} {K:List Lay} {N:NN} {l:Fr} {ops:Array Oper} {rest:List Oper} {dd:Option Nat} {ty:Nat} {pos:String} {af:Array Edge} {g:Option (Nat × Bool)} {x y:Operand} {v:Value} {T E:TypeId}
variable {w0:World} {M:List Nat} {A:Nat→Prop} {es:List Ent} {α : Type} {R:Rep α} {s:SV} {xs:List α} {i o j k b off:Nat} {sz by_:Nat} {zs cs vs:List Value} {lo hi:Int}
theorem p_rbs {Tb:TypeId} (hE:TyF P T false 1 by_ zs) (hx:ev l x=some (.pointer (some ⟨b,off,none⟩))) (hk:FactAt es (BoxS b Tb cs)) (hv:nth cs off=some v) :
  PureOp P N ⟨dd,.load T x,ty,pos,af,g⟩ l (Sat w0 M A es) v:=fun a w hf hw=>by
 have h:w.cell? ⟨b,off,none⟩=some v:=by rw [cell_of_row w b off _ _ _ (hk.get hw)]; rw [nth_eq] at hv; simpa using hv
 simp [execOp,hf.ev hx,Instr.loadAt,Instr.sureAddr,run_loadVar_s hE h]
theorem p_rba {Tb:TypeId} (hE:TyF P T true sz by_ zs) (hx:ev l x=some (.pointer (some ⟨b,off,none⟩))) (hk:FactAt es (BoxS b Tb cs)) (hl:Nat.ble (off+sz) cs.length=true) :
  PureOp P N ⟨dd,.load T x,ty,pos,af,g⟩ l (Sat w0 M A es) (.agg (cut cs off sz).toArray):=fun a w hf hw=>by
 have hl':off+sz≤cs.length:=by simpa [Nat.ble_eq] using hl
 have h:(loadVar T ⟨b,off,none⟩).run P w = .ok (.agg (cut cs off sz).toArray) w:=run_loadVar_a hE (by rw [cut_eq]; simp; omega) fun q v hv=>by
  rw [add_at,cell_of_row w b (off+q) _ _ _ (hk.get hw)]
  rw [cut_eq,List.getElem?_take] at hv
  split at hv
  ·simpa using hv
  ·cases hv
 simp [execOp,hf.ev hx,Instr.loadAt,Instr.sureAddr,h]
theorem RdS.pures {w:World} (h:RdS R s.v xs w):s.n=xs.length∧(xs≠[]→∃ b off,s.a=some ⟨b,off,none⟩):=⟨h.n,fun hne=>by
 rcases h.2 with ⟨h2,_⟩ | ⟨b,off,cap,h1,_⟩
 ·exact absurd h2 hne
 ·injection h1 with h5 h6 h7; exact ⟨b,off,h5⟩⟩
theorem p_idxP {kk:IntKind} {m:Int} {e : α} {agg:Bool} {H:World→Prop} (hT:P.underlying T=some (.slice R.T)) (hE:TyF P R.T agg R.sz by_ zs) (hx:ev l x=some s.v) (hy:ev l y=some (.int kk m)) (hr:s.n=xs.length∧(xs≠[]→∃ b off,s.a=some ⟨b,off,none⟩)) (he:getI xs m=some e) :
  PureOp P N ⟨dd,.indexAddr T x y,ty,pos,af,g⟩ l H (s.p (m.toNat*R.sz)):=fun a w hf hw=>by
 obtain ⟨h0,h1⟩:=getI_spec he
 have hlt:m.toNat<xs.length:=(List.getElem?_eq_some_iff.1 h1).1
 have hne:xs≠[]:=fun h=>by subst h; simp at hlt
 obtain ⟨b,off,ha⟩:=hr.2 hne
 have hm:m<(s.n:Int):=by have:=hr.1; omega
 simp [execOp,hf.ev hx,hf.ev hy,Instr.indexAt,run_underlying hT,asIntOf,ha,h0,hm,hE.size w,SV.p,SV.at_,add_at]
end
section
variable {P:Program} {Rp:Post} {K:List Lay} {N:NN} {l:Fr} {ops:Array Oper} {rest:List Oper} {w0 w:World} {M:List Nat} {A:Nat→Prop} {es rs:List Ent} {b:Nat} {T:TypeId} {cs:List Value}
theorem Sat.freezeB {k:Nat} (h:Sat w0 M A es w) (hk:pick1 es k=some (.box b T cs,rs)):Sat w0 M A (.ro (BoxS b T cs)::rs) w:=by
 have h2:=h.perm (pick1_perm hk)
 have hb:w.heap[b]? = some (.cells cs.toArray T (0,0)):=h2.okx _ (List.mem_cons_self ..)
 refine (h2.sublist (List.sublist_cons_self _ _)).add_ro fun w' hw'=>(hw'.2 b ?_ ?_ ?_).trans hb
 ·exact (Array.getElem?_eq_some_iff.1 hb).1
 ·have hb1:b∈keys (.box b T cs::rs):=mem_keys.2 ⟨_,List.mem_cons_self ..,by simp [Ent.kl]⟩
  rcases (h2.fresh b hb1).2 with h3 | h3
  ·exact .inr h3
  ·exact .inl (.inr h3)
 ·have hnd:=h2.nodup
  have hkk:keys (.box b T cs::rs)=b::keys rs:=rfl
  rw [hkk,List.nodup_cons] at hnd
  exact hnd.1
theorem r_fzb (k:Nat) (hk:pick1 es k=some (.box b T cs,rs)) (h:LJ P Rp ops rest K N l (Sat w0 M A (.ro (BoxS b T cs)::rs))):LJ P Rp ops rest K N l (Sat w0 M A es):=fun a w hf hw=>h a w hf (hw.freezeB hk)
end
end Go.J
set_option linter.unusedVariables false
namespace Go.J
open Go Go.RowKit
section
variable {P:Program} {K:List Lay} {N:NN} {l:Fr} {H:World→Prop} {opl:List Oper} {st0 st2:List Nat} {S1 S2:World→Prop} {fuel:Nat} {listed:Array Bool} {d ty i id j e:Nat} {op:Op} {pos:String} {af:Array Edge} {v:Value} {b:Bool}
variable {R:Post} [PanicOk R]
theorem at_take2g (i:Nat) (ho:nth opl i=some ⟨some d,op,ty,pos,af,some (j,b)⟩) (hgs:gslot opl j=some e) (hgv:look l e=some (.bool b)) (hge:Nat.blt e N.n=true)
  (hs:Region.noSelect opl.toArray=true) (hf:Region.free .any opl.toArray listed i=true) (hr:(Region.ready .any opl.toArray listed).contains i=true)
  (h12:∀ w,S1 w→S2 w) (h2:st0.contains i=true) (hd:Nat.blt d N.n=true) (hp:PureOp P N ⟨some d,op,ty,pos,af,none⟩ l S2 v) (hS:∀ w,H w→S2 w)
  (h:AT P R opl K st0 st2 S1 S2 fuel (listed.setIfInBounds i true) N ((d,v)::l) H):AT P R opl K st0 st2 S1 S2 (fuel+1) listed N l H:=by
 intro a w hfr hw'
 have ho':opl.toArray[i]? = some ⟨some d,op,ty,pos,af,some (j,b)⟩:=by rw [List.getElem?_toArray,← nth_eq]; exact ho
 have hwt:=wanted_eq (o:=⟨some d,op,ty,pos,af,some (j,b)⟩) rfl hgs hfr hgv hge
 refine wpAnyT_first (Y:=S2) (v:=v) ho' (Region.noSelect_spec hs) (fun c a w h=>QK_panic h) h2 fuel listed a w (Region.free_spec ho' hf) ?_ (by simpa using hr)
  (.inl ⟨by rw [hwt]; simp,fun w' hw'=>hp a w' hfr hw'⟩) (hS w hw') (h _ _ (hfr.put hd v) hw')
 intro j oj hj hji hun hno
 cases h0:st0.contains j with
 | true=>exact .inl rfl
 | false =>
  refine .inr ⟨rfl,fun w1 w hSw=>?_⟩
  unfold SofT at hSw
  rw [h0,if_neg (by simp)] at hSw
  split at hSw
  ·exact hSw
  ·exact h12 w hSw
theorem at_skip_aux (i:Nat) (ho:nth opl i=some ⟨some d,op,ty,pos,af,some (j,b)⟩) (hwt:∀ a,Frm N l a→Region.wanted (⟨some d,op,ty,pos,af,some (j,b)⟩:Oper) (yielded opl.toArray a.tmps)=false)
  (hs:Region.noSelect opl.toArray=true) (hf:Region.free .any opl.toArray listed i=true) (hr:(Region.ready .any opl.toArray listed).contains i=true)
  (h2:st0.contains i=true) (hd:Nat.blt d N.n=true)
  (h:AT P R opl K st0 st2 S1 S2 fuel (listed.setIfInBounds i true) N ((d,undef)::l) H):AT P R opl K st0 st2 S1 S2 (fuel+1) listed N l H:=by
 intro a w hfr hw'
 have ho':opl.toArray[i]? = some ⟨some d,op,ty,pos,af,some (j,b)⟩:=by rw [List.getElem?_toArray,← nth_eq]; exact ho
 refine wpAnyT_first (Y:=fun _=>True) (v:=undef) ho' (Region.noSelect_spec hs) (fun c a w h=>QK_panic h) h2 fuel listed a w (Region.free_spec ho' hf) ?_ (by simpa using hr)
  (.inr ⟨hwt a hfr,rfl⟩) trivial (h _ _ (hfr.put hd undef) hw')
 intro j oj hj hji hun hno
 cases h0:st0.contains j with
 | true=>exact .inl rfl
 | false=>exact .inr ⟨rfl,fun _ _ _=>trivial⟩
theorem at_skip (i:Nat) (ho:nth opl i=some ⟨some d,op,ty,pos,af,some (j,b)⟩) (hgs:gslot opl j=some e) (hgv:look l e=some (.bool (!b))) (hge:Nat.blt e N.n=true)
  (hs:Region.noSelect opl.toArray=true) (hf:Region.free .any opl.toArray listed i=true) (hr:(Region.ready .any opl.toArray listed).contains i=true)
  (h2:st0.contains i=true) (hd:Nat.blt d N.n=true)
  (h:AT P R opl K st0 st2 S1 S2 fuel (listed.setIfInBounds i true) N ((d,undef)::l) H):AT P R opl K st0 st2 S1 S2 (fuel+1) listed N l H :=
 at_skip_aux i ho (fun a hfr=>by rw [wanted_eq (o:=⟨some d,op,ty,pos,af,some (j,b)⟩) rfl hgs hfr hgv hge]; cases b <;> rfl) hs hf hr h2 hd h
theorem at_case {R:Post} {i:Nat} (b:Bool) (hv:look l i=some (.bool b)) (ht:b=true→AT P R opl K st0 st2 S1 S2 fuel listed N ((i,.bool true)::l) H) (hf:b=false→AT P R opl K st0 st2 S1 S2 fuel listed N ((i,.bool false)::l) H):AT P R opl K st0 st2 S1 S2 fuel listed N l H:=by
 have key:∀ b',b=b'→AT P R opl K st0 st2 S1 S2 fuel listed N ((i,.bool b')::l) H→AT P R opl K st0 st2 S1 S2 fuel listed N l H:=by
  intro b' e h a w hfr hw
  subst e
  refine h a w ⟨hfr.defers,hfr.size,fun k u hu=>?_⟩ hw
  rw [look_cons] at hu
  by_cases e:i=k
  ·subst e; rw [if_pos rfl] at hu; cases hu; exact hfr.vals i _ hv
  ·rw [if_neg e] at hu; exact hfr.vals k u hu
 cases b with
 | true=>exact key true rfl (ht rfl)
 | false=>exact key false rfl (hf rfl)
end
section
variable {P:Program} {R:Post} {K:List Lay} {N:NN} {fr:Fr} {H:World→Prop}
end
end Go.J
namespace Go.J
open Go Go.RowKit
section
variable {P:Program} {Rp:Post} {K:List Lay} {N:NN} {l:Fr} {ops:Array Oper} {rest:List Oper} {d:Nat} {dd:Option Nat} {ty:Nat} {pos:String} {af:Array Edge} {g:Option (Nat × Bool)} {x y om oh:Operand} {T:TypeId}
variable {w0:World} {M:List Nat} {A:Nat→Prop} {es:List Ent} {α : Type} {R:Rep α} {s t:SV} {xs ys qs:List α} {sz by_:Nat} {zs:List Value} {lo hi:Int}
end
end Go.J
