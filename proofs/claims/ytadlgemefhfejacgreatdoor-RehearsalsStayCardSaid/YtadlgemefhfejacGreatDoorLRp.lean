/- LRp: a plan is found by trying all: what all lack, the least of it. In plain Lean, no program in sight. -/
import Derived.Test.YtadlgemefhfejacGreatDoorLRb
namespace Go.G
open Go Go.J
set_option linter.unusedSimpArgs false
set_option linter.unusedVariables false
theorem or_bit:∀ k:Nat,k<6→∀ e:Nat,e<2 ^ k→orI (e:Int) ((2 ^ k:Nat):Int)=((e+2 ^ k:Nat):Int):=by decide
theorem andNot_bit:∀ k:Nat,k<6→∀ e:Nat,e<2 ^ k→andNotI ((e+2 ^ k:Nat):Int) ((2 ^ k:Nat):Int)=(e:Int):=by decide
theorem shl_one (k:Nat) (hk:k≤6):shlM 1 (k:Int)=some ((2 ^ k:Nat):Int):=by
 unfold shlM
 rw [if_neg (by omega)]
 have:(k:Int).toNat=k:=by omega
 rw [this,Nat.min_eq_left (by omega)]
 have hk2:(2:Nat) ^ k≤2 ^ 6:=Nat.pow_le_pow_right (by omega) hk
 have e:(1:Int)*2 ^ k=((2 ^ k:Nat):Int):=by rw [Int.one_mul]; exact (Int.natCast_pow 2 k).symm
 rw [e]
 generalize 2 ^ k=q at hk2
 have:(q:Int)≤64:=by omega
 rw [w64_id (by omega)]
theorem and_one:∀ s:Nat,s<64→andI (s:Int) 1=((s % 2:Nat):Int):=by decide
theorem shr_set (s k:Nat) (hs:s<64) (hk:k≤6):shrM (s:Int) (k:Int)=some ((s / 2 ^ k:Nat):Int):=by
 unfold shrM
 rw [if_neg (by omega)]
 have:(k:Int).toNat=k:=by omega
 rw [this,Nat.min_eq_left (by omega)]
 congr 1
 have e:(2:Int) ^ k=((2 ^ k:Nat):Int):=(Int.natCast_pow 2 k).symm
 rw [e,Int.fdiv_eq_ediv_of_nonneg _ (Int.natCast_nonneg _)]
 exact (Int.natCast_ediv _ _).symm
def bitA:List Int→Nat→Nat→Int
 | [],_,_=>0
 | c::cs,i,s=>((s / 2 ^ i % 2:Nat):Int)*c+bitA cs (i+1) s
theorem bitA_le {B:Int} (hB:0≤B):∀ (cs:List Int) (i s:Nat),(∀ c∈cs,0≤c∧c≤B)→0≤bitA cs i s∧bitA cs i s≤B*(cs.length:Int):=by
 intro cs
 induction cs with
 | nil=>intro i s _; exact ⟨Int.le_refl _,by simp [bitA]⟩
 | cons c cs ih =>
  intro i s h
  have h1:=ih (i+1) s fun c hc=>h c (List.mem_cons_of_mem _ hc)
  have h2:=h c (List.mem_cons_self ..)
  unfold bitA
  rw [List.length_cons,Int.natCast_add,Int.mul_add]
  have hb:s / 2 ^ i % 2=0∨s / 2 ^ i % 2=1:=by omega
  rcases hb with hb | hb <;> rw [hb]
  ·simp only [Int.natCast_zero,Int.zero_mul]; omega
  ·simp only [Int.natCast_one,Int.one_mul]; omega
noncomputable def canF (A:List (ByteArray × List TWindow)) (s:ByteArray) (f:TWindow):Int:=(f.To - f.From) - lenS (((lkM A s).getD []).filterMap (clipW f))
def lackX (need:Int) (cs:List Int) (s:Nat):Int:=max (need - bitA cs 0 s) 0
noncomputable def lackG (free:List TWindow) (p:ByteArray) (A:List (ByteArray × List TWindow)) (need:Int):List TSings→Nat→Int
 | [],_=>0
 | x::g,s=>(if x.Piece=p then lackX need (free.map (canF A x.Singer)) s else 0)+lackG free p A need g s
noncomputable def lackP (free:List TWindow) (p:ByteArray) (g:List TSings) (A:List (ByteArray × List TWindow)) (w:List TWish) (s:Nat):Int :=
 match wishOf w p with | some n=>lackG free p A n g s | none=>0
def SepM (A:List (ByteArray × List TWindow)):Prop:=∀ s,SepW ((lkM A s).getD [])∧((lkM A s).getD []).length≤1000
theorem can_bd {A:List (ByteArray × List TWindow)} (hA:SepM A) (s:ByteArray) {f:TWindow} (hf:isT f=true):0≤canF A s f∧canF A s f≤EndI:=by
 have h1:=isT_iff.1 hf
 unfold canF
 rw [len_within f _ (hA s).1]
 have h2:=cntW_nonneg (covW ((lkM A s).getD [])) f.From f.To
 have h3:=cntW_le (p:=covW ((lkM A s).getD [])) (a:=f.From) (b:=f.To) (by omega)
 omega
theorem clip_ok {f:TWindow} {l:List TWindow} (hf:isT f=true):∀ w∈l.filterMap (clipW f),0≤w.From∧w.From<w.To∧w.To≤EndI:=by
 intro w hw
 obtain ⟨x,hx,hc⟩:=List.mem_filterMap.1 hw
 have h1:=isT_iff.1 hf
 unfold clipW at hc
 split at hc
 ·cases hc
  simp only
  omega
 ·cases hc
theorem sub_len {ρ : Type} (step:Nat→TWindow→Int→Option (Flow Int ρ)) (hst:∀ i w n,step i w n=some (.nxt (w64 (n - (w64 (w.To - w.From)))))):∀ (l:List TWindow) (i:Nat) (n:Int),(∀ w∈l,0≤w.From∧w.From<w.To∧w.To≤EndI) → -1000000000000000000+EndI*(l.length:Int)≤n→n≤1000000000000000000→rangeM step i l n=some (.brk (n - lenS l)):=by
 intro l
 induction l with
 | nil=>intro i n _ _ _; simp [lenS]
 | cons w l ih =>
  intro i n h hn hn2
  have h2:=h w (List.mem_cons_self ..)
  rw [List.length_cons,Int.natCast_add,Int.mul_add] at hn
  unfold EndI at *
  have hlen:(0:Int)≤345686400000*(l.length:Int):=by omega
  rw [rangeM_cons,hst,w64_id (n:=w.To - w.From) (by omega),w64_id (by omega),Option.bind_some,run_nxt,ih (i+1) _ (fun x hx=>h x (List.mem_cons_of_mem _ hx)) (by omega) (by omega)]
  show _=some (Flow.brk (n - ((w.To - w.From)+lenS l)))
  congr 2; omega
theorem lacks_l2 (A:List (ByteArray × List TWindow)) (hA:SepM A) (x:TSings) (f:TWindow) (hf:isT f=true) (i:Nat) (u:List Int) (hu:u.length≤100):m_rehearse_lacksOf_l2 A x i f u=some (.nxt (u++[canF A x.Singer f])):=by
 unfold m_rehearse_lacksOf_l2
 have h1:=isT_iff.1 hf
 have hl:=(hA x.Singer).2
 have hfl:(((lkM A x.Singer).getD []).filterMap (clipW f)).length≤1000:=Nat.le_trans (List.length_filterMap_le _ _) hl
 unfold EndI at h1
 rw [within_spec _ _ (by omega),Option.bind_some,w64_id (by omega),sub_len m_rehearse_lacksOf_l3 (fun _ _ _=>rfl) _ 0 _ (clip_ok hf) (by unfold EndI; omega) (by omega),Option.bind_some,fin_brk,appM_of (by rw [List.length_singleton]; omega) (by omega)]
 rfl
theorem cans_run (A:List (ByteArray × List TWindow)) (hA:SepM A) (x:TSings):∀ (t:List TWindow) (i:Nat) (u:List Int),(∀ f∈t,isT f=true)→u.length+t.length≤100→rangeM (m_rehearse_lacksOf_l2 A x) i t u=some (.brk (u++t.map (canF A x.Singer))):=by
 intro t
 induction t with
 | nil=>intro i u _ _; simp
 | cons f t ih =>
  intro i u hf hu
  rw [List.length_cons] at hu
  rw [rangeM_cons,lacks_l2 A hA x f (hf f (List.mem_cons_self ..)) i u (by omega),Option.bind_some,run_nxt,ih _ _ (fun g hg=>hf g (List.mem_cons_of_mem _ hg)) (by rw [List.length_append,List.length_singleton]; omega)]
  simp
theorem bits_run (cs:List Int) (s:Nat) (hs:s<64) (hc:∀ c∈cs,0≤c∧c≤EndI) (hl:cs.length≤6):∀ (t:List TWindow) (i:Nat) (n:Int),i+t.length=cs.length → -1000000000000000000+EndI*(t.length:Int)≤n→n≤1000000000000000000 →
  rangeM (m_rehearse_lacksOf_l5 cs s) i t n=some (.brk (n - bitA (cs.drop i) i s)):=by
 intro t
 induction t with
 | nil =>
  intro i n hi _ _
  rw [List.length_nil,Nat.add_zero] at hi
  rw [rangeM_nil,List.drop_of_length_le (by omega)]
  simp [bitA]
 | cons f t ih =>
  intro i n hi hn hn2
  rw [List.length_cons] at hi hn
  rw [Int.natCast_add,Int.mul_add] at hn
  have hg:cs[i]? = some (cs[i]'(by omega)):=List.getElem?_eq_getElem (by omega)
  have hci:=hc cs[i] (List.getElem_mem ..)
  have hq:s / 2 ^ i<64:=Nat.lt_of_le_of_lt (Nat.div_le_self _ _) hs
  rw [List.drop_eq_getElem_cons (by omega:i<cs.length),rangeM_cons]
  have hst:m_rehearse_lacksOf_l5 cs s i f n=some (.nxt (n - ((s / 2 ^ i % 2:Nat):Int)*cs[i])):=by
   unfold m_rehearse_lacksOf_l5
   rw [shr_set s i hs (by omega),Option.bind_some,getI_of rfl hg,Option.bind_some,and_one _ hq]
   unfold EndI at *
   have hb:s / 2 ^ i % 2=0∨s / 2 ^ i % 2=1:=by omega
   rcases hb with hb | hb <;> rw [hb]
   ·simp only [Int.natCast_zero,Int.zero_mul]; rw [w64_id (n:=0) (by omega),w64_id (by omega)]
   ·simp only [Int.natCast_one,Int.one_mul]; rw [w64_id (n:=cs[i]) (by omega),w64_id (by omega)]
  rw [hst,Option.bind_some,run_nxt]
  have hb:0≤((s / 2 ^ i % 2:Nat):Int)*cs[i]∧((s / 2 ^ i % 2:Nat):Int)*cs[i]≤EndI:=by
   have hb:s / 2 ^ i % 2=0∨s / 2 ^ i % 2=1:=by omega
   rcases hb with hb | hb <;> rw [hb]
   ·simp only [Int.natCast_zero,Int.zero_mul]; unfold EndI at *; omega
   ·simp only [Int.natCast_one,Int.one_mul]; omega
  rw [ih (i+1) _ (by omega) (by omega) (by omega)]
  show _=some (Flow.brk (n - (((s / 2 ^ i % 2:Nat):Int)*cs[i]+bitA (cs.drop (i+1)) (i+1) s)))
  congr 2; omega
def rowF (N:Nat) (f:Nat→Int):List Int:=(List.range (2 ^ N)).map f
theorem rowF_len (N:Nat) (f:Nat→Int):(rowF N f).length=2 ^ N:=by unfold rowF; rw [List.length_map,List.length_range]
theorem rowF_get (N:Nat) (f:Nat→Int) {s:Nat} (hs:s<2 ^ N):(rowF N f)[s]? = some (f s):=by
 unfold rowF; rw [List.getElem?_map,List.getElem?_range hs]; rfl
theorem pow6 {N:Nat} (h:N≤6):2 ^ N≤64:=Nat.pow_le_pow_right (by omega) h (n:=2)
theorem sets_run (free:List TWindow) (y:Int × Bool) (cs:List Int) (hN:free.length≤6) (hcl:cs.length=free.length) (hc:∀ c∈cs,0≤c∧c≤EndI) (hy:0≤y.1∧y.1≤86400000) (f:Nat→Int) (hf:∀ s,0≤f s∧f s≤1000000000000000) (u0:List Int) (hu0:u0.length=2 ^ free.length) :
  rangeM (m_rehearse_lacksOf_l4 free y cs) 0 u0 (rowF free.length f)=some (.brk (rowF free.length fun s=>f s+lackX y.1 cs s)):=by
 have hp:=pow6 hN
 have key:∀ (t:List Int) (i:Nat),i+t.length=2 ^ free.length→rangeM (m_rehearse_lacksOf_l4 free y cs) i t (rowF free.length fun s=>if s<i then f s+lackX y.1 cs s else f s)=some (.brk (rowF free.length fun s=>f s+lackX y.1 cs s)):=by
  intro t
  induction t with
  | nil =>
   intro i hi
   rw [List.length_nil,Nat.add_zero] at hi
   rw [rangeM_nil]
   congr 2
   unfold rowF
   refine List.map_congr_left fun s hs=>?_
   rw [if_pos (by have:=List.mem_range.1 hs; omega)]
  | cons x t ih =>
   intro i hi
   rw [List.length_cons] at hi
   have hget:=rowF_get free.length (fun s=>if s<i then f s+lackX y.1 cs s else f s) (s:=i) (by omega)
   rw [if_neg (Nat.lt_irrefl i)] at hget
   have hbd:=bitA_le (B:=EndI) (by unfold EndI; omega) cs 0 i hc
   have hlx:0≤lackX y.1 cs i∧lackX y.1 cs i≤86400000:=by unfold lackX; omega
   have hfi:=hf i
   have hst:m_rehearse_lacksOf_l4 free y cs i x (rowF free.length fun s=>if s<i then f s+lackX y.1 cs s else f s)=some (.nxt (rowF free.length fun s=>if s<i+1 then f s+lackX y.1 cs s else f s)):=by
    unfold m_rehearse_lacksOf_l4
    have hbr:=bits_run cs i (by omega) hc (by omega) free 0 y.1 (by omega) (by unfold EndI; omega) (by omega)
    rw [List.drop_zero] at hbr
    rw [hbr,Option.bind_some,fin_brk,getI_of rfl hget,Option.bind_some,Option.bind_some]
    have e:max (y.1 - bitA cs 0 i) 0=lackX y.1 cs i:=rfl
    rw [e,w64_id (by omega)]
    congr 2
    have e2:((i:Int)).toNat=i:=by omega
    rw [e2]
    apply List.ext_getElem?
    intro j
    rw [List.getElem?_set]
    by_cases hj:j<2 ^ free.length
    ·rw [rowF_get _ _ hj,rowF_get _ _ hj,rowF_len]
     by_cases hij:i=j
     ·subst hij; rw [if_pos rfl,if_pos hj,if_pos (by omega)]
     ·rw [if_neg hij]
      by_cases hlt:j<i
      ·rw [if_pos hlt,if_pos (by omega)]
      ·rw [if_neg hlt,if_neg (by omega)]
    ·rw [if_neg (by omega),List.getElem?_eq_none (by rw [rowF_len]; omega),List.getElem?_eq_none (by rw [rowF_len]; omega)]
   rw [rangeM_cons,hst,Option.bind_some,run_nxt]
   exact ih (i+1) (by omega)
 have:=key u0 0 (by omega)
 simpa using this
theorem lackG_bd {free:List TWindow} {p:ByteArray} {A:List (ByteArray × List TWindow)} {need:Int} (hA:SepM A) (hf:∀ f∈free,isT f=true) (hn:0≤need∧need≤86400000) (s:Nat):∀ (g:List TSings),0≤lackG free p A need g s∧lackG free p A need g s≤86400000*(g.length:Int):=by
 intro g
 induction g with
 | nil=>exact ⟨Int.le_refl _,by simp [lackG]⟩
 | cons x g ih =>
  unfold lackG
  rw [List.length_cons,Int.natCast_add,Int.mul_add]
  have hbd:=bitA_le (B:=EndI) (by unfold EndI; omega) (free.map (canF A x.Singer)) 0 s (fun c hc=>by obtain ⟨f,hfm,rfl⟩:=List.mem_map.1 hc; exact can_bd hA _ (hf f hfm))
  have hlx:0≤lackX need (free.map (canF A x.Singer)) s∧lackX need (free.map (canF A x.Singer)) s≤86400000:=by unfold lackX; omega
  split <;> omega
theorem lackG_append (free:List TWindow) (p:ByteArray) (A:List (ByteArray × List TWindow)) (need:Int) (s:Nat) (g':List TSings):∀ g:List TSings,lackG free p A need (g++g') s=lackG free p A need g s+lackG free p A need g' s:=by
 intro g
 induction g with
 | nil=>simp [lackG]
 | cons x g ih =>
  have e1:∀ g1:List TSings,lackG free p A need (x::g1) s=(if x.Piece=p then lackX need (free.map (canF A x.Singer)) s else 0)+lackG free p A need g1 s:=fun _=>rfl
  rw [List.cons_append,e1,e1,ih]; omega
theorem lacksOf_spec (free:List TWindow) (p:ByteArray) (g:List TSings) (A:List (ByteArray × List TWindow)) (w:List TWish) (hN:free.length≤6) (hf:∀ f∈free,isT f=true) (hg:g.length≤1000) (hA:SepM A) (hw:WiOK w) :
  m_rehearse_lacksOf free p g A w=some (rowF free.length (lackP free p g A w)):=by
 have hp:=pow6 hN
 unfold m_rehearse_lacksOf
 have hmk:makeM 8 (0:Int) ((2 ^ free.length:Nat):Int)=some (rowF free.length fun _=>0):=by
  unfold makeM rowF
  generalize 2 ^ free.length=q at hp
  rw [if_pos (by unfold maxLen; omega)]
  congr 1
  have:((q:Int)).toNat=q:=by omega
  rw [this]
  apply List.ext_getElem?
  intro j
  rw [List.getElem?_replicate,List.getElem?_map]
  by_cases hj:j<q
  ·rw [if_pos hj,List.getElem?_range hj]; rfl
  ·rw [if_neg hj,List.getElem?_eq_none (by rw [List.length_range]; omega)]; rfl
 rw [shl_one _ hN,Option.bind_some,hmk,Option.bind_some,needOf_spec w p hw,Option.bind_some]
 unfold lackP
 cases hwo:wishOf w p with
 | none=>rfl
 | some need =>
  simp only [Bool.not_true,ifB_false]
  have hneed:1≤need∧need≤86400000:=by
   unfold wishOf at hwo
   cases hfd:w.find? (fun x=>decide (x.Piece=p)) with
   | none=>rw [hfd] at hwo; cases hwo
   | some x=>rw [hfd] at hwo; cases hwo; exact wi_need hw (List.mem_of_find?_eq_some hfd)
  have key:∀ (t done:List TSings) (i:Nat),done++t=g→rangeM (m_rehearse_lacksOf_l1 free p A (need,true)) i t (rowF free.length (lackG free p A need done))=some (.brk (rowF free.length (lackG free p A need g))):=by
   intro t
   induction t with
   | nil=>intro done i hd; rw [List.append_nil] at hd; rw [hd]; rfl
   | cons x t ih =>
    intro done i hd
    have hlg:done.length≤1000:=by rw [← hd,List.length_append] at hg; omega
    have hst:m_rehearse_lacksOf_l1 free p A (need,true) i x (rowF free.length (lackG free p A need done))=some (.nxt (rowF free.length (lackG free p A need (done++[x])))):=by
     unfold m_rehearse_lacksOf_l1
     have es:∀ s,lackG free p A need (done++[x]) s=lackG free p A need done s+(if x.Piece=p then lackX need (free.map (canF A x.Singer)) s else 0):=fun s=>by
      rw [lackG_append]; congr 1; unfold lackG lackG; omega
     by_cases hx:x.Piece=p
     ·rw [show (x.Piece.toList==p.toList)=true by rw [hx]; exact beq_self_eq_true _,Bool.not_true,ifB_false,cans_run A hA x free 0 [] hf (by simp; omega),Option.bind_some,fin_brk,List.nil_append]
      rw [sets_run free (need,true) _ hN (by rw [List.length_map]) (fun c hc=>by obtain ⟨f,hfm,rfl⟩:=List.mem_map.1 hc; exact can_bd hA _ (hf f hfm)) (by simp only; omega) _ (fun s=>by have:=lackG_bd (p:=p) hA hf (need:=need) (by omega) s done; omega) _ (rowF_len _ _),Option.bind_some,fin_brk]
      congr 2
      unfold rowF
      refine List.map_congr_left fun s _=>?_
      rw [es,if_pos hx]
     ·rw [show (x.Piece.toList==p.toList)=false by rw [beq_eq_false_iff_ne]; exact fun e=>hx (ba_toList_inj.1 e),Bool.not_false,ifB_true]
      congr 2
      unfold rowF
      refine List.map_congr_left fun s _=>?_
      rw [es,if_neg hx,Int.add_zero]
    rw [rangeM_cons,hst,Option.bind_some,run_nxt]
    exact ih (done++[x]) (i+1) (by rw [List.append_assoc]; exact hd)
  have:=key g [] 0 rfl
  have e0:(lackG free p A need [])=fun _=>0:=rfl
  rw [e0] at this
  rw [this]; rfl
end Go.G
