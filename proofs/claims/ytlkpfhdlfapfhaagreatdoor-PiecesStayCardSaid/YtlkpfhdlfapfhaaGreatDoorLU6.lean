/- LU6: tones shifted, what sounds at a time, lyrics. No program in sight. -/
import Derived.Test.YtlkpfhdlfapfhaaGreatDoorLU5
namespace Go.G
open Go Go.J
set_option linter.unusedSimpArgs false
theorem shift_loops (a:Int):∀ (i:Nat) (x:TTone) (u:List TTone),m_gleeref2_ShiftOf_l1 a i x u=m_piece_Shift_l1 a i x u:=by
 intro i x u
 unfold m_gleeref2_ShiftOf_l1 m_piece_Shift_l1
 simp only [OutB_spec,inB_spec,Option.bind_some,Bool.not_not]
theorem Shift_loop (a:Int) (t:List TTone):∃ v:List TTone × Int,((rangeM (m_piece_Shift_l1 a) 0 t t).bind fun f=>Flow.fin f fun u=>some (u,(0:Int)))=some v:=by
 obtain ⟨f,h1,h2⟩:=rangeM_stop (m_piece_Shift_l1 a) t (fun _ s=>s.length=t.length) (fun f=>∃ v:List TTone × Int,(Flow.fin f fun u=>some (u,(0:Int)))=some v) (by
  intro i x s hx hs
  have hi:i<s.length:=by rw [hs]; exact (List.getElem?_eq_some_iff.1 hx).1
  have hg:getI s (i:Int)=some s[i]:=getI_of (n:=i) rfl (List.getElem?_eq_getElem hi)
  unfold m_piece_Shift_l1
  simp only [hg,Option.bind_some]
  cases (s[i].Note==(-1)) with
  | true=>exact ⟨_,rfl,fun s' e=>by cases e; exact hs,fun _ e=>(by cases e),fun _ e=>(by cases e)⟩
  | false =>
   have hg2:∀ y,getI (s.set ((i:Int).toNat) y) (i:Int)=some y:=fun y=>getI_of (n:=i) rfl (by simp [hi])
   simp only [ifB_false,hg2,Option.bind_some,OutB_spec]
   cases outB (w64 (s[i].Note+a)) 0 127 with
   | true=>exact ⟨_,rfl,fun s' e=>(by cases e),fun _ e=>(by cases e),fun v e=>by cases e; exact ⟨_,rfl⟩⟩
   | false=>exact ⟨_,rfl,fun s' e=>by cases e; simpa using hs,fun _ e=>(by cases e),fun _ e=>(by cases e)⟩) (fun s _=>⟨_,rfl⟩) t rfl
 obtain ⟨v,hv⟩:=h2
 exact ⟨v,by rw [h1]; exact hv⟩
theorem Clone_spec (t:List TTone) (hl:t.length≤1000000):m_slices_Clone_api_Tone_api_Tone t=some t:=by
 unfold m_slices_Clone_api_Tone_api_Tone
 rw [appM_of (by simp; omega) (by omega)]; rfl
theorem Shift_spec {bs:List TBar} {t:List TTone} {a:Int} (hl:t.length≤1000000) (hk:m_piece_CheckTones bs t=some 0):∃ v,m_piece_Shift bs t a=some v∧m_gleeref2_ShiftOf t a=some v:=by
 have e:m_gleeref2_ShiftOf_l1 a=m_piece_Shift_l1 a:=by funext i x u; exact shift_loops a i x u
 unfold m_piece_Shift m_gleeref2_ShiftOf
 rw [hk]
 simp only [Option.bind_some,bne_self_eq_false,ifB_false,OutB_spec,inB_spec,Bool.not_not,Clone_spec t hl,e]
 cases outB a (-127) 127 with
 | true=>exact ⟨_,rfl,rfl⟩
 | false=>exact (Shift_loop a t).imp fun v hv=>⟨hv,hv⟩
end Go.G
