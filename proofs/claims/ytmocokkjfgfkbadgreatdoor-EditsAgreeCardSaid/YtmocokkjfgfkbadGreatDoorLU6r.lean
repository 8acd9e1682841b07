/- LU6r: right tones as they are drawn (printed from LB3). In plain Lean, no program in sight. -/
import Derived.Test.YtmocokkjfgfkbadGreatDoorLU5
import Derived.Test.YtmocokkjfgfkbadGreatDoorLC1
namespace Go.G
open Go Go.J
set_option linter.unusedSimpArgs false
set_option linter.unusedVariables false
theorem long_specR {x:TBar} (h:bad x=false):m_piece_long x=some (lB x)∧1≤lB x∧lB x≤3072∧(x.Beats*192).tdiv x.Unit=lB x:=by
 obtain ⟨h1,h2,h3,-⟩:=notbad x h
 unfold m_piece_long lB
 have key:∀ u v:Int,x.Unit=u→(192:Int)=u*v→0<u→12≤v→v≤192→(quoM 192 x.Unit).bind (fun z2=>some (w64 (x.Beats*z2)))=some (x.Beats*(192:Int).tdiv x.Unit) ∧
   1≤x.Beats*(192:Int).tdiv x.Unit∧x.Beats*(192:Int).tdiv x.Unit≤3072∧(x.Beats*192).tdiv x.Unit=x.Beats*(192:Int).tdiv x.Unit:=by
  intro u v hu huv hu0 hv hv2
  subst hu
  have e1:(192:Int).tdiv x.Unit=v:=by rw [huv]; exact Int.mul_tdiv_cancel_left _ (by omega)
  have e2:(x.Beats*192).tdiv x.Unit=x.Beats*v:=by rw [huv,← Int.mul_assoc,Int.mul_comm x.Beats,Int.mul_assoc]; exact Int.mul_tdiv_cancel_left _ (by omega)
  have b1:1*v≤x.Beats*v:=Int.mul_le_mul_of_nonneg_right h1 (by omega)
  have b2:x.Beats*v≤16*v:=Int.mul_le_mul_of_nonneg_right h2 (by omega)
  rw [quoM_of (by omega),e1,e2,Option.bind_some,w64_id (n:=v) (by omega),w64_id (by omega)]
  exact ⟨rfl,by omega,by omega,rfl⟩
 rcases h3 with h3 | h3 | h3 | h3 | h3
 ·exact key 1 192 h3 rfl (by omega) (by omega) (by omega)
 ·exact key 2 96 h3 rfl (by omega) (by omega) (by omega)
 ·exact key 4 48 h3 rfl (by omega) (by omega) (by omega)
 ·exact key 8 24 h3 rfl (by omega) (by omega) (by omega)
 ·exact key 16 12 h3 rfl (by omega) (by omega) (by omega)
def txs:List ByteArray:=[ByteArray.empty,ByteArray.empty,(ByteArray.mk [97].toArray),(ByteArray.mk [71,108,111,45].toArray),(ByteArray.mk [114,105,45].toArray),(ByteArray.mk [195,169].toArray),(ByteArray.mk [45].toArray)]
structure RT (x:TTone):Prop where
 note:x.Note = -1∨(0≤x.Note∧x.Note≤127)
 low:∃ k:Nat,1≤k∧k≤192∧x.Long=lowF k 192
 txt:x.Text∈txs
 sil:x.Note = -1→x.Tied=false∧x.Text=ByteArray.empty
structure FillsR (bs:List TBar) (t:List TTone):Prop where
 len:t.length≤2000
 rt:∀ x∈t,RT x
 seg:∃ gs,t=List.flatten gs∧gs.map sumU=bs.map lB
 tie:∀ (j:Nat) x,t[j]? = some x→x.Tied=true→∃ y,t[j+1]? = some y∧carryB x y=true
def Mid (x:TTone):Prop:=x.Note = -1∨(48≤x.Note∧x.Note≤67)
structure GT (t:List TTone):Prop where
 rt:∀ x∈t,RT x∧Mid x
 tie:∀ (j:Nat) x,t[j]? = some x→x.Tied=true→∃ y,t[j+1]? = some y∧carryB x y=true
theorem split_by:∀ (ks:List (List Int)) (t:List TTone),t.map uT=List.flatten ks→∃ gs,t=List.flatten gs∧gs.map sumU=ks.map List.sum
 | [],t,h=>⟨[],by simpa using h,rfl⟩
 | k::ks,t,h=>by
  rw [List.flatten_cons] at h
  have h1:(t.take k.length).map uT=k:=by rw [List.map_take,h,List.take_left']; rfl
  have h2:(t.drop k.length).map uT=List.flatten ks:=by rw [List.map_drop,h,List.drop_left']; rfl
  obtain ⟨gs,e1,e2⟩:=split_by ks _ h2
  refine ⟨t.take k.length::gs,by rw [List.flatten_cons,← e1,List.take_append_drop],?_⟩
  rw [List.map_cons,List.map_cons,e2]
  unfold sumU
  rw [h1]
end Go.G
