/- LY6: who is a member: what the program's club answers. In plain Lean, no program in sight. -/
import Derived.Test.YtlkpfhdlfapfhaaGreatDoorLY4
namespace Go.G
open Go Go.J
set_option linter.unusedSimpArgs false
def askF (l:List TAct) (at_:Int):Int:=bif actsF l != 0 then actsF l else bif isAt at_ then 0 else 1
theorem askF_zero {l:List TAct} {at_:Int} (h:askF l at_=0):ActsOK l∧isAt at_=true:=by
 unfold askF at h
 by_cases h1:actsF l=0
 ·rw [show (actsF l != 0)=false by simpa using h1,cond_false] at h
  cases h2:isAt at_
  ·rw [h2] at h; cases h
  ·exact ⟨(actsF_zero l).1 h1,rfl⟩
 ·rw [show (actsF l != 0)=true by simpa using h1,cond_true] at h
  exact (h1 h).elim
theorem askF_of {l:List TAct} {at_:Int} (h:ActsOK l) (h2:isAt at_=true):askF l at_=0:=by
 unfold askF
 rw [(actsF_zero l).2 h,h2]; rfl
theorem askedFault_spec (l:List TAct) (at_:Int):m_club_askedFault l at_=some (askF l at_):=by
 unfold m_club_askedFault askF
 rw [CheckActs_spec,Option.bind_some,IsMoment_R,Option.bind_some]
 cases (actsF l != 0) <;> cases isAt at_ <;> rfl
abbrev BkT:=Int × Stays × List (ByteArray × Int) × Mots × List Int
noncomputable def bookT (l:List TAct) (at_:Int):BkT:=(at_,(booksOf l at_).st,(booksOf l at_).pd,(booksOf l at_).mo,(booksOf l at_).rf)
theorem checkedAt_spec (l:List TAct) (at_:Int):m_club_checkedAt l at_=some (if askF l at_=0 then (some (bookT l at_),0) else (none,askF l at_)):=by
 unfold m_club_checkedAt
 rw [askedFault_spec,Option.bind_some]
 by_cases h:askF l at_=0
 ·rw [show (askF l at_ != 0)=false by simpa using h,ifB_false,(booksAt_spec l at_ (askF_zero h).1.len).1,Option.bind_some,if_pos h]; rfl
 ·rw [show (askF l at_ != 0)=true by simpa using h,ifB_true,if_neg h]
theorem BOK.rows {n:Nat} {s:Bk} (h:BOK n s) (hn:n≤1000000) (k:ByteArray):(rowOf s.st k).length≤1000000:=Nat.le_trans (h.row k) hn
theorem Members_spec (l:List TAct) (at_:Int):m_club_Members l at_=some (if askF l at_=0 then (membersOf (booksOf l at_).st,0) else ([],askF l at_)):=by
 unfold m_club_Members
 rw [checkedAt_spec,Option.bind_some]
 by_cases h:askF l at_=0
 ·obtain ⟨-,hb⟩:=booksAt_spec l at_ (askF_zero h).1.len
  simp only [if_pos h,optB_some]
  rw [show ((0:Int) != 0)=false from rfl,ifB_false]
  unfold bookT
  simp only
  rw [members_spec _ _ _ _ _ (hb.rows (by omega)) (Nat.le_trans hb.len (by omega))]; rfl
 ·simp only [if_neg h,optB_none]
  rw [show (askF l at_ != 0)=true by simpa using h,ifB_true]
def annA:ByteArray:=ByteArray.mk [97,110,110].toArray
def oneA:TAct:=TAct.mk (ByteArray.mk [97].toArray) 1 0 1 annA ByteArray.empty 0 false ByteArray.empty 0
theorem one_ok:ActsOK [oneA]:=by
 refine ⟨by simp,fun x hx=>?_,fun i x y hx hy=>?_,by simp⟩
 ·simp only [List.mem_singleton] at hx
  subst hx
  kernel_rfl
 ·simp at hy
theorem sortK_one (a:ByteArray):sortK [a]=[a]:=by
 unfold sortK
 rw [List.map_cons,List.map_nil,List.mergeSort_singleton]; rfl
theorem one_member:m_club_Members [oneA] 0=some ([annA],0):=by
 rw [Members_spec,if_pos (askF_of one_ok (by kernel_rfl))]
 have h1:(booksOf [oneA] 0).st=[(annA,[⟨0,-1,0⟩])]:=by
  unfold booksOf
  rw [show cntIx 0 0 [oneA]=[(0:Int)] from rfl]
  simp only [List.foldl_cons,List.foldl_nil]
  rw [show stepB [oneA] ⟨[],[],[],[]⟩ 0=stepX ⟨[],[],[],[]⟩ 0 oneA from rfl]
  unfold stepX
  rw [if_pos (show perm [] [] oneA=true from rfl)]
  rfl
 unfold membersOf
 rw [h1]
 simp only [List.map_cons,List.map_nil]
 rw [sortK_one]
 have:memK [(annA,[⟨0,-1,0⟩])] annA=true:=by
  unfold memK rowOf lkM
  simp
 simp [this]
end Go.G
