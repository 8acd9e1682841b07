/- LRs: slots that are drawn right are right. In plain Lean, no program in sight. -/
import Derived.Test.YtkeieikpobfapaaGreatDoorLRd
import Derived.Test.YtkeieikpobfapaaGreatDoorLRk
import Derived.Test.YtkeieikpobfapaaGreatDoorLS2
namespace Go.G
open Go Go.J
set_option linter.unusedSimpArgs false
set_option linter.unusedVariables false
def hallS:ByteArray:=ByteArray.mk [104,97,108,108].toArray
def cellS:ByteArray:=ByteArray.mk [99,101,108,108,97,114].toArray
def altS:ByteArray:=ByteArray.mk [97,108,116,111].toArray
def basS:ByteArray:=ByteArray.mk [98,97,115,115].toArray
def keyS:List ByteArray:=[(ByteArray.mk [115,98].toArray),(ByteArray.mk [115,97].toArray),(ByteArray.mk [115,99].toArray),(ByteArray.mk [115,100].toArray),(ByteArray.mk [115,101].toArray)]
structure GdSl (x:TSlot):Prop where
 key:x.Key∈keyS
 room:x.Room=hallS∨x.Room=cellS
 piece:x.Piece=gloB∨x.Piece=kyrB
 parts:x.Parts=[]∨x.Parts=[altS]∨x.Parts=[basS]∨x.Parts=[altS,basS]
 time:0≤x.Time.From∧x.Time.From<x.Time.To∧x.Time.To≤100000
structure SlJ (p0:Int) (i:Nat) (s:Int × Int × (List (ByteArray × Int)) × (List TSlot)):Prop where
 a:0≤s.1∧s.1≤200*(i:Int)
 p:OKp (p0+20*i) s.2.1
 f:∀ k,0≤(lkM s.2.2.1 k).getD 0∧(lkM s.2.2.1 k).getD 0≤200*(i:Int)
 l:s.2.2.2.length≤i
 g:∀ x∈s.2.2.2,GdSl x
 k:(s.2.2.2.map (·.Key)).Sublist (keyS.take i)
 r:∀ x∈s.2.2.2,x.Time.To≤(lkM s.2.2.1 x.Room).getD 0
 c:s.2.2.2.Pairwise fun a b=>a.Room=b.Room→a.Time.To≤b.Time.From
theorem cmpStr (a b:ByteArray):m_cmp_Compare_string a b=some (Lib.compareBytes (bytesOf a) (bytesOf b)):=by
 unfold m_cmp_Compare_string m_cmp_isNaN_string
 simp only [Option.bind_some]
 rw [show (!(a.toList==a.toList))=false by simp,show (!(b.toList==b.toList))=false by simp,ifB_false,ifB_false,Go.Proofs.bytesLess_eq,ByteArray.toList_eq a,ByteArray.toList_eq b]
 change ifB (decide (bytesOf a<bytesOf b)) _ (ifB (!(decide (bytesOf a<bytesOf b)||bytesOf a==bytesOf b)) _ _)=_
 rcases cb_spec (bytesOf a) (bytesOf b) with ⟨g1,g2⟩ | ⟨g1,g2⟩ | ⟨g1,g2⟩
 ·rw [g1,decide_eq_true g2]; rfl
 ·rw [g1,decide_eq_false (show ¬ bytesOf a<bytesOf b from fun g=>by rw [g2] at g; exact bs_irr _ g),show (bytesOf a==bytesOf b)=true by rw [g2]; exact beq_self_eq_true _]; rfl
 ·rw [g1,decide_eq_false (bs_asym g2),show (bytesOf a==bytesOf b)=false from beq_eq_false_iff_ne.2 fun e=>by rw [e] at g2; exact bs_irr _ g2]; rfl
structure SlOK (l:List TSlot):Prop where
 len:l.length≤300
 sf:∀ (i:Nat) x,l[i]? = some x→sF l i x=0
 cf:∀ (i:Nat) x,l[i]? = some x→conf l i x=false
end Go.G
