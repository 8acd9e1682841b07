/- XX: the library's functions that are met by contract. -/
import Derived.Test.YtlkpfhdlfapfhacGreatDoorXM
import Derived.Test.YtlkpfhdlfapfhacGreatDoorXC
import Derived.Test.YtlkpfhdlfapfhacGreatDoorD
import Derived.Test.YtlkpfhdlfapfhacGreatDoorShelf
import Derived.Sort.OwnSorted
import Derived.Sort.OwnSortedInts
import Derived.Lib.SmallJoins
namespace Go.Proofs.YtlkpfhdlfapfhacGreatDoor
open Go Go.J Go.G Go.Sort
set_option maxRecDepth 100000
theorem ok_strings_IndexByte (a0:ByteArray) (a1:Int) {r:Int} (hm:m_strings_IndexByte a0 a1=some r) :
    Ctr Tryz.prog 146 [.string a0,.int .u8 a1].toArray ([]:List Ent) [] (X:=Unit) (fun _=>.int .i64 r) (fun _=>[]):=by
  obtain rfl:=Option.some.inj hm
  exact Ctr.of_below fun w _=>(Any.strings_IndexByte Tryz.lays137 a0 a1 w).mono fun e w' ⟨he,hw⟩=>⟨he,by subst hw; exact ⟨.refl _ _,Nat.le_refl _⟩⟩
theorem ok_strings_Trim (a0 a1:ByteArray) {r:ByteArray} (hm:m_strings_Trim a0 a1=some r) :
    Ctr Tryz.prog 147 [.string a0,.string a1].toArray ([]:List Ent) [] (X:=Unit) (fun _=>.string r) (fun _=>[]):=by
  unfold m_strings_Trim at hm
  split at hm
  · rename_i h
    obtain rfl:=Option.some.inj hm
    have h116:(Tryz.prog.info? (Tryz.lays160_ren.t 116)).map (fun i=>(i.zero,i.size))=some (some (.agg (Array.replicate 256 (.bool false))),256):=by kernel_rfl
    refine Ctr.of_below fun w _=>?_
    by_cases hs0:a0.size=0
    · refine (Any.strings_Trim_empty Tryz.lays160 a0 a1 w (.inl hs0)).mono fun e w' ⟨h1,h2⟩=>⟨?_,by subst h2; exact ⟨.refl _ _,Nat.le_refl _⟩⟩
      have hl:a0.data.toList=[]:=List.eq_nil_of_length_eq_zero (by rw [← Lib.size_eq]; exact hs0)
      rw [h1,hl]
      congr 2
      rw [← Lib.mk_data a0,hl]
      rfl
    by_cases hc0:a1.size=0
    · refine (Any.strings_Trim_empty Tryz.lays160 a0 a1 w (.inr hc0)).mono fun e w' ⟨h1,h2⟩=>⟨?_,by subst h2; exact ⟨.refl _ _,Nat.le_refl _⟩⟩
      have hl:a1.data.toList=[]:=List.eq_nil_of_length_eq_zero (by rw [← Lib.size_eq]; exact hc0)
      rw [h1,hl,show Lib.trimS a0.data.toList []=a0.data.toList from by unfold Lib.trimS; rw [Lib.trimRightS_none,Lib.trimLeftS_none],Lib.mk_data]
    by_cases hc1:a1.size=1
    · obtain ⟨c,hc⟩:∃ c,a1.data.toList=[c]:=List.length_eq_one_iff.1 (by rw [← Lib.size_eq]; exact hc1)
      have hcut:a1=⟨#[c]⟩:=by rw [← Lib.mk_data a1,hc]
      have h128:c.toNat<128:=ascii_of_all h.2.2 0 c (by rw [hc]; rfl)
      rw [hc,Lib.trimS_one,hcut]
      exact (Any.strings_Trim_one Tryz.lays160 a0 c h128 w h.1).mono fun e w' ⟨h1,h2⟩=>⟨h1,by
        rcases h2 with rfl | rfl
        · exact ⟨.refl _ _,Nat.le_refl _⟩
        · exact ⟨(Go.RowKit.Below.refl _ _).drew,Nat.le_succ _⟩⟩
    · refine (Any.strings_Trim_set Tryz.lays160 (zero_of_info h116).1 (zero_of_info h116).2 a0 a1 w (by omega) (by omega) h.1 h.2.1 (ascii_of_all h.2.2)).mono fun e w' ⟨h1,h2⟩=>⟨h1,?_⟩
      obtain ⟨q,rfl⟩:=h2
      exact ⟨(((Go.RowKit.Below.refl _ _).alloc (Nat.le_refl _) _).alloc (by simp) _).trans ⟨rfl,rfl,rfl,Nat.le_refl _,fun _ _=>rfl⟩,Nat.le_add_right _ _⟩
  · cases hm
theorem cellsS (zs:List ByteArray):R9.cells zs=(zs.map bytesOf).map encStr:=by
  show zs.flatMap (fun x=>[Value.string x])=_
  rw [List.map_map,← List.map_eq_flatMap]; rfl
theorem cellsS' (zs:List (List UInt8)):R9.cells (zs.map ofBytes)=zs.map encStr:=by
  have:(zs.map ofBytes).map bytesOf=zs:=by
    rw [List.map_map]
    exact (List.map_congr_left fun x _=>rfl).trans (List.map_id zs)
  rw [cellsS,this]
theorem ok_slices_Sort_string_string (s0_:SV) (a0:List ByteArray) {r:List ByteArray} (hm:m_slices_Sort_string_string a0=some r) :
    Ctr Tryz.prog 121 [s0_.v].toArray [.row R9 (SV.v s0_) a0] [] (X:=Unit) (fun _=>.tuple [].toArray) (fun _=>[.row R9 (SV.v s0_) r]):=by
  unfold m_slices_Sort_string_string at hm
  split at hm
  · rename_i hl
    obtain rfl:=Option.some.inj hm
    intro w A hs
    have hrow:w.ownsRow 0 9 1 s0_.v a0.length (R9.cells a0):=hs.okx _ (List.mem_cons_self ..)
    have hs2:Sat w (keys [Ent.row R9 (SV.v s0_) a0]) A [Ent.row R9 (SV.v s0_) a0] w:=hs
    rcases hrow.2 with ⟨hn,h0⟩ | ⟨g,cap,cur,hv,hb0,hg,hle,hcap,hsz,ht⟩
    · have:a0=[]:=List.eq_nil_of_length_eq_zero h0
      subst this
      rw [hn]
      refine (Any.slices_Sort_string_none Tryz.lays190 none 0 w).mono ?_
      rintro e w' ⟨rfl,rfl⟩
      refine ⟨(),rfl,?_⟩
      rw [hn] at hs2
      simpa using hs2
    · rw [cellsS,Nat.mul_one] at ht
      have hlt:g<w.heap.size:=(Array.getElem?_eq_some_iff.1 hg).1
      rw [hv]
      generalize hss:a0.map bytesOf=ss at ht
      have hsl:ss.length=a0.length:=by subst hss; simp
      have hsort:=Any.slices_Sort_string Tryz.lays190 g 0 cap ss w (holds_of_block hg (by rw [hsl]; exact ht)) hlt (by omega)
      rw [hsl] at hsort
      refine hsort.mono ?_
      rintro e w' ⟨rfl,n,os,rfl⟩
      refine ⟨(),rfl,?_⟩
      have hown:=ownsRow_sorted (w:=w) (base:=0) (g:=g) (cap:=cap) (n:=n) (e:=9) (os:=os) (cur:=cur) (ss:=ss) (ts:=ss.mergeSort fun x y=>decide (x≤y)) (by simp) (Nat.zero_le _) hg (by omega) hcap hsz
      obtain ⟨g1,g2,g3,g4,g5⟩:=grownBy_sorted (w:=w) (g:=g) (n:=n) (os:=os) (ss.mergeSort fun x y=>decide (x≤y)).toArray
      rw [hv] at hs2
      refine hs2.swap (k:=0) (e':=.row R9 (.slice (some ⟨g,0,none⟩) a0.length cap) ((ss.mergeSort fun x y=>decide (x≤y)).map ofBytes)) rfl ⟨g1,g2,g3,g4,fun b hb hne=>g5 b hb (fun e=>hne (by cases e; exact List.mem_cons_self ..)),Nat.le_add_right _ _⟩ ?_ (fun b hb=>?_) (fun F hF=>by cases hF)
      · show World.ownsRow _ 0 9 1 _ ((ss.mergeSort fun x y=>decide (x≤y)).map ofBytes).length (R9.cells _)
        rw [cellsS',List.length_map,List.length_mergeSort]
        rw [← hsl]
        exact hown
      · cases hb
        exact ⟨by simp; omega,.inr rfl⟩
  · cases hm
theorem ok_strings_Compare (a0 a1:ByteArray) {r:Int} (hm:m_strings_Compare a0 a1=some r) :
    Ctr Tryz.prog 149 [.string a0,.string a1].toArray ([]:List Ent) [] (X:=Unit) (fun _=>.int .i64 r) (fun _=>[]):=by
  obtain rfl:=Option.some.inj hm
  exact Ctr.of_below fun w _=>(Any.strings_Compare Tryz.lays106 a0 a1 w).mono fun e w' ⟨he,hw⟩=>⟨he,by subst hw; exact ⟨.refl _ _,Nat.le_refl _⟩⟩
theorem ok_bits_Len64 (a0:Int) {r:Int} (hm:m_bits_Len64 a0=some r) :
    Ctr Tryz.prog 104 [.int .u64 a0].toArray ([]:List Ent) [] (X:=Unit) (fun _=>.int .i64 r) (fun _=>[]):=by
  unfold m_bits_Len64 at hm
  split at hm
  · rename_i h
    obtain rfl:=Option.some.inj hm
    exact Ctr.of_below fun w _=>(Any.bits_Len64 Tryz.lays129 a0 w h.1 h.2).mono fun e w' ⟨he,hw⟩=>⟨he,by subst hw; exact ⟨.refl _ _,Nat.le_refl _⟩⟩
  · cases hm
def PowT (w : World) : Prop := Lib.TabIs Tryz.prog w "internal/strconv.uint64pow10" .u64 Lib.pow10Tab
theorem ok_strconv_Itoa (a0:Int) {r:ByteArray} (hm:m_strconv_Itoa a0=some r) :
    Ctr Tryz.prog 82 [.int .i64 a0].toArray ([]:List Ent) [PowT] (X:=Unit) (fun _=>.string r) (fun _=>[]):=by
  unfold m_strconv_Itoa at hm
  split at hm
  · rename_i h
    obtain rfl:=Option.some.inj hm
    refine Ctr.of_below fun w hF=>(Any.strconv_Itoa Tryz.laysM171 a0 h.1 h.2 w (hF _ (List.mem_cons_self ..))).mono fun e w' ⟨he,k,os,hw⟩=>⟨he,?_⟩
    subst hw
    exact ⟨⟨rfl,rfl,rfl,by simp [Go.Sort.grow],fun j hj=>by rw [Go.Sort.heap_grow_old _ _ (by simpa using hj)]; simp⟩,Nat.le_add_right _ _⟩
  · cases hm
theorem ok_slices_Sort_int_int (s0_:SV) (a0:List Int) {r:List Int} (hm:m_slices_Sort_int_int a0=some r) :
    Ctr Tryz.prog 64 [s0_.v].toArray [.row R3 (SV.v s0_) a0] [] (X:=Unit) (fun _=>.tuple [].toArray) (fun _=>[.row R3 (SV.v s0_) r]):=by
  unfold m_slices_Sort_int_int at hm
  split at hm
  · rename_i hl
    obtain rfl:=Option.some.inj hm
    intro w A hs
    have hcells:∀ zs:List Int,R3.cells zs=zs.map (Value.int .i64):=fun zs=>by
      show zs.flatMap (fun x=>[Value.int .i64 x])=_
      rw [List.map_eq_flatMap]
    have hrow:w.ownsRow 0 3 1 s0_.v a0.length (R3.cells a0):=hs.okx _ (List.mem_cons_self ..)
    have hs2:Sat w (keys [Ent.row R3 (SV.v s0_) a0]) A [Ent.row R3 (SV.v s0_) a0] w:=hs
    rcases hrow.2 with ⟨hn,h0⟩ | ⟨g,cap,cur,hv,hb0,hg,hle,hcap,hsz,ht⟩
    · have:a0=[]:=List.eq_nil_of_length_eq_zero h0
      subst this
      rw [hn]
      refine (Any.slices_Sort_int_none Tryz.lays189 none 0 w).mono ?_
      rintro e w' ⟨rfl,rfl⟩
      refine ⟨(),rfl,?_⟩
      rw [hn] at hs2
      simpa using hs2
    · rw [hcells,Nat.mul_one] at ht
      have hlt:g<w.heap.size:=(Array.getElem?_eq_some_iff.1 hg).1
      rw [hv]
      refine (Any.slices_Sort_int Tryz.lays189 g 0 cap a0 w (holds_of_blockI hg ht) hlt hl).mono ?_
      rintro e w' ⟨rfl,n,os,rfl⟩
      refine ⟨(),rfl,?_⟩
      have hown:=ownsRow_sortedI (w:=w) (base:=0) (g:=g) (cap:=cap) (n:=n) (e:=3) (os:=os) (cur:=cur) (ss:=a0) (ts:=a0.mergeSort fun x y=>decide (x≤y)) (by simp) (Nat.zero_le _) hg hle hcap hsz
      obtain ⟨g1,g2,g3,g4,g5⟩:=grownBy_sortedI (w:=w) (g:=g) (n:=n) (os:=os) (a0.mergeSort fun x y=>decide (x≤y)).toArray
      rw [hv] at hs2
      refine hs2.swap (k:=0) (e':=.row R3 (.slice (some ⟨g,0,none⟩) a0.length cap) (a0.mergeSort fun x y=>decide (x≤y))) rfl ⟨g1,g2,g3,g4,fun b hb hne=>g5 b hb (fun e=>hne (by cases e; exact List.mem_cons_self ..)),Nat.le_add_right _ _⟩ ?_ (fun b hb=>?_) (fun F hF=>by cases hF)
      · show World.ownsRow _ 0 3 1 _ (a0.mergeSort fun x y=>decide (x≤y)).length (R3.cells _)
        rw [hcells,List.length_mergeSort]
        exact hown
      · cases hb
        exact ⟨by simp; omega,.inr rfl⟩
  · cases hm
theorem ok_slices_Compact_int_int (s0_:SV) (a0:List Int) {r:List Int} (hm:m_slices_Compact_int_int a0=some r) :
    Ctr Tryz.prog 65 [s0_.v].toArray [.row R3 (SV.v s0_) a0] [] (X:=SV) (fun s=>s.v) (fun s=>[.row R3 (SV.v s) r]):=by
  unfold m_slices_Compact_int_int at hm
  split at hm
  · rename_i hl
    obtain rfl:=Option.some.inj hm
    intro w A hs
    have hcells:∀ zs:List Int,R3.cells zs=zs.map (Value.int .i64):=fun zs=>by
      show zs.flatMap (fun x=>[Value.int .i64 x])=_
      rw [List.map_eq_flatMap]
    have hrow:w.ownsRow 0 3 1 s0_.v a0.length (R3.cells a0):=hs.okx _ (List.mem_cons_self ..)
    have hs2:Sat w (keys [Ent.row R3 (SV.v s0_) a0]) A [Ent.row R3 (SV.v s0_) a0] w:=hs
    rcases hrow.2 with ⟨hn,h0⟩ | ⟨g,cap,cur,hv,hb0,hg,hle,hcap,hsz,ht⟩
    · have:a0=[]:=List.eq_nil_of_length_eq_zero h0
      subst this
      rw [hn]
      refine (Any.slices_Compact_int_empty Tryz.lays2n20 none 0 w).mono ?_
      rintro e w' ⟨rfl,rfl⟩
      refine ⟨nilS,rfl,?_⟩
      rw [hn] at hs2
      exact hs2
    · rw [hcells,Nat.mul_one] at ht
      have hlt:g<w.heap.size:=(Array.getElem?_eq_some_iff.1 hg).1
      rw [hv]
      refine (Any.slices_Compact_int Tryz.lays2n20 g 0 cap a0 w (holds_of_blockI hg ht) hl hle).mono ?_
      rintro e w' ⟨rfl,n,rfl⟩
      refine ⟨⟨some ⟨g,0,none⟩,(Lib.compact a0).length,cap⟩,rfl,?_⟩
      have hcl:(Lib.compact a0).length≤a0.length:=compact_le a0
      generalize htsd:Lib.compact a0++List.replicate (a0.length - (Lib.compact a0).length) 0=ts
      have htl:ts.length=a0.length:=by subst htsd; simp; omega
      have hh:=heap_sortedI (w:=w) (g:=g) (n:=n) (os:=#[]) ts.toArray hg
      obtain ⟨g1,g2,g3,g4,g5⟩:=grownBy_sortedI (w:=w) (g:=g) (n:=n) (os:=#[]) ts.toArray
      rw [grow_empty] at hh g1 g2 g3 g4 g5
      rw [hv] at hs2
      refine hs2.swap (k:=0) (e':=.row R3 (.slice (some ⟨g,0,none⟩) (Lib.compact a0).length cap) (Lib.compact a0)) rfl ⟨g1,g2,g3,g4,fun b hb hne=>g5 b hb (fun e=>hne (by cases e; exact List.mem_cons_self ..)),Nat.le_add_right _ _⟩ ?_ (fun b hb=>?_) (fun F hF=>by cases hF)
      · refine ⟨by rw [R3.cells_len],.inr ⟨g,cap,_,rfl,Nat.zero_le _,hh,by omega,hcap,by simp [putCells,hsz,show R3.sz=1 from rfl],?_⟩⟩
        have h1:=take_putCellsI cur ts (by rw [htl,hsz]; omega)
        rw [hcells]
        have h2:=congrArg (List.take (Lib.compact a0).length) h1
        rw [List.take_take,Nat.min_eq_left (by omega),← List.map_take] at h2
        rw [show (Lib.compact a0).length*R3.sz=(Lib.compact a0).length from Nat.mul_one _,h2,← htsd,List.take_left]
      · cases hb
        exact ⟨by simp; omega,.inr rfl⟩
  · cases hm
end Go.Proofs.YtlkpfhdlfapfhacGreatDoor
