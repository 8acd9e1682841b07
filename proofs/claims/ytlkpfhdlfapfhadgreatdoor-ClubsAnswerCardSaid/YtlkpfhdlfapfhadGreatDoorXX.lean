/- XX: the library's functions that are met by contract. -/
import Derived.Test.YtlkpfhdlfapfhadGreatDoorXM
import Derived.Test.YtlkpfhdlfapfhadGreatDoorXC
import Derived.Test.YtlkpfhdlfapfhadGreatDoorD
import Derived.Test.YtlkpfhdlfapfhadGreatDoorShelf
import Derived.Sort.OwnSorted
import Derived.Lib.SmallJoins
namespace Go.Proofs.YtlkpfhdlfapfhadGreatDoor
open Go Go.J Go.G Go.Sort
set_option maxRecDepth 100000
theorem ae9 (a0:ByteArray) (a1:Int) {r:Int} (hm:H1 a0 a1=some r) :
    Ctr Tryz.prog 83 [.string a0,.int .u8 a1].toArray ([]:List Ent) [] (X:=Unit) (fun _=>.int .i64 r) (fun _=>[]):=by
  obtain rfl:=Option.some.inj hm
  exact Ctr.of_below fun w _=>(Any.strings_IndexByte Tryz.lays137 a0 a1 w).mono fun e w' ⟨he,hw⟩=>⟨he,by subst hw; exact ⟨.refl _ _,Nat.le_refl _⟩⟩
theorem aC1 (a0 a1:ByteArray) {r:ByteArray} (hm:X6 a0 a1=some r) :
    Ctr Tryz.prog 98 [.string a0,.string a1].toArray ([]:List Ent) [] (X:=Unit) (fun _=>.string r) (fun _=>[]):=by
  unfold X6 at hm
  split at hm
  · rename_i h
    obtain rfl:=Option.some.inj hm
    have h116:(Tryz.prog.info? (Tryz.lays160_ren.t 116)).map (fun i=>(i.zero,i.size))=some (some (.agg (Array.replicate 256 (.bool false))),256):=by kernel_rfl
    refine Ctr.of_below fun w _=>?_
    by_cases hs0:a0.size=0
    · refine (Any.strings_Trim_empty Tryz.lays160 a0 a1 w (.inl hs0)).mono fun e w' ⟨h1,h2⟩=>⟨?_,by subst h2; exact ⟨.refl _ _,Nat.le_refl _⟩⟩
      have hl:a0.data.toList=[]:=List.eq_nil_of_length_eq_zero (by rw [← Lib.size_eq]; exact hs0)
      rw [h1,hl]
      congr 2
      rw [← Lib.mk_data a0,hl]
      rfl
    by_cases hc0:a1.size=0
    · refine (Any.strings_Trim_empty Tryz.lays160 a0 a1 w (.inr hc0)).mono fun e w' ⟨h1,h2⟩=>⟨?_,by subst h2; exact ⟨.refl _ _,Nat.le_refl _⟩⟩
      have hl:a1.data.toList=[]:=List.eq_nil_of_length_eq_zero (by rw [← Lib.size_eq]; exact hc0)
      rw [h1,hl,show Lib.trimS a0.data.toList []=a0.data.toList from by unfold Lib.trimS; rw [Lib.trimRightS_none,Lib.trimLeftS_none],Lib.mk_data]
    by_cases hc1:a1.size=1
    · obtain ⟨c,hc⟩:∃ c,a1.data.toList=[c]:=List.length_eq_one_iff.1 (by rw [← Lib.size_eq]; exact hc1)
      have hcut:a1=⟨#[c]⟩:=by rw [← Lib.mk_data a1,hc]
      have h128:c.toNat<128:=ascii_of_all h.2.2 0 c (by rw [hc]; rfl)
      rw [hc,Lib.trimS_one,hcut]
      exact (Any.strings_Trim_one Tryz.lays160 a0 c h128 w h.1).mono fun e w' ⟨h1,h2⟩=>⟨h1,by
        rcases h2 with rfl | rfl
        · exact ⟨.refl _ _,Nat.le_refl _⟩
        · exact ⟨(Go.RowKit.Below.refl _ _).drew,Nat.le_succ _⟩⟩
    · refine (Any.strings_Trim_set Tryz.lays160 (zero_of_info h116).1 (zero_of_info h116).2 a0 a1 w (by omega) (by omega) h.1 h.2.1 (ascii_of_all h.2.2)).mono fun e w' ⟨h1,h2⟩=>⟨h1,?_⟩
      obtain ⟨q,rfl⟩:=h2
      exact ⟨(((Go.RowKit.Below.refl _ _).alloc (Nat.le_refl _) _).alloc (by simp) _).trans ⟨rfl,rfl,rfl,Nat.le_refl _,fun _ _=>rfl⟩,Nat.le_add_right _ _⟩
  · cases hm
theorem bI7 (zs:List ByteArray):R9.cells zs=(zs.map D6).map encStr:=by
  show zs.flatMap (fun x=>[Value.string x])=_
  rw [List.map_map,← List.map_eq_flatMap]; rfl
theorem bP3 (zs:List (List UInt8)):R9.cells (zs.map ag7)=zs.map encStr:=by
  have:(zs.map ag7).map D6=zs:=by
    rw [List.map_map]
    exact (List.map_congr_left fun x _=>rfl).trans (List.map_id zs)
  rw [bI7,this]
theorem K9 (s0_:SV) (a0:List ByteArray) {r:List ByteArray} (hm:o8 a0=some r) :
    Ctr Tryz.prog 76 [s0_.v].toArray [.row R9 (SV.v s0_) a0] [] (X:=Unit) (fun _=>.tuple [].toArray) (fun _=>[.row R9 (SV.v s0_) r]):=by
  unfold o8 at hm
  split at hm
  · rename_i hl
    obtain rfl:=Option.some.inj hm
    intro w A hs
    have hrow:w.ownsRow 0 9 1 s0_.v a0.length (R9.cells a0):=hs.okx _ (List.mem_cons_self ..)
    have hs2:Sat w (l3 [Ent.row R9 (SV.v s0_) a0]) A [Ent.row R9 (SV.v s0_) a0] w:=hs
    rcases hrow.2 with ⟨hn,h0⟩ | ⟨g,cap,cur,hv,hb0,hg,hle,hcap,hsz,ht⟩
    · have:a0=[]:=List.eq_nil_of_length_eq_zero h0
      subst this
      rw [hn]
      refine (Any.slices_Sort_string_none Tryz.lays190 none 0 w).mono ?_
      rintro e w' ⟨rfl,rfl⟩
      refine ⟨(),rfl,?_⟩
      rw [hn] at hs2
      simpa using hs2
    · rw [bI7,Nat.mul_one] at ht
      have hlt:g<w.heap.size:=(Array.getElem?_eq_some_iff.1 hg).1
      rw [hv]
      generalize hss:a0.map D6=ss at ht
      have hsl:ss.length=a0.length:=by subst hss; simp
      have hsort:=Any.slices_Sort_string Tryz.lays190 g 0 cap ss w (holds_of_block hg (by rw [hsl]; exact ht)) hlt (by omega)
      rw [hsl] at hsort
      refine hsort.mono ?_
      rintro e w' ⟨rfl,n,os,rfl⟩
      refine ⟨(),rfl,?_⟩
      have hown:=ownsRow_sorted (w:=w) (base:=0) (g:=g) (cap:=cap) (n:=n) (e:=9) (os:=os) (cur:=cur) (ss:=ss) (ts:=ss.mergeSort fun x y=>decide (x≤y)) (by simp) (Nat.zero_le _) hg (by omega) hcap hsz
      obtain ⟨g1,g2,g3,g4,g5⟩:=grownBy_sorted (w:=w) (g:=g) (n:=n) (os:=os) (ss.mergeSort fun x y=>decide (x≤y)).toArray
      rw [hv] at hs2
      refine hs2.swap (k:=0) (e':=.row R9 (.slice (some ⟨g,0,none⟩) a0.length cap) ((ss.mergeSort fun x y=>decide (x≤y)).map ag7)) rfl ⟨g1,g2,g3,g4,fun b hb hne=>g5 b hb (fun e=>hne (by cases e; exact List.mem_cons_self ..))⟩ ?_ (fun b hb=>?_) (fun F hF=>by cases hF)
      · show World.ownsRow _ 0 9 1 _ ((ss.mergeSort fun x y=>decide (x≤y)).map ag7).length (R9.cells _)
        rw [bP3,List.length_map,List.length_mergeSort]
        rw [← hsl]
        exact hown
      · cases hb
        exact ⟨by simp; omega,.inr rfl⟩
  · cases hm
theorem ac2 (a0 a1:ByteArray) {r:Int} (hm:D9 a0 a1=some r) :
    Ctr Tryz.prog 55 [.string a0,.string a1].toArray ([]:List Ent) [] (X:=Unit) (fun _=>.int .i64 r) (fun _=>[]):=by
  obtain rfl:=Option.some.inj hm
  exact Ctr.of_below fun w _=>(Any.strings_Compare Tryz.lays106 a0 a1 w).mono fun e w' ⟨he,hw⟩=>⟨he,by subst hw; exact ⟨.refl _ _,Nat.le_refl _⟩⟩
theorem bb5 (a0:Int) {r:Int} (hm:al6 a0=some r) :
    Ctr Tryz.prog 172 [.int .u64 a0].toArray ([]:List Ent) [] (X:=Unit) (fun _=>.int .i64 r) (fun _=>[]):=by
  unfold al6 at hm
  split at hm
  · rename_i h
    obtain rfl:=Option.some.inj hm
    exact Ctr.of_below fun w _=>(Any.bits_Len64 Tryz.lays129 a0 w h.1 h.2).mono fun e w' ⟨he,hw⟩=>⟨he,by subst hw; exact ⟨.refl _ _,Nat.le_refl _⟩⟩
  · cases hm
def D0 (w : World) : Prop := Lib.TabIs Tryz.prog w "internal/strconv.uint64pow10" .u64 Lib.pow10Tab
theorem n8 (a0:Int) {r:ByteArray} (hm:l2 a0=some r) :
    Ctr Tryz.prog 37 [.int .i64 a0].toArray ([]:List Ent) [D0] (X:=Unit) (fun _=>.string r) (fun _=>[]):=by
  unfold l2 at hm
  split at hm
  · rename_i h
    obtain rfl:=Option.some.inj hm
    refine Ctr.of_below fun w hF=>(Any.strconv_Itoa Tryz.laysM171 a0 h.1 h.2 w (hF _ (List.mem_cons_self ..))).mono fun e w' ⟨he,k,os,hw⟩=>⟨he,?_⟩
    subst hw
    exact ⟨⟨rfl,rfl,rfl,by simp [Go.Sort.grow],fun j hj=>by rw [Go.Sort.heap_grow_old _ _ (by simpa using hj)]; simp⟩,Nat.le_add_right _ _⟩
  · cases hm
theorem aw2 (a0:ByteArray) (a1:Int) {r:Int} (hm:ak4 a0 a1=some r) :
    Ctr Tryz.prog 125 [.string a0,.int .u8 a1].toArray ([]:List Ent) [] (X:=Unit) (fun _=>.int .i64 r) (fun _=>[]):=by
  obtain rfl:=Option.some.inj hm
  exact Ctr.of_below fun w _=>(Any.stringslite_IndexByte Tryz.lays217 a0 a1 w).mono fun e w' ⟨he,hw⟩=>⟨he,by subst hw; exact ⟨.refl _ _,Nat.le_refl _⟩⟩
theorem aC2 (a0:ByteArray) {r:Int × Unit} (hm:al5 a0=some r) :
    Ctr Tryz.prog 92 [.string a0].toArray ([]:List Ent) [] (X:=Unit) (fun _=>.tuple [.int .i64 r.1,.nilIface].toArray) (fun _=>[]):=by
  unfold al5 at hm
  split at hm
  · rename_i h
    cases hn:Lib.atoi a0.data.toList with
    | none=>rw [hn] at hm; cases hm
    | some n =>
      rw [hn] at hm
      obtain rfl:=Option.some.inj hm
      exact Ctr.of_below0 fun w _=>(Any.strconv_Atoi Tryz.lays172 a0 n h hn w).mono fun e w' ⟨he,t,hw⟩=>⟨he,by subst hw; exact Go.Joins.below_bytesWorld _ _ _ _ (Nat.le_refl _)⟩
  · cases hm
theorem aJ5 (a0 a1:Int) {r:Int × Int} (hm:ah0 a0 a1=some r) :
    Ctr Tryz.prog 246 [.int .u64 a0,.int .u64 a1].toArray ([]:List Ent) [] (X:=Unit) (fun _=>.tuple [.int .u64 r.1,.int .u64 r.2].toArray) (fun _=>[]):=by
  unfold ah0 at hm
  split at hm
  · rename_i h
    obtain rfl:=Option.some.inj hm
    obtain ⟨x,rfl⟩:=Int.eq_ofNat_of_zero_le h.1
    obtain ⟨y,rfl⟩:=Int.eq_ofNat_of_zero_le h.2.2.1
    exact Ctr.of_below fun w _=>(Any.bits_Mul64 Tryz.lays264 x y (by omega) (by omega) w).mono fun e w' ⟨he,hw⟩=>⟨he,by subst hw; exact ⟨.refl _ _,Nat.le_refl _⟩⟩
  · cases hm
theorem bZ3:∀ args w,(callFunc 65 args).run Tryz.prog w = .ok (.enter 65 args) w:=fun _ _=>by kernel_rfl
theorem bY8 (v:Value) (w:World):(callFunc 109 [v].toArray).run Tryz.prog w = .ok (.value v) w:=by
  rw [run_callFunc_extern Tryz.func109 (by kernel_rfl) (by kernel_rfl) (by kernel_rfl) (e:=Extern.AbiNoEscape.same) (by kernel_rfl)]
  show ((Extern.AbiNoEscape.same #[v]).run Tryz.prog w).andThen _=_
  rw [Lib.run_noEscape]
  rfl
theorem bv6:TyF Tryz.prog 62 false 1 8 [.pointer none]:=TyF.mk' (z:=.pointer none) Tryz.underlying62 rfl (by kernel_rfl) rfl
theorem bv7:TyF Tryz.prog 63 false 1 24 [.slice none 0 0]:=TyF.mk' (z:=.slice none 0 0) Tryz.underlying63 rfl (by kernel_rfl) rfl
theorem ty5':TyF Tryz.prog 5 false 1 1 [.int .u8 0]:=TyF.mk' (z:=.int .u8 0) Tryz.underlying5 rfl (by kernel_rfl) rfl
theorem bi0:Q0 Tryz.prog 65 0 0:=fun _ _=>by kernel_rfl
theorem bh9:Q0 Tryz.prog 65 1 1:=fun _ _=>by kernel_rfl
theorem aK7 (b:Nat) (v:SV) :
    Ctr Tryz.prog 65 [.pointer (some ⟨b,0,none⟩)].toArray [.box b 65 [.pointer none,v.v]] [] (X:=Unit) (fun _=>.tuple #[]) (fun _=>[.box b 65 [.pointer (some ⟨b,0,none⟩),v.v]]):=by
  refine l5 (vs:=[(0,.pointer (some ⟨b,0,none⟩))]) Tryz.func65 rfl Tryz.ntmps65 rfl ⟨rfl,trivial⟩ (fun w0 A=>?_)
  obtain ⟨i,-,hi,-,-,hsz,-⟩:=bS3.info
  refine d9 ?_
  refine l0 ?_
  refine lp rfl (m0 rfl) ?_
  refine lp rfl (B0 rfl) ?_
  refine lp rfl (d8 bi0 rfl) ?_
  refine lp rfl (i8 bv6 rfl (j:=0) rfl rfl) ?_
  refine lp rfl (aq3 Tryz.underlying62 rfl rfl) ?_
  refine d3 ?_
  refine aH8 rfl ?_
  refine l0 ?_
  refine lp rfl (m0 rfl) ?_
  refine lp rfl (m0 rfl) ?_
  refine lp rfl (bL3 Tryz.underlying62 Tryz.underlying156 hi (by rw [hsz]; decide) (k:=0) rfl rfl rfl) ?_
  refine lp rfl (bs5 (bY8 _) rfl rfl) ?_
  refine lp rfl (bL4 Tryz.underlying156 Tryz.underlying62 hi (k:=0) rfl (by kernel_rfl) rfl) ?_
  refine lp rfl (B0 rfl) ?_
  refine lp rfl (d8 bi0 rfl) ?_
  refine m8 (vs:=[.pointer (some ⟨b,0,none⟩)]) (j:=0) bv6 rfl rfl rfl rfl rfl rfl rfl ?_
  refine d5 ?_
  exact al3 () [0] Tryz.results65 .nil rfl rfl
theorem aN4 (b:Nat) (v:SV) :
    Ctr Tryz.prog 65 [.pointer (some ⟨b,0,none⟩)].toArray [.box b 65 [.pointer (some ⟨b,0,none⟩),v.v]] [] (X:=Unit) (fun _=>.tuple #[]) (fun _=>[.box b 65 [.pointer (some ⟨b,0,none⟩),v.v]]):=by
  refine l5 (vs:=[(0,.pointer (some ⟨b,0,none⟩))]) Tryz.func65 rfl Tryz.ntmps65 rfl ⟨rfl,trivial⟩ (fun w0 A=>?_)
  obtain ⟨i,-,hi,-,-,hsz,-⟩:=bS3.info
  refine d9 ?_
  refine l0 ?_
  refine lp rfl (m0 rfl) ?_
  refine lp rfl (B0 rfl) ?_
  refine lp rfl (d8 bi0 rfl) ?_
  refine lp rfl (i8 bv6 rfl (j:=0) rfl rfl) ?_
  refine lp rfl (aq3 Tryz.underlying62 rfl rfl) ?_
  refine d3 ?_
  refine ah2 rfl ?_
  refine d9 ?_
  refine l0 ?_
  refine lp rfl (m0 rfl) ?_
  refine lp rfl (B0 rfl) ?_
  refine lp rfl (d8 bi0 rfl) ?_
  refine lp rfl (i8 bv6 rfl (j:=0) rfl rfl) ?_
  refine lp rfl (m0 rfl) ?_
  refine lp rfl (bU4 Tryz.underlying62 hi rfl rfl) ?_
  refine d3 ?_
  refine ah2 rfl ?_
  refine j3 ?_
  exact al3 () [0] Tryz.results65 .nil rfl rfl
theorem bh0 (b:Nat) (q:Option Addr) (v:SV) (hq:q=none∨q=some ⟨b,0,none⟩) :
    Ctr Tryz.prog 65 [.pointer (some ⟨b,0,none⟩)].toArray [.box b 65 [.pointer q,v.v]] [] (X:=Unit) (fun _=>.tuple #[]) (fun _=>[.box b 65 [.pointer (some ⟨b,0,none⟩),v.v]]):=by
  rcases hq with rfl | rfl
  · exact aK7 b v
  · exact aN4 b v
theorem aU8 (b:Nat) (s:SV) (c t:ByteArray) {y:ByteArray} (hm:af9 c t=some y) :
    Ctr Tryz.prog 29 [.pointer (some ⟨b,0,none⟩),.string t].toArray [.obj (aS2 65 5 b s c.data.toList)] [] (X:=SV) (fun _=>.tuple #[.int .i64 t.size,.nilIface]) (fun s'=>[.obj (aS2 65 5 b s' y.data.toList)]):=by
  unfold af9 at hm
  split at hm
  case isFalse=>cases hm
  rename_i hle
  obtain rfl:=Option.some.inj hm
  have hcs:c.data.toList.length=c.size:=by simp
  have hcat:(c++t).data.toList=c.data.toList++t.data.toList:=by simp
  refine l5 (vs:=[(0,.pointer (some ⟨b,0,none⟩)),(1,.string t)]) Tryz.func29 rfl Tryz.ntmps29 rfl ⟨rfl,rfl,trivial⟩ (fun w0 A=>?_)
  refine bp7 (fun q hq h1 h2=>?_)
  refine d9 ?_
  refine l0 ?_
  refine lp rfl (G9 rfl) ?_
  refine lp rfl (G9 rfl) ?_
  refine d3 ?_
  refine d9 ?_
  refine l0 ?_
  refine lp rfl (m0 rfl) ?_
  refine d7 [0] bZ3 rfl rfl (bh0 b q s hq) rfl rfl .nil (fun _=>rfl) rfl (fun _=>?_)
  refine d3 ?_
  refine d9 ?_
  refine l0 ?_
  refine lp rfl (m0 rfl) ?_
  refine lp rfl (m0 rfl) ?_
  refine lp rfl (B0 rfl) ?_
  refine lp rfl (d8 bh9 rfl) ?_
  refine lp rfl (i8 bv7 rfl (j:=0) rfl rfl) ?_
  refine lp rfl (m0 rfl) ?_
  refine bU2 (k:=1) Tryz.underlying63 Tryz.underlying9 ty5' rfl rfl rfl (by rw [hcs]; exact hle) h1 rfl (fun s' g1 g2=>?_)
  refine lp rfl (B0 rfl) ?_
  refine lp rfl (d8 bh9 rfl) ?_
  refine m8 (vs:=[s'.v]) (j:=0) bv7 rfl rfl rfl rfl rfl rfl rfl ?_
  refine d3 ?_
  refine d9 ?_
  refine l0 ?_
  refine lp rfl (m0 rfl) ?_
  refine lp rfl (Q9 Tryz.underlying9 rfl) ?_
  refine lp rfl (G9 rfl) ?_
  refine lp rfl (G9 rfl) ?_
  refine d3 ?_
  rw [← hcat] at g1 g2
  refine bC2 (q:=some ⟨b,0,none⟩) (s:=s') (bs:=(c++t).data.toList) (.inr rfl) g1 g2 ?_
  exact j1 s' [0] Tryz.results29 (.tmp rfl (.tmp rfl .nil)) rfl rfl
theorem bldX:Builder.Extra Tryz.prog Tryz.lays156_ren where
  sizeBuilder:=by kernel_rfl
  liesBuilder:=by kernel_rfl
  t5:=Tryz.underlying5
  a5:=Tryz.isAgg5
  z5:=Tryz.sizeOf5
  v5:=Tryz.zeroValue5
  infoByte:=by kernel_rfl
  cellsByte:=by kernel_rfl
  sizeByte:=by kernel_rfl
  neB5:=by decide
theorem aU4 (s0_:SV) (a0:List ByteArray) (a1:ByteArray) {r:ByteArray} (hm:af2 a0 a1=some r) :
    Ctr Tryz.prog 116 [s0_.v,.string a1].toArray ([]:List Ent) [RdS R9 (SV.v s0_) a0] (X:=Unit) (fun _=>.string r) (fun _=>[]):=by
  unfold af2 at hm
  split at hm
  case isFalse=>cases hm
  rename_i h
  obtain rfl:=Option.some.inj hm
  refine Ctr.of_below0 fun w hF=>?_
  have hr:RdS R9 (SV.v s0_) a0 w:=hF _ (List.mem_cons_self ..)
  have nn:∀ (o:Option Addr) (c:Nat),a0=[]→Calls Tryz.prog 116 #[.slice o 0 c,.string a1] w fun e w'=>e = .returned (.string ⟨(Lib.join (a0.map (·.data.toList)) a1.data.toList).toArray⟩)∧Go.RowKit.Below w.heap.size w w':=fun o c h0=>by
    subst h0
    exact (Any.strings_Join_none Tryz.lays156 bldX o c a1 w).mono fun e w' ⟨he,hw⟩=>⟨he,hw ▸ Go.RowKit.Below.refl _ _⟩
  rcases hr.2 with ⟨h0,x,cap,h1,h2⟩ | ⟨b,off,cap,h1,h2,h3,h4⟩
  · rw [h1]
    exact nn x cap h0
  · rw [h1]
    by_cases h0:a0=[]
    · have hl:a0.length=0:=by rw [h0]; rfl
      rw [hl]
      exact nn _ cap h0
    · have hc:∀ (j:Nat) x,a0[j]? = some x→w.cell? ⟨b,off+j,none⟩=some (.string x):=fun j x hx=>by
        refine h4 j _ ?_
        have h:=R9.cells_get a0 j 0 x hx (by decide)
        have e:j*R9.sz+0=j:=by show j*1+0=j; omega
        rw [e] at h; exact h
      have hb:b<w.heap.size:=by
        obtain ⟨y,ys,hy⟩:∃ y ys,a0=y::ys:=by
          cases a0 with
          | nil=>exact absurd rfl h0
          | cons y ys=>exact ⟨y,ys,rfl⟩
        exact World.block_lt_of_cell? _ _ (hc 0 y (by rw [hy]; rfl))
      exact Any.strings_Join Tryz.lays156 bldX b off cap a0 a1 w hc hb h.1 h2 h.2
def Y8 (w:World):Prop:=∃ m:Int,w.cell? ⟨0,0,none⟩=some (.int .i64 m)
theorem bI6 (zs:List ByteArray):R9.cells zs=zs.map Value.string:=by
  show zs.flatMap (fun x=>[Value.string x])=_
  rw [List.map_eq_flatMap]
theorem ag6 (a0 a1:ByteArray) {r:List ByteArray} (hm:E6 a0 a1=some r) :
    Ctr Tryz.prog 47 [.string a0,.string a1].toArray ([]:List Ent) [Y8] (X:=SV) (fun s=>s.v) (fun s=>[.row R9 (SV.v s) r]):=by
  unfold E6 at hm
  split at hm
  case isFalse=>cases hm
  rename_i h
  obtain rfl:=Option.some.inj hm
  intro w A hs
  have hF:Y8 w:=hs.okr (.ro Y8) (by simp) w (Same.refl _ _ _ _)
  obtain ⟨m,hx⟩:=hF
  have hlen:=Lib.splitB_all a1 h.2 0 _ a0 rfl
  have hle:=Lib.countB_le a1 h.2 a0.size a0 (Nat.le_refl _)
  refine (Any.strings_Split Tryz.lays146 (by kernel_rfl) a0 a1 m w h.1 hx h.2).mono ?_
  rintro e w' ⟨rfl,rfl⟩
  refine ⟨⟨some ⟨w.heap.size,0,none⟩,Lib.countB a0 a1+1,Lib.countB a0 a1+1⟩,rfl,?_⟩
  have hs0:Sat w (l3 ([]:List Ent)) A [] w:=hs.sublist (by simp)
  have h2:=hs0.newRow R9 (Lib.splitB a1 0 (Lib.countB a0 a1) a0) (bI6 _) (by rw [hlen]; unfold maxLen; omega)
  rw [hlen] at h2
  exact h2
theorem bt2 (b:Nat) (s:SV) (c:ByteArray) :
    Ctr Tryz.prog 31 [.pointer (some ⟨b,0,none⟩)].toArray [.obj (aS2 65 5 b s c.data.toList)] [] (X:=Unit) (fun _=>.string c) (fun _=>[]):=by
  have hcs:c=⟨c.data.toList.toArray⟩:=rfl
  refine l5 (vs:=[(0,.pointer (some ⟨b,0,none⟩))]) Tryz.func31 rfl Tryz.ntmps31 rfl ⟨rfl,trivial⟩ (fun w0 A=>?_)
  refine bp7 (fun q hq h1 h2=>?_)
  refine d9 ?_
  refine l0 ?_
  refine lp rfl (G9 rfl) ?_
  refine d3 ?_
  refine d9 ?_
  refine am2 10 (by kernel_rfl) (by kernel_rfl) ?_
  refine s_p rfl (m0 rfl) ?_
  refine s_p rfl (B0 rfl) ?_
  refine s_p rfl (d8 bh9 rfl) ?_
  refine s_p rfl (i8 bv7 rfl (j:=0) rfl rfl) ?_
  refine s_p rfl (bY1 rfl (.row 1 rfl) h1) ?_
  refine s_p rfl (m0 rfl) ?_
  refine s_p rfl (B0 rfl) ?_
  refine s_p rfl (d8 bh9 rfl) ?_
  refine s_p rfl (i8 bv7 rfl (j:=0) rfl rfl) ?_
  refine s_p rfl (w9 Tryz.underlying63 rfl (.row 1 rfl)) ?_
  refine aM5 ?_
  refine bU1 (k:=1) Tryz.underlying127 (by kernel_rfl) rfl rfl rfl h1 rfl ?_
  refine lp rfl (G9 rfl) ?_
  refine d3 ?_
  exact j1 () [] Tryz.results31 (.tmp rfl .nil) rfl rfl
end Go.Proofs.YtlkpfhdlfapfhadGreatDoor
