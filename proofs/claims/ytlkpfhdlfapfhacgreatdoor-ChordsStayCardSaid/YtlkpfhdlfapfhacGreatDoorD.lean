/- Facts on the types and functions. Written by program. -/
import Derived.Test.YtlkpfhdlfapfhacGreatDoorProg
import Derived.KernelRfl
import Derived.Test.YtlkpfhdlfapfhacGreatDoorM
namespace Go.Proofs.YtlkpfhdlfapfhacGreatDoor
open Go Go.J Go.G
set_option linter.unusedSimpArgs false
theorem ty3:TyF Tryz.prog 3 false 1 8 [.int .i64 0]:=TyF.mk' (z:=.int .i64 0) Tryz.underlying3 rfl (by kernel_rfl) rfl
def R3:Rep Int:=⟨3,1,8,fun x=>[.int .i64 x],fun _=>rfl,fun x u hu=>by simp only [List.mem_cons,List.mem_nil_iff,or_false] at hu; rcases hu with rfl <;> rfl,by decide⟩
theorem ty4:TyF Tryz.prog 4 false 1 1 [.bool false]:=TyF.mk' (z:=.bool false) Tryz.underlying4 rfl (by kernel_rfl) rfl
def R4:Rep Bool:=⟨4,1,1,fun x=>[.bool x],fun _=>rfl,fun x u hu=>by simp only [List.mem_cons,List.mem_nil_iff,or_false] at hu; rcases hu with rfl <;> rfl,by decide⟩
theorem ty9:TyF Tryz.prog 9 false 1 16 [.string ByteArray.empty]:=TyF.mk' (z:=.string ByteArray.empty) Tryz.underlying9 rfl (by kernel_rfl) rfl
def R9:Rep ByteArray:=⟨9,1,16,fun x=>[.string x],fun _=>rfl,fun x u hu=>by simp only [List.mem_cons,List.mem_nil_iff,or_false] at hu; rcases hu with rfl <;> rfl,by decide⟩
theorem ty22:TyF Tryz.prog 22 false 1 24 [.slice none 0 0]:=TyF.mk' (z:=.slice none 0 0) Tryz.underlying22 rfl (by kernel_rfl) rfl
theorem ty25:TyF Tryz.prog 25 true 2 32 [.slice none 0 0,.int .i64 0]:=TyF.mk' (z:=.agg #[.slice none 0 0,.int .i64 0]) Tryz.underlying25 rfl (by kernel_rfl) rfl
theorem ty31:TyF Tryz.prog 31 false 1 24 [.slice none 0 0]:=TyF.mk' (z:=.slice none 0 0) Tryz.underlying31 rfl (by kernel_rfl) rfl
theorem ty33:TyF Tryz.prog 33 false 1 24 [.slice none 0 0]:=TyF.mk' (z:=.slice none 0 0) Tryz.underlying33 rfl (by kernel_rfl) rfl
theorem ty35:TyF Tryz.prog 35 false 1 8 [.int .i64 0]:=TyF.mk' (z:=.int .i64 0) Tryz.underlying35 rfl (by kernel_rfl) rfl
def R35:Rep Int:=⟨35,1,8,fun x=>[.int .i64 x],fun _=>rfl,fun x u hu=>by simp only [List.mem_cons,List.mem_nil_iff,or_false] at hu; rcases hu with rfl <;> rfl,by decide⟩
theorem ty40:TyF Tryz.prog 40 true 3 24 [.int .i64 0,.int .i64 0,.int .i64 0]:=TyF.mk' (z:=.agg #[.int .i64 0,.int .i64 0,.int .i64 0]) Tryz.underlying40 rfl (by kernel_rfl) rfl
def R40:Rep TChord:=⟨40,3,24,fun x=>[.int .i64 x.Root,.int .i64 x.Kind,.int .i64 x.Turn],fun _=>rfl,fun x u hu=>by simp only [List.mem_cons,List.mem_nil_iff,or_false] at hu; rcases hu with rfl | rfl | rfl <;> rfl,by decide⟩
theorem ty53:TyF Tryz.prog 53 true 3 24 [.int .i64 0,.int .i64 0,.int .i64 0]:=TyF.mk' (z:=.agg #[.int .i64 0,.int .i64 0,.int .i64 0]) Tryz.underlying53 rfl (by kernel_rfl) rfl
def R53:Rep TFollow:=⟨53,3,24,fun x=>[.int .i64 x.From,.int .i64 x.To,.int .i64 x.Up],fun _=>rfl,fun x u hu=>by simp only [List.mem_cons,List.mem_nil_iff,or_false] at hu; rcases hu with rfl | rfl | rfl <;> rfl,by decide⟩
theorem ty56:TyF Tryz.prog 56 true 2 16 [.int .i64 0,.int .i64 0]:=TyF.mk' (z:=.agg #[.int .i64 0,.int .i64 0]) Tryz.underlying56 rfl (by kernel_rfl) rfl
def R56:Rep TRange:=⟨56,2,16,fun x=>[.int .i64 x.Low,.int .i64 x.High],fun _=>rfl,fun x u hu=>by simp only [List.mem_cons,List.mem_nil_iff,or_false] at hu; rcases hu with rfl | rfl <;> rfl,by decide⟩
theorem ty86:TyF Tryz.prog 86 true 6 96 [.int .i64 0,.int .i64 0,.int .i64 0,.slice none 0 0,.slice none 0 0,.slice none 0 0]:=TyF.mk' (z:=.agg #[.int .i64 0,.int .i64 0,.int .i64 0,.slice none 0 0,.slice none 0 0,.slice none 0 0]) Tryz.underlying86 rfl (by kernel_rfl) rfl
theorem ty89:TyF Tryz.prog 89 false 1 24 [.slice none 0 0]:=TyF.mk' (z:=.slice none 0 0) Tryz.underlying89 rfl (by kernel_rfl) rfl
theorem ty98:TyF Tryz.prog 98 true 5 40 [.int .i64 0,.int .i64 0,.int .i64 0,.int .i64 0,.bool false]:=TyF.mk' (z:=.agg #[.int .i64 0,.int .i64 0,.int .i64 0,.int .i64 0,.bool false]) Tryz.underlying98 rfl (by kernel_rfl) rfl
def R98:Rep TBar:=⟨98,5,40,fun x=>[.int .i64 x.Beats,.int .i64 x.Unit,.int .i64 x.Close,.int .i64 x.Ending,.bool x.Open],fun _=>rfl,fun x u hu=>by simp only [List.mem_cons,List.mem_nil_iff,or_false] at hu; rcases hu with rfl | rfl | rfl | rfl | rfl <;> rfl,by decide⟩
theorem ty102:TyF Tryz.prog 102 false 1 24 [.slice none 0 0]:=TyF.mk' (z:=.slice none 0 0) Tryz.underlying102 rfl (by kernel_rfl) rfl
theorem ty106:TyF Tryz.prog 106 true 3 32 [.int .i64 0,.string ByteArray.empty,.bool false]:=TyF.mk' (z:=.agg #[.int .i64 0,.string ByteArray.empty,.bool false]) Tryz.underlying106 rfl (by kernel_rfl) rfl
def R106:Rep TCame:=⟨106,3,32,fun x=>[.int .i64 x.At,.string x.Singer,.bool x.Left],fun _=>rfl,fun x u hu=>by simp only [List.mem_cons,List.mem_nil_iff,or_false] at hu; rcases hu with rfl | rfl | rfl <;> rfl,by decide⟩
theorem ty111:TyF Tryz.prog 111 true 4 64 [.string ByteArray.empty,.string ByteArray.empty,.int .i64 0,.slice none 0 0]:=TyF.mk' (z:=.agg #[.string ByteArray.empty,.string ByteArray.empty,.int .i64 0,.slice none 0 0]) Tryz.underlying111 rfl (by kernel_rfl) rfl
theorem ty112:TyF Tryz.prog 112 false 1 24 [.slice none 0 0]:=TyF.mk' (z:=.slice none 0 0) Tryz.underlying112 rfl (by kernel_rfl) rfl
theorem ty114:TyF Tryz.prog 114 true 5 56 [.slice none 0 0,.int .i64 0,.int .i64 0,.int .i64 0,.int .i64 0]:=TyF.mk' (z:=.agg #[.slice none 0 0,.int .i64 0,.int .i64 0,.int .i64 0,.int .i64 0]) Tryz.underlying114 rfl (by kernel_rfl) rfl
theorem ty117:TyF Tryz.prog 117 true 10 112 [.string ByteArray.empty,.int .i64 0,.int .i64 0,.int .i64 0,.string ByteArray.empty,.string ByteArray.empty,.int .i64 0,.bool false,.string ByteArray.empty,.int .i64 0]:=TyF.mk' (z:=.agg #[.string ByteArray.empty,.int .i64 0,.int .i64 0,.int .i64 0,.string ByteArray.empty,.string ByteArray.empty,.int .i64 0,.bool false,.string ByteArray.empty,.int .i64 0]) Tryz.underlying117 rfl (by kernel_rfl) rfl
def R117:Rep TAct:=⟨117,10,112,fun x=>[.string x.Site,.int .i64 x.No,.int .i64 x.At,.int .i64 x.Kind,.string x.Who,.string x.Motion,.int .i64 x.Cents,.bool x.Yes,.string x.Of,.int .i64 x.Other],fun _=>rfl,fun x u hu=>by simp only [List.mem_cons,List.mem_nil_iff,or_false] at hu; rcases hu with rfl | rfl | rfl | rfl | rfl | rfl | rfl | rfl | rfl | rfl <;> rfl,by decide⟩
theorem ty118:TyF Tryz.prog 118 false 1 24 [.slice none 0 0]:=TyF.mk' (z:=.slice none 0 0) Tryz.underlying118 rfl (by kernel_rfl) rfl
theorem ty131:TyF Tryz.prog 131 true 4 32 [.int .i64 0,.int .i64 0,.int .i64 0,.int .i64 0]:=TyF.mk' (z:=.agg #[.int .i64 0,.int .i64 0,.int .i64 0,.int .i64 0]) Tryz.underlying131 rfl (by kernel_rfl) rfl
def R131:Rep TFault:=⟨131,4,32,fun x=>[.int .i64 x.At,.int .i64 x.Kind,.int .i64 x.Low,.int .i64 x.High],fun _=>rfl,fun x u hu=>by simp only [List.mem_cons,List.mem_nil_iff,or_false] at hu; rcases hu with rfl | rfl | rfl | rfl <;> rfl,by decide⟩
theorem ty138:TyF Tryz.prog 138 false 1 8 [.map none]:=TyF.mk' (z:=.map none) Tryz.underlying138 rfl (by kernel_rfl) rfl
theorem ty144:TyF Tryz.prog 144 true 2 16 [.int .i64 0,.int .i64 0]:=TyF.mk' (z:=.agg #[.int .i64 0,.int .i64 0]) Tryz.underlying144 rfl (by kernel_rfl) rfl
def R144:Rep TWindow:=⟨144,2,16,fun x=>[.int .i64 x.From,.int .i64 x.To],fun _=>rfl,fun x u hu=>by simp only [List.mem_cons,List.mem_nil_iff,or_false] at hu; rcases hu with rfl | rfl <;> rfl,by decide⟩
theorem ty180:TyF Tryz.prog 180 false 1 8 [.map none]:=TyF.mk' (z:=.map none) Tryz.underlying180 rfl (by kernel_rfl) rfl
theorem ty189:TyF Tryz.prog 189 false 1 8 [.map none]:=TyF.mk' (z:=.map none) Tryz.underlying189 rfl (by kernel_rfl) rfl
theorem ty191:TyF Tryz.prog 191 false 1 8 [.map none]:=TyF.mk' (z:=.map none) Tryz.underlying191 rfl (by kernel_rfl) rfl
theorem ty193:TyF Tryz.prog 193 true 5 56 [.int .i64 0,.map none,.map none,.map none,.slice none 0 0]:=TyF.mk' (z:=.agg #[.int .i64 0,.map none,.map none,.map none,.slice none 0 0]) Tryz.underlying193 rfl (by kernel_rfl) rfl
theorem ty209:TyF Tryz.prog 209 true 3 24 [.int .i64 0,.int .i64 0,.int .i64 0]:=TyF.mk' (z:=.agg #[.int .i64 0,.int .i64 0,.int .i64 0]) Tryz.underlying209 rfl (by kernel_rfl) rfl
def R209:Rep Tpiece_repeat:=⟨209,3,24,fun x=>[.int .i64 x.from_,.int .i64 x.to_,.int .i64 x.times],fun _=>rfl,fun x u hu=>by simp only [List.mem_cons,List.mem_nil_iff,or_false] at hu; rcases hu with rfl | rfl | rfl <;> rfl,by decide⟩
theorem ty226:TyF Tryz.prog 226 true 3 24 [.int .i64 0,.int .i64 0,.int .i64 0]:=TyF.mk' (z:=.agg #[.int .i64 0,.int .i64 0,.int .i64 0]) Tryz.underlying226 rfl (by kernel_rfl) rfl
def R226:Rep Tclub_stay:=⟨226,3,24,fun x=>[.int .i64 x.since,.int .i64 x.till,.int .i64 x.cents],fun _=>rfl,fun x u hu=>by simp only [List.mem_cons,List.mem_nil_iff,or_false] at hu; rcases hu with rfl | rfl | rfl <;> rfl,by decide⟩
theorem ty253:TyF Tryz.prog 253 false 1 8 [.map none]:=TyF.mk' (z:=.map none) Tryz.underlying253 rfl (by kernel_rfl) rfl
theorem ty255:TyF Tryz.prog 255 true 2 24 [.string ByteArray.empty,.int .i64 0]:=TyF.mk' (z:=.agg #[.string ByteArray.empty,.int .i64 0]) Tryz.underlying255 rfl (by kernel_rfl) rfl
def R255:Rep Tclub_own:=⟨255,2,24,fun x=>[.string x.site,.int .i64 x.no],fun _=>rfl,fun x u hu=>by simp only [List.mem_cons,List.mem_nil_iff,or_false] at hu; rcases hu with rfl | rfl <;> rfl,by decide⟩
theorem ty261:TyF Tryz.prog 261 true 3 40 [.bool false,.map none,.slice none 0 0]:=TyF.mk' (z:=.agg #[.bool false,.map none,.slice none 0 0]) Tryz.underlying261 rfl (by kernel_rfl) rfl
theorem ty272:TyF Tryz.prog 272 true 5 5 [.bool false,.bool false,.bool false,.bool false,.bool false]:=TyF.mk' (z:=.agg #[.bool false,.bool false,.bool false,.bool false,.bool false]) Tryz.underlying272 rfl (by kernel_rfl) rfl
def R272:Rep Tclub_uses:=⟨272,5,5,fun x=>[.bool x.who,.bool x.motion,.bool x.cents,.bool x.yes,.bool x.undo],fun _=>rfl,fun x u hu=>by simp only [List.mem_cons,List.mem_nil_iff,or_false] at hu; rcases hu with rfl | rfl | rfl | rfl | rfl <;> rfl,by decide⟩
def N22:Nst (List Int) SV:=⟨⟨22,1,24,fun p=>[p.2.v],fun _=>rfl,fun p u hu=>by simp only [List.mem_cons,List.mem_nil_iff,or_false] at hu; rcases hu with rfl <;> rfl,by decide⟩,fun p w=>RdS R3 (SV.v p.2) p.1 w∧TyS 3 (SV.v p.2) w⟩
def N33:Nst (List (List Int)) (SV × List ((List Int) × SV)):=⟨⟨33,1,24,fun p=>[p.2.1.v],fun _=>rfl,fun p u hu=>by simp only [List.mem_cons,List.mem_nil_iff,or_false] at hu; rcases hu with rfl <;> rfl,by decide⟩,fun p w=>RdS N22.R (SV.v p.2.1) p.2.2 w∧Lk N22 p.1 p.2.2 w⟩
def N89:Nst (List Int) SV:=⟨⟨89,1,24,fun p=>[p.2.v],fun _=>rfl,fun p u hu=>by simp only [List.mem_cons,List.mem_nil_iff,or_false] at hu; rcases hu with rfl <;> rfl,by decide⟩,fun p w=>RdS R3 (SV.v p.2) p.1 w⟩
def N111:Nst TItem SV:=⟨⟨111,4,64,fun p=>[.string p.1.Key,.string p.1.Places,.int .i64 p.1.Long,p.2.v],fun _=>rfl,fun p u hu=>by simp only [List.mem_cons,List.mem_nil_iff,or_false] at hu; rcases hu with rfl | rfl | rfl | rfl <;> rfl,by decide⟩,fun p w=>RdS R9 (SV.v p.2) p.1.Parts w⟩
theorem eqst40_ (d:Nat) (x y:TChord):EqV Tryz.prog (d+2) 40 (.agg (R40.enc x).toArray) (.agg (R40.enc y).toArray) (decide (x=y)):=by
  have h:((x.Root==y.Root)&&((x.Kind==y.Kind)&&((x.Turn==y.Turn)&&true)))=decide (x=y):=by rw [Bool.eq_iff_iff]; cases x; cases y; simp [ba_beq]
  rw [← h]
  exact eqv_struct Tryz.underlying40 (by kernel_rfl) (eqf_cons (.int .i64 x.Root) (.int .i64 y.Root) (by decide) (fun _=>by kernel_rfl) (fun _=>by kernel_rfl) (eqv_int Tryz.underlying3 _ _) (eqf_cons (.int .i64 x.Kind) (.int .i64 y.Kind) (by decide) (fun _=>by kernel_rfl) (fun _=>by kernel_rfl) (eqv_int Tryz.underlying3 _ _) (eqf_cons (.int .i64 x.Turn) (.int .i64 y.Turn) (by decide) (fun _=>by kernel_rfl) (fun _=>by kernel_rfl) (eqv_int Tryz.underlying3 _ _) eqf_nil)))
theorem eqst40 (x y:TChord):EqV Tryz.prog 10000 40 (.agg (R40.enc x).toArray) (.agg (R40.enc y).toArray) (decide (x=y)):=eqst40_ 9998 x y
theorem eqst53_ (d:Nat) (x y:TFollow):EqV Tryz.prog (d+2) 53 (.agg (R53.enc x).toArray) (.agg (R53.enc y).toArray) (decide (x=y)):=by
  have h:((x.From==y.From)&&((x.To==y.To)&&((x.Up==y.Up)&&true)))=decide (x=y):=by rw [Bool.eq_iff_iff]; cases x; cases y; simp [ba_beq]
  rw [← h]
  exact eqv_struct Tryz.underlying53 (by kernel_rfl) (eqf_cons (.int .i64 x.From) (.int .i64 y.From) (by decide) (fun _=>by kernel_rfl) (fun _=>by kernel_rfl) (eqv_int Tryz.underlying3 _ _) (eqf_cons (.int .i64 x.To) (.int .i64 y.To) (by decide) (fun _=>by kernel_rfl) (fun _=>by kernel_rfl) (eqv_int Tryz.underlying3 _ _) (eqf_cons (.int .i64 x.Up) (.int .i64 y.Up) (by decide) (fun _=>by kernel_rfl) (fun _=>by kernel_rfl) (eqv_int Tryz.underlying3 _ _) eqf_nil)))
theorem eqst53 (x y:TFollow):EqV Tryz.prog 10000 53 (.agg (R53.enc x).toArray) (.agg (R53.enc y).toArray) (decide (x=y)):=eqst53_ 9998 x y
theorem eqst56_ (d:Nat) (x y:TRange):EqV Tryz.prog (d+2) 56 (.agg (R56.enc x).toArray) (.agg (R56.enc y).toArray) (decide (x=y)):=by
  have h:((x.Low==y.Low)&&((x.High==y.High)&&true))=decide (x=y):=by rw [Bool.eq_iff_iff]; cases x; cases y; simp [ba_beq]
  rw [← h]
  exact eqv_struct Tryz.underlying56 (by kernel_rfl) (eqf_cons (.int .i64 x.Low) (.int .i64 y.Low) (by decide) (fun _=>by kernel_rfl) (fun _=>by kernel_rfl) (eqv_int Tryz.underlying3 _ _) (eqf_cons (.int .i64 x.High) (.int .i64 y.High) (by decide) (fun _=>by kernel_rfl) (fun _=>by kernel_rfl) (eqv_int Tryz.underlying3 _ _) eqf_nil))
theorem eqst56 (x y:TRange):EqV Tryz.prog 10000 56 (.agg (R56.enc x).toArray) (.agg (R56.enc y).toArray) (decide (x=y)):=eqst56_ 9998 x y
theorem eqst255_ (d:Nat) (x y:Tclub_own):EqV Tryz.prog (d+2) 255 (.agg (R255.enc x).toArray) (.agg (R255.enc y).toArray) (decide (x=y)):=by
  have h:((x.site==y.site)&&((x.no==y.no)&&true))=decide (x=y):=by rw [Bool.eq_iff_iff]; cases x; cases y; simp [ba_beq]
  rw [← h]
  exact eqv_struct Tryz.underlying255 (by kernel_rfl) (eqf_cons (.string x.site) (.string y.site) (by decide) (fun _=>by kernel_rfl) (fun _=>by kernel_rfl) (eqv_str Tryz.underlying9 _ _) (eqf_cons (.int .i64 x.no) (.int .i64 y.no) (by decide) (fun _=>by kernel_rfl) (fun _=>by kernel_rfl) (eqv_int Tryz.underlying3 _ _) eqf_nil))
theorem eqst255 (x y:Tclub_own):EqV Tryz.prog 10000 255 (.agg (R255.enc x).toArray) (.agg (R255.enc y).toArray) (decide (x=y)):=eqst255_ 9998 x y
@[reducible] def vv3:Int→Value:=fun x=>.int .i64 x
@[reducible] def vv4:Bool→Value:=fun x=>.bool x
@[reducible] def kv9:ByteArray→Value:=fun x=>.string x
theorem keyF9:KeyF Tryz.prog 9 kv9:=keyF_str Tryz.underlying9
@[reducible] def kv40:TChord→Value:=fun x=>.agg (R40.enc x).toArray
theorem keyF40:KeyF Tryz.prog 40 kv40:=keyF_agg Tryz.underlying40 (fun _ _ _=>by kernel_rfl) eqst40 (fun k v hv=>by simp only [R40,List.mem_cons,List.not_mem_nil,or_false] at hv; rcases hv with rfl | rfl | rfl <;> simp [Instr.sameBits,ba_dec])
@[reducible] def kv255:Tclub_own→Value:=fun x=>.agg (R255.enc x).toArray
theorem keyF255:KeyF Tryz.prog 255 kv255:=keyF_agg Tryz.underlying255 (fun _ _ _=>by kernel_rfl) eqst255 (fun k v hv=>by simp only [R255,List.mem_cons,List.not_mem_nil,or_false] at hv; rcases hv with rfl | rfl <;> simp [Instr.sameBits,ba_dec])
@[reducible] def Fh259:(Nat × Nat × Array MapEntry × Nat × SV)→Nat:=fun q=>q.1
def Fe259:(Bool × (List (ByteArray × Bool)) × (List ByteArray))→(Nat × Nat × Array MapEntry × Nat × SV)→List Ent:=fun t q=>[.box q.1 261 [.bool t.1,.map (some q.2.1),q.2.2.2.2.v],.obj (mapO kv9 q.2.1 (mpV vv4 t.2.1) q.2.2.1 q.2.2.2.1),.row R9 (SV.v q.2.2.2.2) t.2.2]
theorem fro259:∀ t q F,Ent.ro F∉Fe259 t q:=by intro t q F h; simp [Fe259] at h
theorem fl25_0:FldF Tryz.prog 25 0 0:=fun _ _=>by kernel_rfl
theorem fl25_1:FldF Tryz.prog 25 1 1:=fun _ _=>by kernel_rfl
theorem fl40_0:FldF Tryz.prog 40 0 0:=fun _ _=>by kernel_rfl
theorem fl40_1:FldF Tryz.prog 40 1 1:=fun _ _=>by kernel_rfl
theorem fl40_2:FldF Tryz.prog 40 2 2:=fun _ _=>by kernel_rfl
theorem fl53_0:FldF Tryz.prog 53 0 0:=fun _ _=>by kernel_rfl
theorem fl53_1:FldF Tryz.prog 53 1 1:=fun _ _=>by kernel_rfl
theorem fl53_2:FldF Tryz.prog 53 2 2:=fun _ _=>by kernel_rfl
theorem fl56_0:FldF Tryz.prog 56 0 0:=fun _ _=>by kernel_rfl
theorem fl56_1:FldF Tryz.prog 56 1 1:=fun _ _=>by kernel_rfl
theorem fl86_0:FldF Tryz.prog 86 0 0:=fun _ _=>by kernel_rfl
theorem fl86_1:FldF Tryz.prog 86 1 3:=fun _ _=>by kernel_rfl
theorem fl86_2:FldF Tryz.prog 86 2 4:=fun _ _=>by kernel_rfl
theorem fl86_3:FldF Tryz.prog 86 3 5:=fun _ _=>by kernel_rfl
theorem fl98_0:FldF Tryz.prog 98 0 0:=fun _ _=>by kernel_rfl
theorem fl98_1:FldF Tryz.prog 98 1 1:=fun _ _=>by kernel_rfl
theorem fl98_2:FldF Tryz.prog 98 2 2:=fun _ _=>by kernel_rfl
theorem fl98_3:FldF Tryz.prog 98 3 3:=fun _ _=>by kernel_rfl
theorem fl98_4:FldF Tryz.prog 98 4 4:=fun _ _=>by kernel_rfl
theorem fl106_0:FldF Tryz.prog 106 0 0:=fun _ _=>by kernel_rfl
theorem fl106_1:FldF Tryz.prog 106 1 1:=fun _ _=>by kernel_rfl
theorem fl106_2:FldF Tryz.prog 106 2 2:=fun _ _=>by kernel_rfl
theorem fl111_0:FldF Tryz.prog 111 0 0:=fun _ _=>by kernel_rfl
theorem fl111_1:FldF Tryz.prog 111 1 1:=fun _ _=>by kernel_rfl
theorem fl111_2:FldF Tryz.prog 111 2 2:=fun _ _=>by kernel_rfl
theorem fl111_3:FldF Tryz.prog 111 3 3:=fun _ _=>by kernel_rfl
theorem fl114_0:FldF Tryz.prog 114 0 0:=fun _ _=>by kernel_rfl
theorem fl114_1:FldF Tryz.prog 114 1 1:=fun _ _=>by kernel_rfl
theorem fl114_2:FldF Tryz.prog 114 2 2:=fun _ _=>by kernel_rfl
theorem fl114_3:FldF Tryz.prog 114 3 3:=fun _ _=>by kernel_rfl
theorem fl114_4:FldF Tryz.prog 114 4 4:=fun _ _=>by kernel_rfl
theorem fl117_0:FldF Tryz.prog 117 0 0:=fun _ _=>by kernel_rfl
theorem fl117_1:FldF Tryz.prog 117 1 1:=fun _ _=>by kernel_rfl
theorem fl117_2:FldF Tryz.prog 117 2 2:=fun _ _=>by kernel_rfl
theorem fl117_3:FldF Tryz.prog 117 3 3:=fun _ _=>by kernel_rfl
theorem fl117_4:FldF Tryz.prog 117 4 4:=fun _ _=>by kernel_rfl
theorem fl117_5:FldF Tryz.prog 117 5 5:=fun _ _=>by kernel_rfl
theorem fl117_6:FldF Tryz.prog 117 6 6:=fun _ _=>by kernel_rfl
theorem fl117_7:FldF Tryz.prog 117 7 7:=fun _ _=>by kernel_rfl
theorem fl117_8:FldF Tryz.prog 117 8 8:=fun _ _=>by kernel_rfl
theorem fl117_9:FldF Tryz.prog 117 9 9:=fun _ _=>by kernel_rfl
theorem fl144_0:FldF Tryz.prog 144 0 0:=fun _ _=>by kernel_rfl
theorem fl144_1:FldF Tryz.prog 144 1 1:=fun _ _=>by kernel_rfl
theorem fl193_1:FldF Tryz.prog 193 1 1:=fun _ _=>by kernel_rfl
theorem fl193_2:FldF Tryz.prog 193 2 2:=fun _ _=>by kernel_rfl
theorem fl193_3:FldF Tryz.prog 193 3 3:=fun _ _=>by kernel_rfl
theorem fl193_4:FldF Tryz.prog 193 4 4:=fun _ _=>by kernel_rfl
theorem fl209_0:FldF Tryz.prog 209 0 0:=fun _ _=>by kernel_rfl
theorem fl209_1:FldF Tryz.prog 209 1 1:=fun _ _=>by kernel_rfl
theorem fl209_2:FldF Tryz.prog 209 2 2:=fun _ _=>by kernel_rfl
theorem fl226_1:FldF Tryz.prog 226 1 1:=fun _ _=>by kernel_rfl
theorem fl261_0:FldF Tryz.prog 261 0 0:=fun _ _=>by kernel_rfl
theorem fl261_1:FldF Tryz.prog 261 1 1:=fun _ _=>by kernel_rfl
theorem fl261_2:FldF Tryz.prog 261 2 2:=fun _ _=>by kernel_rfl
theorem fl272_0:FldF Tryz.prog 272 0 0:=fun _ _=>by kernel_rfl
theorem fl272_1:FldF Tryz.prog 272 1 1:=fun _ _=>by kernel_rfl
theorem fl272_2:FldF Tryz.prog 272 2 2:=fun _ _=>by kernel_rfl
theorem fl272_3:FldF Tryz.prog 272 3 3:=fun _ _=>by kernel_rfl
theorem fl272_4:FldF Tryz.prog 272 4 4:=fun _ _=>by kernel_rfl
theorem cf4:∀ args w,(callFunc 4 args).run Tryz.prog w = .ok (.enter 4 args) w:=fun _ _=>by kernel_rfl
theorem cf5:∀ args w,(callFunc 5 args).run Tryz.prog w = .ok (.enter 5 args) w:=fun _ _=>by kernel_rfl
theorem cf6:∀ args w,(callFunc 6 args).run Tryz.prog w = .ok (.enter 6 args) w:=fun _ _=>by kernel_rfl
theorem cf7:∀ args w,(callFunc 7 args).run Tryz.prog w = .ok (.enter 7 args) w:=fun _ _=>by kernel_rfl
theorem cf8:∀ args w,(callFunc 8 args).run Tryz.prog w = .ok (.enter 8 args) w:=fun _ _=>by kernel_rfl
theorem cf9:∀ args w,(callFunc 9 args).run Tryz.prog w = .ok (.enter 9 args) w:=fun _ _=>by kernel_rfl
theorem cf10:∀ args w,(callFunc 10 args).run Tryz.prog w = .ok (.enter 10 args) w:=fun _ _=>by kernel_rfl
theorem cf11:∀ args w,(callFunc 11 args).run Tryz.prog w = .ok (.enter 11 args) w:=fun _ _=>by kernel_rfl
theorem cf12:∀ args w,(callFunc 12 args).run Tryz.prog w = .ok (.enter 12 args) w:=fun _ _=>by kernel_rfl
theorem cf13:∀ args w,(callFunc 13 args).run Tryz.prog w = .ok (.enter 13 args) w:=fun _ _=>by kernel_rfl
theorem cf14:∀ args w,(callFunc 14 args).run Tryz.prog w = .ok (.enter 14 args) w:=fun _ _=>by kernel_rfl
theorem cf15:∀ args w,(callFunc 15 args).run Tryz.prog w = .ok (.enter 15 args) w:=fun _ _=>by kernel_rfl
theorem cf16:∀ args w,(callFunc 16 args).run Tryz.prog w = .ok (.enter 16 args) w:=fun _ _=>by kernel_rfl
theorem cf17:∀ args w,(callFunc 17 args).run Tryz.prog w = .ok (.enter 17 args) w:=fun _ _=>by kernel_rfl
theorem cf18:∀ args w,(callFunc 18 args).run Tryz.prog w = .ok (.enter 18 args) w:=fun _ _=>by kernel_rfl
theorem cf19:∀ args w,(callFunc 19 args).run Tryz.prog w = .ok (.enter 19 args) w:=fun _ _=>by kernel_rfl
theorem cf20:∀ args w,(callFunc 20 args).run Tryz.prog w = .ok (.enter 20 args) w:=fun _ _=>by kernel_rfl
theorem cf21:∀ args w,(callFunc 21 args).run Tryz.prog w = .ok (.enter 21 args) w:=fun _ _=>by kernel_rfl
theorem cf22:∀ args w,(callFunc 22 args).run Tryz.prog w = .ok (.enter 22 args) w:=fun _ _=>by kernel_rfl
theorem cf23:∀ args w,(callFunc 23 args).run Tryz.prog w = .ok (.enter 23 args) w:=fun _ _=>by kernel_rfl
theorem cf24:∀ args w,(callFunc 24 args).run Tryz.prog w = .ok (.enter 24 args) w:=fun _ _=>by kernel_rfl
theorem cf25:∀ args w,(callFunc 25 args).run Tryz.prog w = .ok (.enter 25 args) w:=fun _ _=>by kernel_rfl
theorem cf26:∀ args w,(callFunc 26 args).run Tryz.prog w = .ok (.enter 26 args) w:=fun _ _=>by kernel_rfl
theorem cf27:∀ args w,(callFunc 27 args).run Tryz.prog w = .ok (.enter 27 args) w:=fun _ _=>by kernel_rfl
theorem cf28:∀ args w,(callFunc 28 args).run Tryz.prog w = .ok (.enter 28 args) w:=fun _ _=>by kernel_rfl
theorem cf29:∀ args w,(callFunc 29 args).run Tryz.prog w = .ok (.enter 29 args) w:=fun _ _=>by kernel_rfl
theorem cf30:∀ args w,(callFunc 30 args).run Tryz.prog w = .ok (.enter 30 args) w:=fun _ _=>by kernel_rfl
theorem cf31:∀ args w,(callFunc 31 args).run Tryz.prog w = .ok (.enter 31 args) w:=fun _ _=>by kernel_rfl
theorem cf32:∀ args w,(callFunc 32 args).run Tryz.prog w = .ok (.enter 32 args) w:=fun _ _=>by kernel_rfl
theorem cf33:∀ args w,(callFunc 33 args).run Tryz.prog w = .ok (.enter 33 args) w:=fun _ _=>by kernel_rfl
theorem cf34:∀ args w,(callFunc 34 args).run Tryz.prog w = .ok (.enter 34 args) w:=fun _ _=>by kernel_rfl
theorem cf35:∀ args w,(callFunc 35 args).run Tryz.prog w = .ok (.enter 35 args) w:=fun _ _=>by kernel_rfl
theorem cf36:∀ args w,(callFunc 36 args).run Tryz.prog w = .ok (.enter 36 args) w:=fun _ _=>by kernel_rfl
theorem cf37:∀ args w,(callFunc 37 args).run Tryz.prog w = .ok (.enter 37 args) w:=fun _ _=>by kernel_rfl
theorem cf38:∀ args w,(callFunc 38 args).run Tryz.prog w = .ok (.enter 38 args) w:=fun _ _=>by kernel_rfl
theorem cf39:∀ args w,(callFunc 39 args).run Tryz.prog w = .ok (.enter 39 args) w:=fun _ _=>by kernel_rfl
theorem cf40:∀ args w,(callFunc 40 args).run Tryz.prog w = .ok (.enter 40 args) w:=fun _ _=>by kernel_rfl
theorem cf41:∀ args w,(callFunc 41 args).run Tryz.prog w = .ok (.enter 41 args) w:=fun _ _=>by kernel_rfl
theorem cf42:∀ args w,(callFunc 42 args).run Tryz.prog w = .ok (.enter 42 args) w:=fun _ _=>by kernel_rfl
theorem cf43:∀ args w,(callFunc 43 args).run Tryz.prog w = .ok (.enter 43 args) w:=fun _ _=>by kernel_rfl
theorem cf44:∀ args w,(callFunc 44 args).run Tryz.prog w = .ok (.enter 44 args) w:=fun _ _=>by kernel_rfl
theorem cf45:∀ args w,(callFunc 45 args).run Tryz.prog w = .ok (.enter 45 args) w:=fun _ _=>by kernel_rfl
theorem cf46:∀ args w,(callFunc 46 args).run Tryz.prog w = .ok (.enter 46 args) w:=fun _ _=>by kernel_rfl
theorem cf47:∀ args w,(callFunc 47 args).run Tryz.prog w = .ok (.enter 47 args) w:=fun _ _=>by kernel_rfl
theorem cf48:∀ args w,(callFunc 48 args).run Tryz.prog w = .ok (.enter 48 args) w:=fun _ _=>by kernel_rfl
theorem cf49:∀ args w,(callFunc 49 args).run Tryz.prog w = .ok (.enter 49 args) w:=fun _ _=>by kernel_rfl
theorem cf50:∀ args w,(callFunc 50 args).run Tryz.prog w = .ok (.enter 50 args) w:=fun _ _=>by kernel_rfl
theorem cf51:∀ args w,(callFunc 51 args).run Tryz.prog w = .ok (.enter 51 args) w:=fun _ _=>by kernel_rfl
theorem cf52:∀ args w,(callFunc 52 args).run Tryz.prog w = .ok (.enter 52 args) w:=fun _ _=>by kernel_rfl
theorem cf53:∀ args w,(callFunc 53 args).run Tryz.prog w = .ok (.enter 53 args) w:=fun _ _=>by kernel_rfl
theorem cf54:∀ args w,(callFunc 54 args).run Tryz.prog w = .ok (.enter 54 args) w:=fun _ _=>by kernel_rfl
theorem cf55:∀ args w,(callFunc 55 args).run Tryz.prog w = .ok (.enter 55 args) w:=fun _ _=>by kernel_rfl
theorem cf56:∀ args w,(callFunc 56 args).run Tryz.prog w = .ok (.enter 56 args) w:=fun _ _=>by kernel_rfl
theorem cf57:∀ args w,(callFunc 57 args).run Tryz.prog w = .ok (.enter 57 args) w:=fun _ _=>by kernel_rfl
theorem cf58:∀ args w,(callFunc 58 args).run Tryz.prog w = .ok (.enter 58 args) w:=fun _ _=>by kernel_rfl
theorem cf59:∀ args w,(callFunc 59 args).run Tryz.prog w = .ok (.enter 59 args) w:=fun _ _=>by kernel_rfl
theorem cf60:∀ args w,(callFunc 60 args).run Tryz.prog w = .ok (.enter 60 args) w:=fun _ _=>by kernel_rfl
theorem cf61:∀ args w,(callFunc 61 args).run Tryz.prog w = .ok (.enter 61 args) w:=fun _ _=>by kernel_rfl
theorem cf62:∀ args w,(callFunc 62 args).run Tryz.prog w = .ok (.enter 62 args) w:=fun _ _=>by kernel_rfl
theorem cf63:∀ args w,(callFunc 63 args).run Tryz.prog w = .ok (.enter 63 args) w:=fun _ _=>by kernel_rfl
theorem cf64:∀ args w,(callFunc 64 args).run Tryz.prog w = .ok (.enter 64 args) w:=fun _ _=>by kernel_rfl
theorem cf65:∀ args w,(callFunc 65 args).run Tryz.prog w = .ok (.enter 65 args) w:=fun _ _=>by kernel_rfl
theorem cf66:∀ args w,(callFunc 66 args).run Tryz.prog w = .ok (.enter 66 args) w:=fun _ _=>by kernel_rfl
theorem cf67:∀ args w,(callFunc 67 args).run Tryz.prog w = .ok (.enter 67 args) w:=fun _ _=>by kernel_rfl
theorem cf68:∀ args w,(callFunc 68 args).run Tryz.prog w = .ok (.enter 68 args) w:=fun _ _=>by kernel_rfl
theorem cf69:∀ args w,(callFunc 69 args).run Tryz.prog w = .ok (.enter 69 args) w:=fun _ _=>by kernel_rfl
theorem cf70:∀ args w,(callFunc 70 args).run Tryz.prog w = .ok (.enter 70 args) w:=fun _ _=>by kernel_rfl
theorem cf71:∀ args w,(callFunc 71 args).run Tryz.prog w = .ok (.enter 71 args) w:=fun _ _=>by kernel_rfl
theorem cf72:∀ args w,(callFunc 72 args).run Tryz.prog w = .ok (.enter 72 args) w:=fun _ _=>by kernel_rfl
theorem cf73:∀ args w,(callFunc 73 args).run Tryz.prog w = .ok (.enter 73 args) w:=fun _ _=>by kernel_rfl
theorem cf74:∀ args w,(callFunc 74 args).run Tryz.prog w = .ok (.enter 74 args) w:=fun _ _=>by kernel_rfl
theorem cf75:∀ args w,(callFunc 75 args).run Tryz.prog w = .ok (.enter 75 args) w:=fun _ _=>by kernel_rfl
theorem cf76:∀ args w,(callFunc 76 args).run Tryz.prog w = .ok (.enter 76 args) w:=fun _ _=>by kernel_rfl
theorem cf77:∀ args w,(callFunc 77 args).run Tryz.prog w = .ok (.enter 77 args) w:=fun _ _=>by kernel_rfl
theorem cf78:∀ args w,(callFunc 78 args).run Tryz.prog w = .ok (.enter 78 args) w:=fun _ _=>by kernel_rfl
theorem cf79:∀ args w,(callFunc 79 args).run Tryz.prog w = .ok (.enter 79 args) w:=fun _ _=>by kernel_rfl
theorem cf80:∀ args w,(callFunc 80 args).run Tryz.prog w = .ok (.enter 80 args) w:=fun _ _=>by kernel_rfl
theorem cf81:∀ args w,(callFunc 81 args).run Tryz.prog w = .ok (.enter 81 args) w:=fun _ _=>by kernel_rfl
theorem cf82:∀ args w,(callFunc 82 args).run Tryz.prog w = .ok (.enter 82 args) w:=fun _ _=>by kernel_rfl
theorem cf83:∀ args w,(callFunc 83 args).run Tryz.prog w = .ok (.enter 83 args) w:=fun _ _=>by kernel_rfl
theorem cf84:∀ args w,(callFunc 84 args).run Tryz.prog w = .ok (.enter 84 args) w:=fun _ _=>by kernel_rfl
theorem cf85:∀ args w,(callFunc 85 args).run Tryz.prog w = .ok (.enter 85 args) w:=fun _ _=>by kernel_rfl
theorem cf86:∀ args w,(callFunc 86 args).run Tryz.prog w = .ok (.enter 86 args) w:=fun _ _=>by kernel_rfl
theorem cf87:∀ args w,(callFunc 87 args).run Tryz.prog w = .ok (.enter 87 args) w:=fun _ _=>by kernel_rfl
theorem cf88:∀ args w,(callFunc 88 args).run Tryz.prog w = .ok (.enter 88 args) w:=fun _ _=>by kernel_rfl
theorem cf89:∀ args w,(callFunc 89 args).run Tryz.prog w = .ok (.enter 89 args) w:=fun _ _=>by kernel_rfl
theorem cf90:∀ args w,(callFunc 90 args).run Tryz.prog w = .ok (.enter 90 args) w:=fun _ _=>by kernel_rfl
theorem cf91:∀ args w,(callFunc 91 args).run Tryz.prog w = .ok (.enter 91 args) w:=fun _ _=>by kernel_rfl
theorem cf92:∀ args w,(callFunc 92 args).run Tryz.prog w = .ok (.enter 92 args) w:=fun _ _=>by kernel_rfl
theorem cf93:∀ args w,(callFunc 93 args).run Tryz.prog w = .ok (.enter 93 args) w:=fun _ _=>by kernel_rfl
theorem cf94:∀ args w,(callFunc 94 args).run Tryz.prog w = .ok (.enter 94 args) w:=fun _ _=>by kernel_rfl
theorem cf95:∀ args w,(callFunc 95 args).run Tryz.prog w = .ok (.enter 95 args) w:=fun _ _=>by kernel_rfl
theorem cf104:∀ args w,(callFunc 104 args).run Tryz.prog w = .ok (.enter 104 args) w:=fun _ _=>by kernel_rfl
theorem cf105:∀ args w,(callFunc 105 args).run Tryz.prog w = .ok (.enter 105 args) w:=fun _ _=>by kernel_rfl
theorem cf106:∀ args w,(callFunc 106 args).run Tryz.prog w = .ok (.enter 106 args) w:=fun _ _=>by kernel_rfl
theorem cf108:∀ args w,(callFunc 108 args).run Tryz.prog w = .ok (.enter 108 args) w:=fun _ _=>by kernel_rfl
theorem cf109:∀ args w,(callFunc 109 args).run Tryz.prog w = .ok (.enter 109 args) w:=fun _ _=>by kernel_rfl
theorem cf110:∀ args w,(callFunc 110 args).run Tryz.prog w = .ok (.enter 110 args) w:=fun _ _=>by kernel_rfl
theorem cf111:∀ args w,(callFunc 111 args).run Tryz.prog w = .ok (.enter 111 args) w:=fun _ _=>by kernel_rfl
theorem cf112:∀ args w,(callFunc 112 args).run Tryz.prog w = .ok (.enter 112 args) w:=fun _ _=>by kernel_rfl
theorem cf113:∀ args w,(callFunc 113 args).run Tryz.prog w = .ok (.enter 113 args) w:=fun _ _=>by kernel_rfl
theorem cf114:∀ args w,(callFunc 114 args).run Tryz.prog w = .ok (.enter 114 args) w:=fun _ _=>by kernel_rfl
theorem cf116:∀ args w,(callFunc 116 args).run Tryz.prog w = .ok (.enter 116 args) w:=fun _ _=>by kernel_rfl
theorem cf117:∀ args w,(callFunc 117 args).run Tryz.prog w = .ok (.enter 117 args) w:=fun _ _=>by kernel_rfl
theorem cf118:∀ args w,(callFunc 118 args).run Tryz.prog w = .ok (.enter 118 args) w:=fun _ _=>by kernel_rfl
theorem cf119:∀ args w,(callFunc 119 args).run Tryz.prog w = .ok (.enter 119 args) w:=fun _ _=>by kernel_rfl
theorem cf120:∀ args w,(callFunc 120 args).run Tryz.prog w = .ok (.enter 120 args) w:=fun _ _=>by kernel_rfl
theorem cf121:∀ args w,(callFunc 121 args).run Tryz.prog w = .ok (.enter 121 args) w:=fun _ _=>by kernel_rfl
theorem cf122:∀ args w,(callFunc 122 args).run Tryz.prog w = .ok (.enter 122 args) w:=fun _ _=>by kernel_rfl
theorem cf123:∀ args w,(callFunc 123 args).run Tryz.prog w = .ok (.enter 123 args) w:=fun _ _=>by kernel_rfl
theorem cf124:∀ args w,(callFunc 124 args).run Tryz.prog w = .ok (.enter 124 args) w:=fun _ _=>by kernel_rfl
theorem cf125:∀ args w,(callFunc 125 args).run Tryz.prog w = .ok (.enter 125 args) w:=fun _ _=>by kernel_rfl
theorem cf126:∀ args w,(callFunc 126 args).run Tryz.prog w = .ok (.enter 126 args) w:=fun _ _=>by kernel_rfl
theorem cf127:∀ args w,(callFunc 127 args).run Tryz.prog w = .ok (.enter 127 args) w:=fun _ _=>by kernel_rfl
theorem cf128:∀ args w,(callFunc 128 args).run Tryz.prog w = .ok (.enter 128 args) w:=fun _ _=>by kernel_rfl
theorem cf143:∀ args w,(callFunc 143 args).run Tryz.prog w = .ok (.enter 143 args) w:=fun _ _=>by kernel_rfl
theorem cf144:∀ args w,(callFunc 144 args).run Tryz.prog w = .ok (.enter 144 args) w:=fun _ _=>by kernel_rfl
theorem cf146:∀ args w,(callFunc 146 args).run Tryz.prog w = .ok (.enter 146 args) w:=fun _ _=>by kernel_rfl
theorem cf147:∀ args w,(callFunc 147 args).run Tryz.prog w = .ok (.enter 147 args) w:=fun _ _=>by kernel_rfl
theorem cf148:∀ args w,(callFunc 148 args).run Tryz.prog w = .ok (.enter 148 args) w:=fun _ _=>by kernel_rfl
theorem cf149:∀ args w,(callFunc 149 args).run Tryz.prog w = .ok (.enter 149 args) w:=fun _ _=>by kernel_rfl
theorem cf150:∀ args w,(callFunc 150 args).run Tryz.prog w = .ok (.enter 150 args) w:=fun _ _=>by kernel_rfl
theorem cf151:∀ args w,(callFunc 151 args).run Tryz.prog w = .ok (.enter 151 args) w:=fun _ _=>by kernel_rfl
theorem cf153:∀ args w,(callFunc 153 args).run Tryz.prog w = .ok (.enter 153 args) w:=fun _ _=>by kernel_rfl
theorem cf154:∀ args w,(callFunc 154 args).run Tryz.prog w = .ok (.enter 154 args) w:=fun _ _=>by kernel_rfl
theorem cf155:∀ args w,(callFunc 155 args).run Tryz.prog w = .ok (.enter 155 args) w:=fun _ _=>by kernel_rfl
theorem cf156:∀ args w,(callFunc 156 args).run Tryz.prog w = .ok (.enter 156 args) w:=fun _ _=>by kernel_rfl
theorem cf157:∀ args w,(callFunc 157 args).run Tryz.prog w = .ok (.enter 157 args) w:=fun _ _=>by kernel_rfl
theorem cf158:∀ args w,(callFunc 158 args).run Tryz.prog w = .ok (.enter 158 args) w:=fun _ _=>by kernel_rfl
theorem cf159:∀ args w,(callFunc 159 args).run Tryz.prog w = .ok (.enter 159 args) w:=fun _ _=>by kernel_rfl
theorem cf160:∀ args w,(callFunc 160 args).run Tryz.prog w = .ok (.enter 160 args) w:=fun _ _=>by kernel_rfl
theorem cf161:∀ args w,(callFunc 161 args).run Tryz.prog w = .ok (.enter 161 args) w:=fun _ _=>by kernel_rfl
theorem cf166:∀ args w,(callFunc 166 args).run Tryz.prog w = .ok (.enter 166 args) w:=fun _ _=>by kernel_rfl
theorem cf189:∀ args w,(callFunc 189 args).run Tryz.prog w = .ok (.enter 189 args) w:=fun _ _=>by kernel_rfl
theorem cf190:∀ args w,(callFunc 190 args).run Tryz.prog w = .ok (.enter 190 args) w:=fun _ _=>by kernel_rfl
theorem cf191:∀ args w,(callFunc 191 args).run Tryz.prog w = .ok (.enter 191 args) w:=fun _ _=>by kernel_rfl
theorem cf192:∀ args w,(callFunc 192 args).run Tryz.prog w = .ok (.enter 192 args) w:=fun _ _=>by kernel_rfl
theorem cf193:∀ args w,(callFunc 193 args).run Tryz.prog w = .ok (.enter 193 args) w:=fun _ _=>by kernel_rfl
theorem cf194:∀ args w,(callFunc 194 args).run Tryz.prog w = .ok (.enter 194 args) w:=fun _ _=>by kernel_rfl
theorem cf210:∀ args w,(callFunc 210 args).run Tryz.prog w = .ok (.enter 210 args) w:=fun _ _=>by kernel_rfl
theorem cf211:∀ args w,(callFunc 211 args).run Tryz.prog w = .ok (.enter 211 args) w:=fun _ _=>by kernel_rfl
end Go.Proofs.YtlkpfhdlfapfhacGreatDoor
