/- Facts on the types and functions. Written by program. -/
import Derived.Test.YtlkpfhdlfapfhaaGreatDoorProg
import Derived.KernelRfl
import Derived.Test.YtlkpfhdlfapfhaaGreatDoorM
namespace Go.Proofs.YtlkpfhdlfapfhaaGreatDoor
open Go Go.J Go.G
set_option linter.unusedSimpArgs false
theorem ty3:TyF Tryz.prog 3 false 1 8 [.int .i64 0]:=TyF.mk' (z:=.int .i64 0) Tryz.underlying3 rfl (by kernel_rfl) rfl
def R3:Rep Int:=⟨3,1,8,fun x=>[.int .i64 x],fun _=>rfl,fun x u hu=>by simp only [List.mem_cons,List.mem_nil_iff,or_false] at hu; rcases hu with rfl <;> rfl,by decide⟩
theorem ty4:TyF Tryz.prog 4 false 1 1 [.bool false]:=TyF.mk' (z:=.bool false) Tryz.underlying4 rfl (by kernel_rfl) rfl
def R4:Rep Bool:=⟨4,1,1,fun x=>[.bool x],fun _=>rfl,fun x u hu=>by simp only [List.mem_cons,List.mem_nil_iff,or_false] at hu; rcases hu with rfl <;> rfl,by decide⟩
theorem ty9:TyF Tryz.prog 9 false 1 16 [.string ByteArray.empty]:=TyF.mk' (z:=.string ByteArray.empty) Tryz.underlying9 rfl (by kernel_rfl) rfl
def R9:Rep ByteArray:=⟨9,1,16,fun x=>[.string x],fun _=>rfl,fun x u hu=>by simp only [List.mem_cons,List.mem_nil_iff,or_false] at hu; rcases hu with rfl <;> rfl,by decide⟩
theorem ty22:TyF Tryz.prog 22 false 1 24 [.slice none 0 0]:=TyF.mk' (z:=.slice none 0 0) Tryz.underlying22 rfl (by kernel_rfl) rfl
theorem ty23:TyF Tryz.prog 23 false 1 8 [.pointer none]:=TyF.mk' (z:=.pointer none) Tryz.underlying23 rfl (by kernel_rfl) rfl
theorem ty25:TyF Tryz.prog 25 true 2 32 [.slice none 0 0,.int .i64 0]:=TyF.mk' (z:=.agg #[.slice none 0 0,.int .i64 0]) Tryz.underlying25 rfl (by kernel_rfl) rfl
theorem ty28:TyF Tryz.prog 28 false 1 24 [.slice none 0 0]:=TyF.mk' (z:=.slice none 0 0) Tryz.underlying28 rfl (by kernel_rfl) rfl
theorem ty30:TyF Tryz.prog 30 false 1 24 [.slice none 0 0]:=TyF.mk' (z:=.slice none 0 0) Tryz.underlying30 rfl (by kernel_rfl) rfl
theorem ty33:TyF Tryz.prog 33 false 1 8 [.int .i64 0]:=TyF.mk' (z:=.int .i64 0) Tryz.underlying33 rfl (by kernel_rfl) rfl
def R33:Rep Int:=⟨33,1,8,fun x=>[.int .i64 x],fun _=>rfl,fun x u hu=>by simp only [List.mem_cons,List.mem_nil_iff,or_false] at hu; rcases hu with rfl <;> rfl,by decide⟩
theorem ty38:TyF Tryz.prog 38 false 1 24 [.slice none 0 0]:=TyF.mk' (z:=.slice none 0 0) Tryz.underlying38 rfl (by kernel_rfl) rfl
theorem ty42:TyF Tryz.prog 42 true 2 16 [.int .i64 0,.int .i64 0]:=TyF.mk' (z:=.agg #[.int .i64 0,.int .i64 0]) Tryz.underlying42 rfl (by kernel_rfl) rfl
def R42:Rep TFraction:=⟨42,2,16,fun x=>[.int .i64 x.Num,.int .i64 x.Den],fun _=>rfl,fun x u hu=>by simp only [List.mem_cons,List.mem_nil_iff,or_false] at hu; rcases hu with rfl | rfl <;> rfl,by decide⟩
theorem ty44:TyF Tryz.prog 44 true 5 48 [.int .i64 0,.int .i64 0,.int .i64 0,.string ByteArray.empty,.bool false]:=TyF.mk' (z:=.agg #[.int .i64 0,.int .i64 0,.int .i64 0,.string ByteArray.empty,.bool false]) Tryz.underlying44 rfl (by kernel_rfl) rfl
def R44:Rep TTone:=⟨44,5,48,fun x=>[.int .i64 x.Note,.int .i64 x.Long.Num,.int .i64 x.Long.Den,.string x.Text,.bool x.Tied],fun _=>rfl,fun x u hu=>by simp only [List.mem_cons,List.mem_nil_iff,or_false] at hu; rcases hu with rfl | rfl | rfl | rfl | rfl <;> rfl,by decide⟩
theorem ty50:TyF Tryz.prog 50 true 6 80 [.string ByteArray.empty,.int .i64 0,.int .i64 0,.string ByteArray.empty,.int .i64 0,.slice none 0 0]:=TyF.mk' (z:=.agg #[.string ByteArray.empty,.int .i64 0,.int .i64 0,.string ByteArray.empty,.int .i64 0,.slice none 0 0]) Tryz.underlying50 rfl (by kernel_rfl) rfl
theorem ty53:TyF Tryz.prog 53 true 5 40 [.int .i64 0,.int .i64 0,.int .i64 0,.int .i64 0,.bool false]:=TyF.mk' (z:=.agg #[.int .i64 0,.int .i64 0,.int .i64 0,.int .i64 0,.bool false]) Tryz.underlying53 rfl (by kernel_rfl) rfl
def R53:Rep TBar:=⟨53,5,40,fun x=>[.int .i64 x.Beats,.int .i64 x.Unit,.int .i64 x.Close,.int .i64 x.Ending,.bool x.Open],fun _=>rfl,fun x u hu=>by simp only [List.mem_cons,List.mem_nil_iff,or_false] at hu; rcases hu with rfl | rfl | rfl | rfl | rfl <;> rfl,by decide⟩
theorem ty65:TyF Tryz.prog 65 false 1 8 [.map none]:=TyF.mk' (z:=.map none) Tryz.underlying65 rfl (by kernel_rfl) rfl
theorem ty85:TyF Tryz.prog 85 true 2 24 [.string ByteArray.empty,.int .i64 0]:=TyF.mk' (z:=.agg #[.string ByteArray.empty,.int .i64 0]) Tryz.underlying85 rfl (by kernel_rfl) rfl
def R85:Rep Tpiece_own:=⟨85,2,24,fun x=>[.string x.by_,.int .i64 x.no],fun _=>rfl,fun x u hu=>by simp only [List.mem_cons,List.mem_nil_iff,or_false] at hu; rcases hu with rfl | rfl <;> rfl,by decide⟩
theorem ty91:TyF Tryz.prog 91 true 3 24 [.int .i64 0,.int .i64 0,.int .i64 0]:=TyF.mk' (z:=.agg #[.int .i64 0,.int .i64 0,.int .i64 0]) Tryz.underlying91 rfl (by kernel_rfl) rfl
def R91:Rep TChord:=⟨91,3,24,fun x=>[.int .i64 x.Root,.int .i64 x.Kind,.int .i64 x.Turn],fun _=>rfl,fun x u hu=>by simp only [List.mem_cons,List.mem_nil_iff,or_false] at hu; rcases hu with rfl | rfl | rfl <;> rfl,by decide⟩
theorem ty95:TyF Tryz.prog 95 true 3 32 [.int .i64 0,.string ByteArray.empty,.bool false]:=TyF.mk' (z:=.agg #[.int .i64 0,.string ByteArray.empty,.bool false]) Tryz.underlying95 rfl (by kernel_rfl) rfl
def R95:Rep TCame:=⟨95,3,32,fun x=>[.int .i64 x.At,.string x.Singer,.bool x.Left],fun _=>rfl,fun x u hu=>by simp only [List.mem_cons,List.mem_nil_iff,or_false] at hu; rcases hu with rfl | rfl | rfl <;> rfl,by decide⟩
theorem ty100:TyF Tryz.prog 100 true 4 64 [.string ByteArray.empty,.string ByteArray.empty,.int .i64 0,.slice none 0 0]:=TyF.mk' (z:=.agg #[.string ByteArray.empty,.string ByteArray.empty,.int .i64 0,.slice none 0 0]) Tryz.underlying100 rfl (by kernel_rfl) rfl
theorem ty101:TyF Tryz.prog 101 false 1 24 [.slice none 0 0]:=TyF.mk' (z:=.slice none 0 0) Tryz.underlying101 rfl (by kernel_rfl) rfl
theorem ty103:TyF Tryz.prog 103 true 5 56 [.slice none 0 0,.int .i64 0,.int .i64 0,.int .i64 0,.int .i64 0]:=TyF.mk' (z:=.agg #[.slice none 0 0,.int .i64 0,.int .i64 0,.int .i64 0,.int .i64 0]) Tryz.underlying103 rfl (by kernel_rfl) rfl
theorem ty106:TyF Tryz.prog 106 true 10 112 [.string ByteArray.empty,.int .i64 0,.int .i64 0,.int .i64 0,.string ByteArray.empty,.string ByteArray.empty,.int .i64 0,.bool false,.string ByteArray.empty,.int .i64 0]:=TyF.mk' (z:=.agg #[.string ByteArray.empty,.int .i64 0,.int .i64 0,.int .i64 0,.string ByteArray.empty,.string ByteArray.empty,.int .i64 0,.bool false,.string ByteArray.empty,.int .i64 0]) Tryz.underlying106 rfl (by kernel_rfl) rfl
def R106:Rep TAct:=⟨106,10,112,fun x=>[.string x.Site,.int .i64 x.No,.int .i64 x.At,.int .i64 x.Kind,.string x.Who,.string x.Motion,.int .i64 x.Cents,.bool x.Yes,.string x.Of,.int .i64 x.Other],fun _=>rfl,fun x u hu=>by simp only [List.mem_cons,List.mem_nil_iff,or_false] at hu; rcases hu with rfl | rfl | rfl | rfl | rfl | rfl | rfl | rfl | rfl | rfl <;> rfl,by decide⟩
theorem ty107:TyF Tryz.prog 107 false 1 24 [.slice none 0 0]:=TyF.mk' (z:=.slice none 0 0) Tryz.underlying107 rfl (by kernel_rfl) rfl
theorem ty129:TyF Tryz.prog 129 false 1 8 [.map none]:=TyF.mk' (z:=.map none) Tryz.underlying129 rfl (by kernel_rfl) rfl
theorem ty135:TyF Tryz.prog 135 true 2 16 [.int .i64 0,.int .i64 0]:=TyF.mk' (z:=.agg #[.int .i64 0,.int .i64 0]) Tryz.underlying135 rfl (by kernel_rfl) rfl
def R135:Rep TWindow:=⟨135,2,16,fun x=>[.int .i64 x.From,.int .i64 x.To],fun _=>rfl,fun x u hu=>by simp only [List.mem_cons,List.mem_nil_iff,or_false] at hu; rcases hu with rfl | rfl <;> rfl,by decide⟩
theorem ty178:TyF Tryz.prog 178 false 1 8 [.map none]:=TyF.mk' (z:=.map none) Tryz.underlying178 rfl (by kernel_rfl) rfl
theorem ty180:TyF Tryz.prog 180 false 1 8 [.map none]:=TyF.mk' (z:=.map none) Tryz.underlying180 rfl (by kernel_rfl) rfl
theorem ty182:TyF Tryz.prog 182 true 5 56 [.int .i64 0,.map none,.map none,.map none,.slice none 0 0]:=TyF.mk' (z:=.agg #[.int .i64 0,.map none,.map none,.map none,.slice none 0 0]) Tryz.underlying182 rfl (by kernel_rfl) rfl
theorem ty185:TyF Tryz.prog 185 true 3 24 [.int .i64 0,.int .i64 0,.int .i64 0]:=TyF.mk' (z:=.agg #[.int .i64 0,.int .i64 0,.int .i64 0]) Tryz.underlying185 rfl (by kernel_rfl) rfl
def R185:Rep Tpiece_repeat:=⟨185,3,24,fun x=>[.int .i64 x.from_,.int .i64 x.to_,.int .i64 x.times],fun _=>rfl,fun x u hu=>by simp only [List.mem_cons,List.mem_nil_iff,or_false] at hu; rcases hu with rfl | rfl | rfl <;> rfl,by decide⟩
theorem ty208:TyF Tryz.prog 208 true 3 24 [.int .i64 0,.int .i64 0,.int .i64 0]:=TyF.mk' (z:=.agg #[.int .i64 0,.int .i64 0,.int .i64 0]) Tryz.underlying208 rfl (by kernel_rfl) rfl
def R208:Rep Tclub_stay:=⟨208,3,24,fun x=>[.int .i64 x.since,.int .i64 x.till,.int .i64 x.cents],fun _=>rfl,fun x u hu=>by simp only [List.mem_cons,List.mem_nil_iff,or_false] at hu; rcases hu with rfl | rfl | rfl <;> rfl,by decide⟩
theorem ty233:TyF Tryz.prog 233 false 1 8 [.map none]:=TyF.mk' (z:=.map none) Tryz.underlying233 rfl (by kernel_rfl) rfl
theorem ty235:TyF Tryz.prog 235 true 2 24 [.string ByteArray.empty,.int .i64 0]:=TyF.mk' (z:=.agg #[.string ByteArray.empty,.int .i64 0]) Tryz.underlying235 rfl (by kernel_rfl) rfl
def R235:Rep Tclub_own:=⟨235,2,24,fun x=>[.string x.site,.int .i64 x.no],fun _=>rfl,fun x u hu=>by simp only [List.mem_cons,List.mem_nil_iff,or_false] at hu; rcases hu with rfl | rfl <;> rfl,by decide⟩
theorem ty242:TyF Tryz.prog 242 true 3 40 [.bool false,.map none,.slice none 0 0]:=TyF.mk' (z:=.agg #[.bool false,.map none,.slice none 0 0]) Tryz.underlying242 rfl (by kernel_rfl) rfl
theorem ty258:TyF Tryz.prog 258 true 5 5 [.bool false,.bool false,.bool false,.bool false,.bool false]:=TyF.mk' (z:=.agg #[.bool false,.bool false,.bool false,.bool false,.bool false]) Tryz.underlying258 rfl (by kernel_rfl) rfl
def R258:Rep Tclub_uses:=⟨258,5,5,fun x=>[.bool x.who,.bool x.motion,.bool x.cents,.bool x.yes,.bool x.undo],fun _=>rfl,fun x u hu=>by simp only [List.mem_cons,List.mem_nil_iff,or_false] at hu; rcases hu with rfl | rfl | rfl | rfl | rfl <;> rfl,by decide⟩
def N22:Nst (List Int) SV:=⟨⟨22,1,24,fun p=>[p.2.v],fun _=>rfl,fun p u hu=>by simp only [List.mem_cons,List.mem_nil_iff,or_false] at hu; rcases hu with rfl <;> rfl,by decide⟩,fun p w=>RdS R3 (SV.v p.2) p.1 w⟩
def N28:Nst (List TTone) SV:=⟨⟨28,1,24,fun p=>[p.2.v],fun _=>rfl,fun p u hu=>by simp only [List.mem_cons,List.mem_nil_iff,or_false] at hu; rcases hu with rfl <;> rfl,by decide⟩,fun p w=>RdS R44 (SV.v p.2) p.1 w⟩
def N50:Nst TEdit SV:=⟨⟨50,6,80,fun p=>[.string p.1.By,.int .i64 p.1.No,.int .i64 p.1.At,.string p.1.Part,.int .i64 p.1.Bar,p.2.v],fun _=>rfl,fun p u hu=>by simp only [List.mem_cons,List.mem_nil_iff,or_false] at hu; rcases hu with rfl | rfl | rfl | rfl | rfl | rfl <;> rfl,by decide⟩,fun p w=>RdS R44 (SV.v p.2) p.1.Tones w⟩
def N30:Nst (List TEdit) (SV × List (TEdit × SV)):=⟨⟨30,1,24,fun p=>[p.2.1.v],fun _=>rfl,fun p u hu=>by simp only [List.mem_cons,List.mem_nil_iff,or_false] at hu; rcases hu with rfl <;> rfl,by decide⟩,fun p w=>RdS N50.R (SV.v p.2.1) p.2.2 w∧Lk N50 p.1 p.2.2 w⟩
def N100:Nst TItem SV:=⟨⟨100,4,64,fun p=>[.string p.1.Key,.string p.1.Places,.int .i64 p.1.Long,p.2.v],fun _=>rfl,fun p u hu=>by simp only [List.mem_cons,List.mem_nil_iff,or_false] at hu; rcases hu with rfl | rfl | rfl | rfl <;> rfl,by decide⟩,fun p w=>RdS R9 (SV.v p.2) p.1.Parts w⟩
theorem eqst42_ (d:Nat) (x y:TFraction):EqV Tryz.prog (d+2) 42 (.agg (R42.enc x).toArray) (.agg (R42.enc y).toArray) (decide (x=y)):=by
  have h:((x.Num==y.Num)&&((x.Den==y.Den)&&true))=decide (x=y):=by rw [Bool.eq_iff_iff]; cases x; cases y; simp [ba_beq]
  rw [← h]
  exact eqv_struct Tryz.underlying42 (by kernel_rfl) (eqf_cons (.int .i64 x.Num) (.int .i64 y.Num) (by decide) (fun _=>by kernel_rfl) (fun _=>by kernel_rfl) (eqv_int Tryz.underlying3 _ _) (eqf_cons (.int .i64 x.Den) (.int .i64 y.Den) (by decide) (fun _=>by kernel_rfl) (fun _=>by kernel_rfl) (eqv_int Tryz.underlying3 _ _) eqf_nil))
theorem eqst42 (x y:TFraction):EqV Tryz.prog 10000 42 (.agg (R42.enc x).toArray) (.agg (R42.enc y).toArray) (decide (x=y)):=eqst42_ 9998 x y
theorem eqst44_ (d:Nat) (x y:TTone):EqV Tryz.prog (d+3) 44 (.agg (R44.enc x).toArray) (.agg (R44.enc y).toArray) (decide (x=y)):=by
  have h:((x.Note==y.Note)&&((decide (x.Long=y.Long))&&((x.Text==y.Text)&&((x.Tied==y.Tied)&&true))))=decide (x=y):=by rw [Bool.eq_iff_iff]; cases x; cases y; simp [ba_beq]
  rw [← h]
  exact eqv_struct Tryz.underlying44 (by kernel_rfl) (eqf_cons (.int .i64 x.Note) (.int .i64 y.Note) (by decide) (fun _=>by kernel_rfl) (fun _=>by kernel_rfl) (eqv_int Tryz.underlying3 _ _) (eqf_cons (.agg (R42.enc x.Long).toArray) (.agg (R42.enc y.Long).toArray) (by decide) (fun _=>by kernel_rfl) (fun _=>by kernel_rfl) (eqst42_ _ x.Long y.Long) (eqf_cons (.string x.Text) (.string y.Text) (by decide) (fun _=>by kernel_rfl) (fun _=>by kernel_rfl) (eqv_str Tryz.underlying9 _ _) (eqf_cons (.bool x.Tied) (.bool y.Tied) (by decide) (fun _=>by kernel_rfl) (fun _=>by kernel_rfl) (eqv_bool Tryz.underlying4 _ _) eqf_nil))))
theorem eqst44 (x y:TTone):EqV Tryz.prog 10000 44 (.agg (R44.enc x).toArray) (.agg (R44.enc y).toArray) (decide (x=y)):=eqst44_ 9997 x y
theorem eqst53_ (d:Nat) (x y:TBar):EqV Tryz.prog (d+2) 53 (.agg (R53.enc x).toArray) (.agg (R53.enc y).toArray) (decide (x=y)):=by
  have h:((x.Beats==y.Beats)&&((x.Unit==y.Unit)&&((x.Close==y.Close)&&((x.Ending==y.Ending)&&((x.Open==y.Open)&&true)))))=decide (x=y):=by rw [Bool.eq_iff_iff]; cases x; cases y; simp [ba_beq]
  rw [← h]
  exact eqv_struct Tryz.underlying53 (by kernel_rfl) (eqf_cons (.int .i64 x.Beats) (.int .i64 y.Beats) (by decide) (fun _=>by kernel_rfl) (fun _=>by kernel_rfl) (eqv_int Tryz.underlying3 _ _) (eqf_cons (.int .i64 x.Unit) (.int .i64 y.Unit) (by decide) (fun _=>by kernel_rfl) (fun _=>by kernel_rfl) (eqv_int Tryz.underlying3 _ _) (eqf_cons (.int .i64 x.Close) (.int .i64 y.Close) (by decide) (fun _=>by kernel_rfl) (fun _=>by kernel_rfl) (eqv_int Tryz.underlying3 _ _) (eqf_cons (.int .i64 x.Ending) (.int .i64 y.Ending) (by decide) (fun _=>by kernel_rfl) (fun _=>by kernel_rfl) (eqv_int Tryz.underlying3 _ _) (eqf_cons (.bool x.Open) (.bool y.Open) (by decide) (fun _=>by kernel_rfl) (fun _=>by kernel_rfl) (eqv_bool Tryz.underlying4 _ _) eqf_nil)))))
theorem eqst53 (x y:TBar):EqV Tryz.prog 10000 53 (.agg (R53.enc x).toArray) (.agg (R53.enc y).toArray) (decide (x=y)):=eqst53_ 9998 x y
theorem eqst85_ (d:Nat) (x y:Tpiece_own):EqV Tryz.prog (d+2) 85 (.agg (R85.enc x).toArray) (.agg (R85.enc y).toArray) (decide (x=y)):=by
  have h:((x.by_==y.by_)&&((x.no==y.no)&&true))=decide (x=y):=by rw [Bool.eq_iff_iff]; cases x; cases y; simp [ba_beq]
  rw [← h]
  exact eqv_struct Tryz.underlying85 (by kernel_rfl) (eqf_cons (.string x.by_) (.string y.by_) (by decide) (fun _=>by kernel_rfl) (fun _=>by kernel_rfl) (eqv_str Tryz.underlying9 _ _) (eqf_cons (.int .i64 x.no) (.int .i64 y.no) (by decide) (fun _=>by kernel_rfl) (fun _=>by kernel_rfl) (eqv_int Tryz.underlying3 _ _) eqf_nil))
theorem eqst85 (x y:Tpiece_own):EqV Tryz.prog 10000 85 (.agg (R85.enc x).toArray) (.agg (R85.enc y).toArray) (decide (x=y)):=eqst85_ 9998 x y
theorem eqst235_ (d:Nat) (x y:Tclub_own):EqV Tryz.prog (d+2) 235 (.agg (R235.enc x).toArray) (.agg (R235.enc y).toArray) (decide (x=y)):=by
  have h:((x.site==y.site)&&((x.no==y.no)&&true))=decide (x=y):=by rw [Bool.eq_iff_iff]; cases x; cases y; simp [ba_beq]
  rw [← h]
  exact eqv_struct Tryz.underlying235 (by kernel_rfl) (eqf_cons (.string x.site) (.string y.site) (by decide) (fun _=>by kernel_rfl) (fun _=>by kernel_rfl) (eqv_str Tryz.underlying9 _ _) (eqf_cons (.int .i64 x.no) (.int .i64 y.no) (by decide) (fun _=>by kernel_rfl) (fun _=>by kernel_rfl) (eqv_int Tryz.underlying3 _ _) eqf_nil))
theorem eqst235 (x y:Tclub_own):EqV Tryz.prog 10000 235 (.agg (R235.enc x).toArray) (.agg (R235.enc y).toArray) (decide (x=y)):=eqst235_ 9998 x y
@[reducible] def vv3:Int→Value:=fun x=>.int .i64 x
@[reducible] def vv4:Bool→Value:=fun x=>.bool x
@[reducible] def kv9:ByteArray→Value:=fun x=>.string x
theorem keyF9:KeyF Tryz.prog 9 kv9:=keyF_str Tryz.underlying9
@[reducible] def kv85:Tpiece_own→Value:=fun x=>.agg (R85.enc x).toArray
theorem keyF85:KeyF Tryz.prog 85 kv85:=keyF_agg Tryz.underlying85 (fun _ _ _=>by kernel_rfl) eqst85 (fun k v hv=>by simp only [R85,List.mem_cons,List.not_mem_nil,or_false] at hv; rcases hv with rfl | rfl <;> simp [Instr.sameBits,ba_dec])
@[reducible] def kv235:Tclub_own→Value:=fun x=>.agg (R235.enc x).toArray
theorem keyF235:KeyF Tryz.prog 235 kv235:=keyF_agg Tryz.underlying235 (fun _ _ _=>by kernel_rfl) eqst235 (fun k v hv=>by simp only [R235,List.mem_cons,List.not_mem_nil,or_false] at hv; rcases hv with rfl | rfl <;> simp [Instr.sameBits,ba_dec])
@[reducible] def vvd50:TEdit × SV→Value:=fun p=>.agg #[.string p.1.By,.int .i64 p.1.No,.int .i64 p.1.At,.string p.1.Part,.int .i64 p.1.Bar,p.2.v]
@[reducible] def Fh240:(Nat × Nat × Array MapEntry × Nat × SV)→Nat:=fun q=>q.1
def Fe240:(Bool × (List (ByteArray × Bool)) × (List ByteArray))→(Nat × Nat × Array MapEntry × Nat × SV)→List Ent:=fun t q=>[.box q.1 242 [.bool t.1,.map (some q.2.1),q.2.2.2.2.v],.obj (mapO kv9 q.2.1 (mpV vv4 t.2.1) q.2.2.1 q.2.2.2.1),.row R9 (SV.v q.2.2.2.2) t.2.2]
theorem fro240:∀ t q F,Ent.ro F∉Fe240 t q:=by intro t q F h; simp [Fe240] at h
theorem fl25_0:FldF Tryz.prog 25 0 0:=fun _ _=>by kernel_rfl
theorem fl25_1:FldF Tryz.prog 25 1 1:=fun _ _=>by kernel_rfl
theorem fl42_0:FldF Tryz.prog 42 0 0:=fun _ _=>by kernel_rfl
theorem fl42_1:FldF Tryz.prog 42 1 1:=fun _ _=>by kernel_rfl
theorem fl44_0:FldF Tryz.prog 44 0 0:=fun _ _=>by kernel_rfl
theorem fl44_1:FldF Tryz.prog 44 1 1:=fun _ _=>by kernel_rfl
theorem fl44_2:FldF Tryz.prog 44 2 3:=fun _ _=>by kernel_rfl
theorem fl44_3:FldF Tryz.prog 44 3 4:=fun _ _=>by kernel_rfl
theorem fl50_0:FldF Tryz.prog 50 0 0:=fun _ _=>by kernel_rfl
theorem fl50_1:FldF Tryz.prog 50 1 1:=fun _ _=>by kernel_rfl
theorem fl50_2:FldF Tryz.prog 50 2 2:=fun _ _=>by kernel_rfl
theorem fl50_3:FldF Tryz.prog 50 3 3:=fun _ _=>by kernel_rfl
theorem fl50_4:FldF Tryz.prog 50 4 4:=fun _ _=>by kernel_rfl
theorem fl50_5:FldF Tryz.prog 50 5 5:=fun _ _=>by kernel_rfl
theorem fl53_0:FldF Tryz.prog 53 0 0:=fun _ _=>by kernel_rfl
theorem fl53_1:FldF Tryz.prog 53 1 1:=fun _ _=>by kernel_rfl
theorem fl53_2:FldF Tryz.prog 53 2 2:=fun _ _=>by kernel_rfl
theorem fl53_3:FldF Tryz.prog 53 3 3:=fun _ _=>by kernel_rfl
theorem fl53_4:FldF Tryz.prog 53 4 4:=fun _ _=>by kernel_rfl
theorem fl91_0:FldF Tryz.prog 91 0 0:=fun _ _=>by kernel_rfl
theorem fl91_1:FldF Tryz.prog 91 1 1:=fun _ _=>by kernel_rfl
theorem fl91_2:FldF Tryz.prog 91 2 2:=fun _ _=>by kernel_rfl
theorem fl95_0:FldF Tryz.prog 95 0 0:=fun _ _=>by kernel_rfl
theorem fl95_1:FldF Tryz.prog 95 1 1:=fun _ _=>by kernel_rfl
theorem fl95_2:FldF Tryz.prog 95 2 2:=fun _ _=>by kernel_rfl
theorem fl100_0:FldF Tryz.prog 100 0 0:=fun _ _=>by kernel_rfl
theorem fl100_1:FldF Tryz.prog 100 1 1:=fun _ _=>by kernel_rfl
theorem fl100_2:FldF Tryz.prog 100 2 2:=fun _ _=>by kernel_rfl
theorem fl100_3:FldF Tryz.prog 100 3 3:=fun _ _=>by kernel_rfl
theorem fl103_0:FldF Tryz.prog 103 0 0:=fun _ _=>by kernel_rfl
theorem fl103_1:FldF Tryz.prog 103 1 1:=fun _ _=>by kernel_rfl
theorem fl103_2:FldF Tryz.prog 103 2 2:=fun _ _=>by kernel_rfl
theorem fl103_3:FldF Tryz.prog 103 3 3:=fun _ _=>by kernel_rfl
theorem fl103_4:FldF Tryz.prog 103 4 4:=fun _ _=>by kernel_rfl
theorem fl106_0:FldF Tryz.prog 106 0 0:=fun _ _=>by kernel_rfl
theorem fl106_1:FldF Tryz.prog 106 1 1:=fun _ _=>by kernel_rfl
theorem fl106_2:FldF Tryz.prog 106 2 2:=fun _ _=>by kernel_rfl
theorem fl106_3:FldF Tryz.prog 106 3 3:=fun _ _=>by kernel_rfl
theorem fl106_4:FldF Tryz.prog 106 4 4:=fun _ _=>by kernel_rfl
theorem fl106_5:FldF Tryz.prog 106 5 5:=fun _ _=>by kernel_rfl
theorem fl106_6:FldF Tryz.prog 106 6 6:=fun _ _=>by kernel_rfl
theorem fl106_7:FldF Tryz.prog 106 7 7:=fun _ _=>by kernel_rfl
theorem fl106_8:FldF Tryz.prog 106 8 8:=fun _ _=>by kernel_rfl
theorem fl106_9:FldF Tryz.prog 106 9 9:=fun _ _=>by kernel_rfl
theorem fl135_0:FldF Tryz.prog 135 0 0:=fun _ _=>by kernel_rfl
theorem fl135_1:FldF Tryz.prog 135 1 1:=fun _ _=>by kernel_rfl
theorem fl182_1:FldF Tryz.prog 182 1 1:=fun _ _=>by kernel_rfl
theorem fl182_2:FldF Tryz.prog 182 2 2:=fun _ _=>by kernel_rfl
theorem fl182_3:FldF Tryz.prog 182 3 3:=fun _ _=>by kernel_rfl
theorem fl182_4:FldF Tryz.prog 182 4 4:=fun _ _=>by kernel_rfl
theorem fl185_0:FldF Tryz.prog 185 0 0:=fun _ _=>by kernel_rfl
theorem fl185_1:FldF Tryz.prog 185 1 1:=fun _ _=>by kernel_rfl
theorem fl185_2:FldF Tryz.prog 185 2 2:=fun _ _=>by kernel_rfl
theorem fl208_1:FldF Tryz.prog 208 1 1:=fun _ _=>by kernel_rfl
theorem fl242_0:FldF Tryz.prog 242 0 0:=fun _ _=>by kernel_rfl
theorem fl242_1:FldF Tryz.prog 242 1 1:=fun _ _=>by kernel_rfl
theorem fl242_2:FldF Tryz.prog 242 2 2:=fun _ _=>by kernel_rfl
theorem fl258_0:FldF Tryz.prog 258 0 0:=fun _ _=>by kernel_rfl
theorem fl258_1:FldF Tryz.prog 258 1 1:=fun _ _=>by kernel_rfl
theorem fl258_2:FldF Tryz.prog 258 2 2:=fun _ _=>by kernel_rfl
theorem fl258_3:FldF Tryz.prog 258 3 3:=fun _ _=>by kernel_rfl
theorem fl258_4:FldF Tryz.prog 258 4 4:=fun _ _=>by kernel_rfl
theorem cf4:∀ args w,(callFunc 4 args).run Tryz.prog w = .ok (.enter 4 args) w:=fun _ _=>by kernel_rfl
theorem cf5:∀ args w,(callFunc 5 args).run Tryz.prog w = .ok (.enter 5 args) w:=fun _ _=>by kernel_rfl
theorem cf6:∀ args w,(callFunc 6 args).run Tryz.prog w = .ok (.enter 6 args) w:=fun _ _=>by kernel_rfl
theorem cf7:∀ args w,(callFunc 7 args).run Tryz.prog w = .ok (.enter 7 args) w:=fun _ _=>by kernel_rfl
theorem cf8:∀ args w,(callFunc 8 args).run Tryz.prog w = .ok (.enter 8 args) w:=fun _ _=>by kernel_rfl
theorem cf9:∀ args w,(callFunc 9 args).run Tryz.prog w = .ok (.enter 9 args) w:=fun _ _=>by kernel_rfl
theorem cf10:∀ args w,(callFunc 10 args).run Tryz.prog w = .ok (.enter 10 args) w:=fun _ _=>by kernel_rfl
theorem cf11:∀ args w,(callFunc 11 args).run Tryz.prog w = .ok (.enter 11 args) w:=fun _ _=>by kernel_rfl
theorem cf12:∀ args w,(callFunc 12 args).run Tryz.prog w = .ok (.enter 12 args) w:=fun _ _=>by kernel_rfl
theorem cf13:∀ args w,(callFunc 13 args).run Tryz.prog w = .ok (.enter 13 args) w:=fun _ _=>by kernel_rfl
theorem cf14:∀ args w,(callFunc 14 args).run Tryz.prog w = .ok (.enter 14 args) w:=fun _ _=>by kernel_rfl
theorem cf15:∀ args w,(callFunc 15 args).run Tryz.prog w = .ok (.enter 15 args) w:=fun _ _=>by kernel_rfl
theorem cf16:∀ args w,(callFunc 16 args).run Tryz.prog w = .ok (.enter 16 args) w:=fun _ _=>by kernel_rfl
theorem cf17:∀ args w,(callFunc 17 args).run Tryz.prog w = .ok (.enter 17 args) w:=fun _ _=>by kernel_rfl
theorem cf18:∀ args w,(callFunc 18 args).run Tryz.prog w = .ok (.enter 18 args) w:=fun _ _=>by kernel_rfl
theorem cf19:∀ args w,(callFunc 19 args).run Tryz.prog w = .ok (.enter 19 args) w:=fun _ _=>by kernel_rfl
theorem cf20:∀ args w,(callFunc 20 args).run Tryz.prog w = .ok (.enter 20 args) w:=fun _ _=>by kernel_rfl
theorem cf21:∀ args w,(callFunc 21 args).run Tryz.prog w = .ok (.enter 21 args) w:=fun _ _=>by kernel_rfl
theorem cf22:∀ args w,(callFunc 22 args).run Tryz.prog w = .ok (.enter 22 args) w:=fun _ _=>by kernel_rfl
theorem cf23:∀ args w,(callFunc 23 args).run Tryz.prog w = .ok (.enter 23 args) w:=fun _ _=>by kernel_rfl
theorem cf24:∀ args w,(callFunc 24 args).run Tryz.prog w = .ok (.enter 24 args) w:=fun _ _=>by kernel_rfl
theorem cf25:∀ args w,(callFunc 25 args).run Tryz.prog w = .ok (.enter 25 args) w:=fun _ _=>by kernel_rfl
theorem cf26:∀ args w,(callFunc 26 args).run Tryz.prog w = .ok (.enter 26 args) w:=fun _ _=>by kernel_rfl
theorem cf27:∀ args w,(callFunc 27 args).run Tryz.prog w = .ok (.enter 27 args) w:=fun _ _=>by kernel_rfl
theorem cf28:∀ args w,(callFunc 28 args).run Tryz.prog w = .ok (.enter 28 args) w:=fun _ _=>by kernel_rfl
theorem cf29:∀ args w,(callFunc 29 args).run Tryz.prog w = .ok (.enter 29 args) w:=fun _ _=>by kernel_rfl
theorem cf30:∀ args w,(callFunc 30 args).run Tryz.prog w = .ok (.enter 30 args) w:=fun _ _=>by kernel_rfl
theorem cf31:∀ args w,(callFunc 31 args).run Tryz.prog w = .ok (.enter 31 args) w:=fun _ _=>by kernel_rfl
theorem cf32:∀ args w,(callFunc 32 args).run Tryz.prog w = .ok (.enter 32 args) w:=fun _ _=>by kernel_rfl
theorem cf33:∀ args w,(callFunc 33 args).run Tryz.prog w = .ok (.enter 33 args) w:=fun _ _=>by kernel_rfl
theorem cf34:∀ args w,(callFunc 34 args).run Tryz.prog w = .ok (.enter 34 args) w:=fun _ _=>by kernel_rfl
theorem cf35:∀ args w,(callFunc 35 args).run Tryz.prog w = .ok (.enter 35 args) w:=fun _ _=>by kernel_rfl
theorem cf36:∀ args w,(callFunc 36 args).run Tryz.prog w = .ok (.enter 36 args) w:=fun _ _=>by kernel_rfl
theorem cf37:∀ args w,(callFunc 37 args).run Tryz.prog w = .ok (.enter 37 args) w:=fun _ _=>by kernel_rfl
theorem cf38:∀ args w,(callFunc 38 args).run Tryz.prog w = .ok (.enter 38 args) w:=fun _ _=>by kernel_rfl
theorem cf39:∀ args w,(callFunc 39 args).run Tryz.prog w = .ok (.enter 39 args) w:=fun _ _=>by kernel_rfl
theorem cf40:∀ args w,(callFunc 40 args).run Tryz.prog w = .ok (.enter 40 args) w:=fun _ _=>by kernel_rfl
theorem cf41:∀ args w,(callFunc 41 args).run Tryz.prog w = .ok (.enter 41 args) w:=fun _ _=>by kernel_rfl
theorem cf42:∀ args w,(callFunc 42 args).run Tryz.prog w = .ok (.enter 42 args) w:=fun _ _=>by kernel_rfl
theorem cf43:∀ args w,(callFunc 43 args).run Tryz.prog w = .ok (.enter 43 args) w:=fun _ _=>by kernel_rfl
theorem cf44:∀ args w,(callFunc 44 args).run Tryz.prog w = .ok (.enter 44 args) w:=fun _ _=>by kernel_rfl
theorem cf45:∀ args w,(callFunc 45 args).run Tryz.prog w = .ok (.enter 45 args) w:=fun _ _=>by kernel_rfl
theorem cf46:∀ args w,(callFunc 46 args).run Tryz.prog w = .ok (.enter 46 args) w:=fun _ _=>by kernel_rfl
theorem cf47:∀ args w,(callFunc 47 args).run Tryz.prog w = .ok (.enter 47 args) w:=fun _ _=>by kernel_rfl
theorem cf48:∀ args w,(callFunc 48 args).run Tryz.prog w = .ok (.enter 48 args) w:=fun _ _=>by kernel_rfl
theorem cf49:∀ args w,(callFunc 49 args).run Tryz.prog w = .ok (.enter 49 args) w:=fun _ _=>by kernel_rfl
theorem cf50:∀ args w,(callFunc 50 args).run Tryz.prog w = .ok (.enter 50 args) w:=fun _ _=>by kernel_rfl
theorem cf51:∀ args w,(callFunc 51 args).run Tryz.prog w = .ok (.enter 51 args) w:=fun _ _=>by kernel_rfl
theorem cf52:∀ args w,(callFunc 52 args).run Tryz.prog w = .ok (.enter 52 args) w:=fun _ _=>by kernel_rfl
theorem cf53:∀ args w,(callFunc 53 args).run Tryz.prog w = .ok (.enter 53 args) w:=fun _ _=>by kernel_rfl
theorem cf54:∀ args w,(callFunc 54 args).run Tryz.prog w = .ok (.enter 54 args) w:=fun _ _=>by kernel_rfl
theorem cf55:∀ args w,(callFunc 55 args).run Tryz.prog w = .ok (.enter 55 args) w:=fun _ _=>by kernel_rfl
theorem cf56:∀ args w,(callFunc 56 args).run Tryz.prog w = .ok (.enter 56 args) w:=fun _ _=>by kernel_rfl
theorem cf57:∀ args w,(callFunc 57 args).run Tryz.prog w = .ok (.enter 57 args) w:=fun _ _=>by kernel_rfl
theorem cf58:∀ args w,(callFunc 58 args).run Tryz.prog w = .ok (.enter 58 args) w:=fun _ _=>by kernel_rfl
theorem cf59:∀ args w,(callFunc 59 args).run Tryz.prog w = .ok (.enter 59 args) w:=fun _ _=>by kernel_rfl
theorem cf60:∀ args w,(callFunc 60 args).run Tryz.prog w = .ok (.enter 60 args) w:=fun _ _=>by kernel_rfl
theorem cf61:∀ args w,(callFunc 61 args).run Tryz.prog w = .ok (.enter 61 args) w:=fun _ _=>by kernel_rfl
theorem cf62:∀ args w,(callFunc 62 args).run Tryz.prog w = .ok (.enter 62 args) w:=fun _ _=>by kernel_rfl
theorem cf63:∀ args w,(callFunc 63 args).run Tryz.prog w = .ok (.enter 63 args) w:=fun _ _=>by kernel_rfl
theorem cf64:∀ args w,(callFunc 64 args).run Tryz.prog w = .ok (.enter 64 args) w:=fun _ _=>by kernel_rfl
theorem cf65:∀ args w,(callFunc 65 args).run Tryz.prog w = .ok (.enter 65 args) w:=fun _ _=>by kernel_rfl
theorem cf66:∀ args w,(callFunc 66 args).run Tryz.prog w = .ok (.enter 66 args) w:=fun _ _=>by kernel_rfl
theorem cf67:∀ args w,(callFunc 67 args).run Tryz.prog w = .ok (.enter 67 args) w:=fun _ _=>by kernel_rfl
theorem cf68:∀ args w,(callFunc 68 args).run Tryz.prog w = .ok (.enter 68 args) w:=fun _ _=>by kernel_rfl
theorem cf69:∀ args w,(callFunc 69 args).run Tryz.prog w = .ok (.enter 69 args) w:=fun _ _=>by kernel_rfl
theorem cf70:∀ args w,(callFunc 70 args).run Tryz.prog w = .ok (.enter 70 args) w:=fun _ _=>by kernel_rfl
theorem cf71:∀ args w,(callFunc 71 args).run Tryz.prog w = .ok (.enter 71 args) w:=fun _ _=>by kernel_rfl
theorem cf72:∀ args w,(callFunc 72 args).run Tryz.prog w = .ok (.enter 72 args) w:=fun _ _=>by kernel_rfl
theorem cf73:∀ args w,(callFunc 73 args).run Tryz.prog w = .ok (.enter 73 args) w:=fun _ _=>by kernel_rfl
theorem cf74:∀ args w,(callFunc 74 args).run Tryz.prog w = .ok (.enter 74 args) w:=fun _ _=>by kernel_rfl
theorem cf75:∀ args w,(callFunc 75 args).run Tryz.prog w = .ok (.enter 75 args) w:=fun _ _=>by kernel_rfl
theorem cf76:∀ args w,(callFunc 76 args).run Tryz.prog w = .ok (.enter 76 args) w:=fun _ _=>by kernel_rfl
theorem cf77:∀ args w,(callFunc 77 args).run Tryz.prog w = .ok (.enter 77 args) w:=fun _ _=>by kernel_rfl
theorem cf78:∀ args w,(callFunc 78 args).run Tryz.prog w = .ok (.enter 78 args) w:=fun _ _=>by kernel_rfl
theorem cf79:∀ args w,(callFunc 79 args).run Tryz.prog w = .ok (.enter 79 args) w:=fun _ _=>by kernel_rfl
theorem cf80:∀ args w,(callFunc 80 args).run Tryz.prog w = .ok (.enter 80 args) w:=fun _ _=>by kernel_rfl
theorem cf81:∀ args w,(callFunc 81 args).run Tryz.prog w = .ok (.enter 81 args) w:=fun _ _=>by kernel_rfl
theorem cf82:∀ args w,(callFunc 82 args).run Tryz.prog w = .ok (.enter 82 args) w:=fun _ _=>by kernel_rfl
theorem cf83:∀ args w,(callFunc 83 args).run Tryz.prog w = .ok (.enter 83 args) w:=fun _ _=>by kernel_rfl
theorem cf84:∀ args w,(callFunc 84 args).run Tryz.prog w = .ok (.enter 84 args) w:=fun _ _=>by kernel_rfl
theorem cf85:∀ args w,(callFunc 85 args).run Tryz.prog w = .ok (.enter 85 args) w:=fun _ _=>by kernel_rfl
theorem cf86:∀ args w,(callFunc 86 args).run Tryz.prog w = .ok (.enter 86 args) w:=fun _ _=>by kernel_rfl
theorem cf87:∀ args w,(callFunc 87 args).run Tryz.prog w = .ok (.enter 87 args) w:=fun _ _=>by kernel_rfl
theorem cf88:∀ args w,(callFunc 88 args).run Tryz.prog w = .ok (.enter 88 args) w:=fun _ _=>by kernel_rfl
theorem cf91:∀ args w,(callFunc 91 args).run Tryz.prog w = .ok (.enter 91 args) w:=fun _ _=>by kernel_rfl
theorem cf92:∀ args w,(callFunc 92 args).run Tryz.prog w = .ok (.enter 92 args) w:=fun _ _=>by kernel_rfl
theorem cf93:∀ args w,(callFunc 93 args).run Tryz.prog w = .ok (.enter 93 args) w:=fun _ _=>by kernel_rfl
theorem cf94:∀ args w,(callFunc 94 args).run Tryz.prog w = .ok (.enter 94 args) w:=fun _ _=>by kernel_rfl
theorem cf95:∀ args w,(callFunc 95 args).run Tryz.prog w = .ok (.enter 95 args) w:=fun _ _=>by kernel_rfl
theorem cf96:∀ args w,(callFunc 96 args).run Tryz.prog w = .ok (.enter 96 args) w:=fun _ _=>by kernel_rfl
theorem cf105:∀ args w,(callFunc 105 args).run Tryz.prog w = .ok (.enter 105 args) w:=fun _ _=>by kernel_rfl
theorem cf106:∀ args w,(callFunc 106 args).run Tryz.prog w = .ok (.enter 106 args) w:=fun _ _=>by kernel_rfl
theorem cf107:∀ args w,(callFunc 107 args).run Tryz.prog w = .ok (.enter 107 args) w:=fun _ _=>by kernel_rfl
theorem cf108:∀ args w,(callFunc 108 args).run Tryz.prog w = .ok (.enter 108 args) w:=fun _ _=>by kernel_rfl
theorem cf110:∀ args w,(callFunc 110 args).run Tryz.prog w = .ok (.enter 110 args) w:=fun _ _=>by kernel_rfl
theorem cf111:∀ args w,(callFunc 111 args).run Tryz.prog w = .ok (.enter 111 args) w:=fun _ _=>by kernel_rfl
theorem cf112:∀ args w,(callFunc 112 args).run Tryz.prog w = .ok (.enter 112 args) w:=fun _ _=>by kernel_rfl
theorem cf113:∀ args w,(callFunc 113 args).run Tryz.prog w = .ok (.enter 113 args) w:=fun _ _=>by kernel_rfl
theorem cf114:∀ args w,(callFunc 114 args).run Tryz.prog w = .ok (.enter 114 args) w:=fun _ _=>by kernel_rfl
theorem cf115:∀ args w,(callFunc 115 args).run Tryz.prog w = .ok (.enter 115 args) w:=fun _ _=>by kernel_rfl
theorem cf116:∀ args w,(callFunc 116 args).run Tryz.prog w = .ok (.enter 116 args) w:=fun _ _=>by kernel_rfl
theorem cf117:∀ args w,(callFunc 117 args).run Tryz.prog w = .ok (.enter 117 args) w:=fun _ _=>by kernel_rfl
theorem cf118:∀ args w,(callFunc 118 args).run Tryz.prog w = .ok (.enter 118 args) w:=fun _ _=>by kernel_rfl
theorem cf119:∀ args w,(callFunc 119 args).run Tryz.prog w = .ok (.enter 119 args) w:=fun _ _=>by kernel_rfl
theorem cf120:∀ args w,(callFunc 120 args).run Tryz.prog w = .ok (.enter 120 args) w:=fun _ _=>by kernel_rfl
theorem cf121:∀ args w,(callFunc 121 args).run Tryz.prog w = .ok (.enter 121 args) w:=fun _ _=>by kernel_rfl
theorem cf124:∀ args w,(callFunc 124 args).run Tryz.prog w = .ok (.enter 124 args) w:=fun _ _=>by kernel_rfl
theorem cf125:∀ args w,(callFunc 125 args).run Tryz.prog w = .ok (.enter 125 args) w:=fun _ _=>by kernel_rfl
theorem cf126:∀ args w,(callFunc 126 args).run Tryz.prog w = .ok (.enter 126 args) w:=fun _ _=>by kernel_rfl
theorem cf127:∀ args w,(callFunc 127 args).run Tryz.prog w = .ok (.enter 127 args) w:=fun _ _=>by kernel_rfl
theorem cf128:∀ args w,(callFunc 128 args).run Tryz.prog w = .ok (.enter 128 args) w:=fun _ _=>by kernel_rfl
theorem cf135:∀ args w,(callFunc 135 args).run Tryz.prog w = .ok (.enter 135 args) w:=fun _ _=>by kernel_rfl
theorem cf136:∀ args w,(callFunc 136 args).run Tryz.prog w = .ok (.enter 136 args) w:=fun _ _=>by kernel_rfl
theorem cf138:∀ args w,(callFunc 138 args).run Tryz.prog w = .ok (.enter 138 args) w:=fun _ _=>by kernel_rfl
theorem cf139:∀ args w,(callFunc 139 args).run Tryz.prog w = .ok (.enter 139 args) w:=fun _ _=>by kernel_rfl
theorem cf140:∀ args w,(callFunc 140 args).run Tryz.prog w = .ok (.enter 140 args) w:=fun _ _=>by kernel_rfl
theorem cf141:∀ args w,(callFunc 141 args).run Tryz.prog w = .ok (.enter 141 args) w:=fun _ _=>by kernel_rfl
theorem cf142:∀ args w,(callFunc 142 args).run Tryz.prog w = .ok (.enter 142 args) w:=fun _ _=>by kernel_rfl
theorem cf143:∀ args w,(callFunc 143 args).run Tryz.prog w = .ok (.enter 143 args) w:=fun _ _=>by kernel_rfl
theorem cf144:∀ args w,(callFunc 144 args).run Tryz.prog w = .ok (.enter 144 args) w:=fun _ _=>by kernel_rfl
theorem cf145:∀ args w,(callFunc 145 args).run Tryz.prog w = .ok (.enter 145 args) w:=fun _ _=>by kernel_rfl
theorem cf146:∀ args w,(callFunc 146 args).run Tryz.prog w = .ok (.enter 146 args) w:=fun _ _=>by kernel_rfl
theorem cf148:∀ args w,(callFunc 148 args).run Tryz.prog w = .ok (.enter 148 args) w:=fun _ _=>by kernel_rfl
theorem cf149:∀ args w,(callFunc 149 args).run Tryz.prog w = .ok (.enter 149 args) w:=fun _ _=>by kernel_rfl
theorem cf172:∀ args w,(callFunc 172 args).run Tryz.prog w = .ok (.enter 172 args) w:=fun _ _=>by kernel_rfl
theorem cf173:∀ args w,(callFunc 173 args).run Tryz.prog w = .ok (.enter 173 args) w:=fun _ _=>by kernel_rfl
theorem cf174:∀ args w,(callFunc 174 args).run Tryz.prog w = .ok (.enter 174 args) w:=fun _ _=>by kernel_rfl
theorem cf175:∀ args w,(callFunc 175 args).run Tryz.prog w = .ok (.enter 175 args) w:=fun _ _=>by kernel_rfl
theorem cf176:∀ args w,(callFunc 176 args).run Tryz.prog w = .ok (.enter 176 args) w:=fun _ _=>by kernel_rfl
theorem cf177:∀ args w,(callFunc 177 args).run Tryz.prog w = .ok (.enter 177 args) w:=fun _ _=>by kernel_rfl
theorem cf178:∀ args w,(callFunc 178 args).run Tryz.prog w = .ok (.enter 178 args) w:=fun _ _=>by kernel_rfl
theorem cf193:∀ args w,(callFunc 193 args).run Tryz.prog w = .ok (.enter 193 args) w:=fun _ _=>by kernel_rfl
theorem cf194:∀ args w,(callFunc 194 args).run Tryz.prog w = .ok (.enter 194 args) w:=fun _ _=>by kernel_rfl
theorem cf195:∀ args w,(callFunc 195 args).run Tryz.prog w = .ok (.enter 195 args) w:=fun _ _=>by kernel_rfl
end Go.Proofs.YtlkpfhdlfapfhaaGreatDoor
