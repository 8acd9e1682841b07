/- Facts on the types and functions. Written by program. -/
import Derived.Test.YtmocokkjfgfkbadGreatDoorProg
import Derived.KernelRfl
import Derived.Test.YtmocokkjfgfkbadGreatDoorM
namespace Go.Proofs.YtmocokkjfgfkbadGreatDoor
open Go Go.J Go.G
set_option linter.unusedSimpArgs false
theorem ty3:TyF Tryz.prog 3 false 1 8 [.int .i64 0]:=TyF.mk' (z:=.int .i64 0) Tryz.underlying3 rfl (by kernel_rfl) rfl
def R3:Rep Int:=⟨3,1,8,fun x=>[.int .i64 x],fun _=>rfl,fun x u hu=>by simp only [List.mem_cons,List.mem_nil_iff,or_false] at hu; rcases hu with rfl <;> rfl,by decide⟩
theorem ty4:TyF Tryz.prog 4 false 1 1 [.bool false]:=TyF.mk' (z:=.bool false) Tryz.underlying4 rfl (by kernel_rfl) rfl
def R4:Rep Bool:=⟨4,1,1,fun x=>[.bool x],fun _=>rfl,fun x u hu=>by simp only [List.mem_cons,List.mem_nil_iff,or_false] at hu; rcases hu with rfl <;> rfl,by decide⟩
theorem ty9:TyF Tryz.prog 9 false 1 16 [.string ByteArray.empty]:=TyF.mk' (z:=.string ByteArray.empty) Tryz.underlying9 rfl (by kernel_rfl) rfl
def R9:Rep ByteArray:=⟨9,1,16,fun x=>[.string x],fun _=>rfl,fun x u hu=>by simp only [List.mem_cons,List.mem_nil_iff,or_false] at hu; rcases hu with rfl <;> rfl,by decide⟩
theorem ty22:TyF Tryz.prog 22 false 1 24 [.slice none 0 0]:=TyF.mk' (z:=.slice none 0 0) Tryz.underlying22 rfl (by kernel_rfl) rfl
theorem ty23:TyF Tryz.prog 23 false 1 8 [.pointer none]:=TyF.mk' (z:=.pointer none) Tryz.underlying23 rfl (by kernel_rfl) rfl
theorem ty25:TyF Tryz.prog 25 true 2 32 [.slice none 0 0,.int .i64 0]:=TyF.mk' (z:=.agg #[.slice none 0 0,.int .i64 0]) Tryz.underlying25 rfl (by kernel_rfl) rfl
theorem ty28:TyF Tryz.prog 28 false 1 24 [.slice none 0 0]:=TyF.mk' (z:=.slice none 0 0) Tryz.underlying28 rfl (by kernel_rfl) rfl
theorem ty29:TyF Tryz.prog 29 false 1 24 [.slice none 0 0]:=TyF.mk' (z:=.slice none 0 0) Tryz.underlying29 rfl (by kernel_rfl) rfl
theorem ty32:TyF Tryz.prog 32 false 1 8 [.int .i64 0]:=TyF.mk' (z:=.int .i64 0) Tryz.underlying32 rfl (by kernel_rfl) rfl
def R32:Rep Int:=⟨32,1,8,fun x=>[.int .i64 x],fun _=>rfl,fun x u hu=>by simp only [List.mem_cons,List.mem_nil_iff,or_false] at hu; rcases hu with rfl <;> rfl,by decide⟩
theorem ty37:TyF Tryz.prog 37 false 1 24 [.slice none 0 0]:=TyF.mk' (z:=.slice none 0 0) Tryz.underlying37 rfl (by kernel_rfl) rfl
theorem ty39:TyF Tryz.prog 39 true 6 80 [.string ByteArray.empty,.int .i64 0,.int .i64 0,.string ByteArray.empty,.int .i64 0,.slice none 0 0]:=TyF.mk' (z:=.agg #[.string ByteArray.empty,.int .i64 0,.int .i64 0,.string ByteArray.empty,.int .i64 0,.slice none 0 0]) Tryz.underlying39 rfl (by kernel_rfl) rfl
theorem ty50:TyF Tryz.prog 50 true 5 40 [.int .i64 0,.int .i64 0,.int .i64 0,.int .i64 0,.bool false]:=TyF.mk' (z:=.agg #[.int .i64 0,.int .i64 0,.int .i64 0,.int .i64 0,.bool false]) Tryz.underlying50 rfl (by kernel_rfl) rfl
def R50:Rep TBar:=⟨50,5,40,fun x=>[.int .i64 x.Beats,.int .i64 x.Unit,.int .i64 x.Close,.int .i64 x.Ending,.bool x.Open],fun _=>rfl,fun x u hu=>by simp only [List.mem_cons,List.mem_nil_iff,or_false] at hu; rcases hu with rfl | rfl | rfl | rfl | rfl <;> rfl,by decide⟩
theorem ty54:TyF Tryz.prog 54 false 1 8 [.map none]:=TyF.mk' (z:=.map none) Tryz.underlying54 rfl (by kernel_rfl) rfl
theorem ty59:TyF Tryz.prog 59 true 2 16 [.int .i64 0,.int .i64 0]:=TyF.mk' (z:=.agg #[.int .i64 0,.int .i64 0]) Tryz.underlying59 rfl (by kernel_rfl) rfl
def R59:Rep TFraction:=⟨59,2,16,fun x=>[.int .i64 x.Num,.int .i64 x.Den],fun _=>rfl,fun x u hu=>by simp only [List.mem_cons,List.mem_nil_iff,or_false] at hu; rcases hu with rfl | rfl <;> rfl,by decide⟩
theorem ty61:TyF Tryz.prog 61 true 5 48 [.int .i64 0,.int .i64 0,.int .i64 0,.string ByteArray.empty,.bool false]:=TyF.mk' (z:=.agg #[.int .i64 0,.int .i64 0,.int .i64 0,.string ByteArray.empty,.bool false]) Tryz.underlying61 rfl (by kernel_rfl) rfl
def R61:Rep TTone:=⟨61,5,48,fun x=>[.int .i64 x.Note,.int .i64 x.Long.Num,.int .i64 x.Long.Den,.string x.Text,.bool x.Tied],fun _=>rfl,fun x u hu=>by simp only [List.mem_cons,List.mem_nil_iff,or_false] at hu; rcases hu with rfl | rfl | rfl | rfl | rfl <;> rfl,by decide⟩
theorem ty76:TyF Tryz.prog 76 true 3 24 [.int .i64 0,.int .i64 0,.int .i64 0]:=TyF.mk' (z:=.agg #[.int .i64 0,.int .i64 0,.int .i64 0]) Tryz.underlying76 rfl (by kernel_rfl) rfl
def R76:Rep TChord:=⟨76,3,24,fun x=>[.int .i64 x.Root,.int .i64 x.Kind,.int .i64 x.Turn],fun _=>rfl,fun x u hu=>by simp only [List.mem_cons,List.mem_nil_iff,or_false] at hu; rcases hu with rfl | rfl | rfl <;> rfl,by decide⟩
theorem ty80:TyF Tryz.prog 80 true 3 32 [.int .i64 0,.string ByteArray.empty,.bool false]:=TyF.mk' (z:=.agg #[.int .i64 0,.string ByteArray.empty,.bool false]) Tryz.underlying80 rfl (by kernel_rfl) rfl
def R80:Rep TCame:=⟨80,3,32,fun x=>[.int .i64 x.At,.string x.Singer,.bool x.Left],fun _=>rfl,fun x u hu=>by simp only [List.mem_cons,List.mem_nil_iff,or_false] at hu; rcases hu with rfl | rfl | rfl <;> rfl,by decide⟩
theorem ty85:TyF Tryz.prog 85 true 4 64 [.string ByteArray.empty,.string ByteArray.empty,.int .i64 0,.slice none 0 0]:=TyF.mk' (z:=.agg #[.string ByteArray.empty,.string ByteArray.empty,.int .i64 0,.slice none 0 0]) Tryz.underlying85 rfl (by kernel_rfl) rfl
theorem ty86:TyF Tryz.prog 86 false 1 24 [.slice none 0 0]:=TyF.mk' (z:=.slice none 0 0) Tryz.underlying86 rfl (by kernel_rfl) rfl
theorem ty88:TyF Tryz.prog 88 true 5 56 [.slice none 0 0,.int .i64 0,.int .i64 0,.int .i64 0,.int .i64 0]:=TyF.mk' (z:=.agg #[.slice none 0 0,.int .i64 0,.int .i64 0,.int .i64 0,.int .i64 0]) Tryz.underlying88 rfl (by kernel_rfl) rfl
theorem ty91:TyF Tryz.prog 91 true 10 112 [.string ByteArray.empty,.int .i64 0,.int .i64 0,.int .i64 0,.string ByteArray.empty,.string ByteArray.empty,.int .i64 0,.bool false,.string ByteArray.empty,.int .i64 0]:=TyF.mk' (z:=.agg #[.string ByteArray.empty,.int .i64 0,.int .i64 0,.int .i64 0,.string ByteArray.empty,.string ByteArray.empty,.int .i64 0,.bool false,.string ByteArray.empty,.int .i64 0]) Tryz.underlying91 rfl (by kernel_rfl) rfl
def R91:Rep TAct:=⟨91,10,112,fun x=>[.string x.Site,.int .i64 x.No,.int .i64 x.At,.int .i64 x.Kind,.string x.Who,.string x.Motion,.int .i64 x.Cents,.bool x.Yes,.string x.Of,.int .i64 x.Other],fun _=>rfl,fun x u hu=>by simp only [List.mem_cons,List.mem_nil_iff,or_false] at hu; rcases hu with rfl | rfl | rfl | rfl | rfl | rfl | rfl | rfl | rfl | rfl <;> rfl,by decide⟩
theorem ty92:TyF Tryz.prog 92 false 1 24 [.slice none 0 0]:=TyF.mk' (z:=.slice none 0 0) Tryz.underlying92 rfl (by kernel_rfl) rfl
theorem ty97:TyF Tryz.prog 97 true 2 24 [.string ByteArray.empty,.int .i64 0]:=TyF.mk' (z:=.agg #[.string ByteArray.empty,.int .i64 0]) Tryz.underlying97 rfl (by kernel_rfl) rfl
def R97:Rep Tpiece_own:=⟨97,2,24,fun x=>[.string x.by_,.int .i64 x.no],fun _=>rfl,fun x u hu=>by simp only [List.mem_cons,List.mem_nil_iff,or_false] at hu; rcases hu with rfl | rfl <;> rfl,by decide⟩
theorem ty121:TyF Tryz.prog 121 false 1 8 [.map none]:=TyF.mk' (z:=.map none) Tryz.underlying121 rfl (by kernel_rfl) rfl
theorem ty127:TyF Tryz.prog 127 true 2 16 [.int .i64 0,.int .i64 0]:=TyF.mk' (z:=.agg #[.int .i64 0,.int .i64 0]) Tryz.underlying127 rfl (by kernel_rfl) rfl
def R127:Rep TWindow:=⟨127,2,16,fun x=>[.int .i64 x.From,.int .i64 x.To],fun _=>rfl,fun x u hu=>by simp only [List.mem_cons,List.mem_nil_iff,or_false] at hu; rcases hu with rfl | rfl <;> rfl,by decide⟩
theorem ty166:TyF Tryz.prog 166 false 1 8 [.map none]:=TyF.mk' (z:=.map none) Tryz.underlying166 rfl (by kernel_rfl) rfl
theorem ty168:TyF Tryz.prog 168 false 1 8 [.map none]:=TyF.mk' (z:=.map none) Tryz.underlying168 rfl (by kernel_rfl) rfl
theorem ty170:TyF Tryz.prog 170 true 5 56 [.int .i64 0,.map none,.map none,.map none,.slice none 0 0]:=TyF.mk' (z:=.agg #[.int .i64 0,.map none,.map none,.map none,.slice none 0 0]) Tryz.underlying170 rfl (by kernel_rfl) rfl
theorem ty184:TyF Tryz.prog 184 true 3 24 [.int .i64 0,.int .i64 0,.int .i64 0]:=TyF.mk' (z:=.agg #[.int .i64 0,.int .i64 0,.int .i64 0]) Tryz.underlying184 rfl (by kernel_rfl) rfl
def R184:Rep Tpiece_repeat:=⟨184,3,24,fun x=>[.int .i64 x.from_,.int .i64 x.to_,.int .i64 x.times],fun _=>rfl,fun x u hu=>by simp only [List.mem_cons,List.mem_nil_iff,or_false] at hu; rcases hu with rfl | rfl | rfl <;> rfl,by decide⟩
theorem ty201:TyF Tryz.prog 201 true 3 24 [.int .i64 0,.int .i64 0,.int .i64 0]:=TyF.mk' (z:=.agg #[.int .i64 0,.int .i64 0,.int .i64 0]) Tryz.underlying201 rfl (by kernel_rfl) rfl
def R201:Rep Tclub_stay:=⟨201,3,24,fun x=>[.int .i64 x.since,.int .i64 x.till,.int .i64 x.cents],fun _=>rfl,fun x u hu=>by simp only [List.mem_cons,List.mem_nil_iff,or_false] at hu; rcases hu with rfl | rfl | rfl <;> rfl,by decide⟩
theorem ty233:TyF Tryz.prog 233 false 1 8 [.map none]:=TyF.mk' (z:=.map none) Tryz.underlying233 rfl (by kernel_rfl) rfl
theorem ty235:TyF Tryz.prog 235 true 2 24 [.string ByteArray.empty,.int .i64 0]:=TyF.mk' (z:=.agg #[.string ByteArray.empty,.int .i64 0]) Tryz.underlying235 rfl (by kernel_rfl) rfl
def R235:Rep Tclub_own:=⟨235,2,24,fun x=>[.string x.site,.int .i64 x.no],fun _=>rfl,fun x u hu=>by simp only [List.mem_cons,List.mem_nil_iff,or_false] at hu; rcases hu with rfl | rfl <;> rfl,by decide⟩
theorem ty242:TyF Tryz.prog 242 true 3 40 [.bool false,.map none,.slice none 0 0]:=TyF.mk' (z:=.agg #[.bool false,.map none,.slice none 0 0]) Tryz.underlying242 rfl (by kernel_rfl) rfl
theorem ty255:TyF Tryz.prog 255 true 5 5 [.bool false,.bool false,.bool false,.bool false,.bool false]:=TyF.mk' (z:=.agg #[.bool false,.bool false,.bool false,.bool false,.bool false]) Tryz.underlying255 rfl (by kernel_rfl) rfl
def R255:Rep Tclub_uses:=⟨255,5,5,fun x=>[.bool x.who,.bool x.motion,.bool x.cents,.bool x.yes,.bool x.undo],fun _=>rfl,fun x u hu=>by simp only [List.mem_cons,List.mem_nil_iff,or_false] at hu; rcases hu with rfl | rfl | rfl | rfl | rfl <;> rfl,by decide⟩
def N22:Nst (List Int) SV:=⟨⟨22,1,24,fun p=>[p.2.v],fun _=>rfl,fun p u hu=>by simp only [List.mem_cons,List.mem_nil_iff,or_false] at hu; rcases hu with rfl <;> rfl,by decide⟩,fun p w=>RdS R3 (SV.v p.2) p.1 w⟩
def N39:Nst TEdit SV:=⟨⟨39,6,80,fun p=>[.string p.1.By,.int .i64 p.1.No,.int .i64 p.1.At,.string p.1.Part,.int .i64 p.1.Bar,p.2.v],fun _=>rfl,fun p u hu=>by simp only [List.mem_cons,List.mem_nil_iff,or_false] at hu; rcases hu with rfl | rfl | rfl | rfl | rfl | rfl <;> rfl,by decide⟩,fun p w=>RdS R61 (SV.v p.2) p.1.Tones w⟩
def N29:Nst (List TEdit) (SV × List (TEdit × SV)):=⟨⟨29,1,24,fun p=>[p.2.1.v],fun _=>rfl,fun p u hu=>by simp only [List.mem_cons,List.mem_nil_iff,or_false] at hu; rcases hu with rfl <;> rfl,by decide⟩,fun p w=>RdS N39.R (SV.v p.2.1) p.2.2 w∧Lk N39 p.1 p.2.2 w⟩
def N37:Nst (List TTone) SV:=⟨⟨37,1,24,fun p=>[p.2.v],fun _=>rfl,fun p u hu=>by simp only [List.mem_cons,List.mem_nil_iff,or_false] at hu; rcases hu with rfl <;> rfl,by decide⟩,fun p w=>RdS R61 (SV.v p.2) p.1 w⟩
def N85:Nst TItem SV:=⟨⟨85,4,64,fun p=>[.string p.1.Key,.string p.1.Places,.int .i64 p.1.Long,p.2.v],fun _=>rfl,fun p u hu=>by simp only [List.mem_cons,List.mem_nil_iff,or_false] at hu; rcases hu with rfl | rfl | rfl | rfl <;> rfl,by decide⟩,fun p w=>RdS R9 (SV.v p.2) p.1.Parts w⟩
theorem eqst59_ (d:Nat) (x y:TFraction):EqV Tryz.prog (d+2) 59 (.agg (R59.enc x).toArray) (.agg (R59.enc y).toArray) (decide (x=y)):=by
  have h:((x.Num==y.Num)&&((x.Den==y.Den)&&true))=decide (x=y):=by rw [Bool.eq_iff_iff]; cases x; cases y; simp [ba_beq]
  rw [← h]
  exact eqv_struct Tryz.underlying59 (by kernel_rfl) (eqf_cons (.int .i64 x.Num) (.int .i64 y.Num) (by decide) (fun _=>by kernel_rfl) (fun _=>by kernel_rfl) (eqv_int Tryz.underlying3 _ _) (eqf_cons (.int .i64 x.Den) (.int .i64 y.Den) (by decide) (fun _=>by kernel_rfl) (fun _=>by kernel_rfl) (eqv_int Tryz.underlying3 _ _) eqf_nil))
theorem eqst59 (x y:TFraction):EqV Tryz.prog 10000 59 (.agg (R59.enc x).toArray) (.agg (R59.enc y).toArray) (decide (x=y)):=eqst59_ 9998 x y
theorem eqst61_ (d:Nat) (x y:TTone):EqV Tryz.prog (d+3) 61 (.agg (R61.enc x).toArray) (.agg (R61.enc y).toArray) (decide (x=y)):=by
  have h:((x.Note==y.Note)&&((decide (x.Long=y.Long))&&((x.Text==y.Text)&&((x.Tied==y.Tied)&&true))))=decide (x=y):=by rw [Bool.eq_iff_iff]; cases x; cases y; simp [ba_beq]
  rw [← h]
  exact eqv_struct Tryz.underlying61 (by kernel_rfl) (eqf_cons (.int .i64 x.Note) (.int .i64 y.Note) (by decide) (fun _=>by kernel_rfl) (fun _=>by kernel_rfl) (eqv_int Tryz.underlying3 _ _) (eqf_cons (.agg (R59.enc x.Long).toArray) (.agg (R59.enc y.Long).toArray) (by decide) (fun _=>by kernel_rfl) (fun _=>by kernel_rfl) (eqst59_ _ x.Long y.Long) (eqf_cons (.string x.Text) (.string y.Text) (by decide) (fun _=>by kernel_rfl) (fun _=>by kernel_rfl) (eqv_str Tryz.underlying9 _ _) (eqf_cons (.bool x.Tied) (.bool y.Tied) (by decide) (fun _=>by kernel_rfl) (fun _=>by kernel_rfl) (eqv_bool Tryz.underlying4 _ _) eqf_nil))))
theorem eqst61 (x y:TTone):EqV Tryz.prog 10000 61 (.agg (R61.enc x).toArray) (.agg (R61.enc y).toArray) (decide (x=y)):=eqst61_ 9997 x y
theorem eqst97_ (d:Nat) (x y:Tpiece_own):EqV Tryz.prog (d+2) 97 (.agg (R97.enc x).toArray) (.agg (R97.enc y).toArray) (decide (x=y)):=by
  have h:((x.by_==y.by_)&&((x.no==y.no)&&true))=decide (x=y):=by rw [Bool.eq_iff_iff]; cases x; cases y; simp [ba_beq]
  rw [← h]
  exact eqv_struct Tryz.underlying97 (by kernel_rfl) (eqf_cons (.string x.by_) (.string y.by_) (by decide) (fun _=>by kernel_rfl) (fun _=>by kernel_rfl) (eqv_str Tryz.underlying9 _ _) (eqf_cons (.int .i64 x.no) (.int .i64 y.no) (by decide) (fun _=>by kernel_rfl) (fun _=>by kernel_rfl) (eqv_int Tryz.underlying3 _ _) eqf_nil))
theorem eqst97 (x y:Tpiece_own):EqV Tryz.prog 10000 97 (.agg (R97.enc x).toArray) (.agg (R97.enc y).toArray) (decide (x=y)):=eqst97_ 9998 x y
theorem eqst235_ (d:Nat) (x y:Tclub_own):EqV Tryz.prog (d+2) 235 (.agg (R235.enc x).toArray) (.agg (R235.enc y).toArray) (decide (x=y)):=by
  have h:((x.site==y.site)&&((x.no==y.no)&&true))=decide (x=y):=by rw [Bool.eq_iff_iff]; cases x; cases y; simp [ba_beq]
  rw [← h]
  exact eqv_struct Tryz.underlying235 (by kernel_rfl) (eqf_cons (.string x.site) (.string y.site) (by decide) (fun _=>by kernel_rfl) (fun _=>by kernel_rfl) (eqv_str Tryz.underlying9 _ _) (eqf_cons (.int .i64 x.no) (.int .i64 y.no) (by decide) (fun _=>by kernel_rfl) (fun _=>by kernel_rfl) (eqv_int Tryz.underlying3 _ _) eqf_nil))
theorem eqst235 (x y:Tclub_own):EqV Tryz.prog 10000 235 (.agg (R235.enc x).toArray) (.agg (R235.enc y).toArray) (decide (x=y)):=eqst235_ 9998 x y
@[reducible] def vv3:Int→Value:=fun x=>.int .i64 x
@[reducible] def vv4:Bool→Value:=fun x=>.bool x
@[reducible] def kv9:ByteArray→Value:=fun x=>.string x
theorem keyF9:KeyF Tryz.prog 9 kv9:=keyF_str Tryz.underlying9
@[reducible] def kv97:Tpiece_own→Value:=fun x=>.agg (R97.enc x).toArray
theorem keyF97:KeyF Tryz.prog 97 kv97:=keyF_agg Tryz.underlying97 (fun _ _ _=>by kernel_rfl) eqst97 (fun k v hv=>by simp only [R97,List.mem_cons,List.not_mem_nil,or_false] at hv; rcases hv with rfl | rfl <;> simp [Instr.sameBits,ba_dec])
@[reducible] def kv235:Tclub_own→Value:=fun x=>.agg (R235.enc x).toArray
theorem keyF235:KeyF Tryz.prog 235 kv235:=keyF_agg Tryz.underlying235 (fun _ _ _=>by kernel_rfl) eqst235 (fun k v hv=>by simp only [R235,List.mem_cons,List.not_mem_nil,or_false] at hv; rcases hv with rfl | rfl <;> simp [Instr.sameBits,ba_dec])
@[reducible] def vvd39:TEdit × SV→Value:=fun p=>.agg #[.string p.1.By,.int .i64 p.1.No,.int .i64 p.1.At,.string p.1.Part,.int .i64 p.1.Bar,p.2.v]
@[reducible] def Fh240:(Nat × Nat × Array MapEntry × Nat × SV)→Nat:=fun q=>q.1
def Fe240:(Bool × (List (ByteArray × Bool)) × (List ByteArray))→(Nat × Nat × Array MapEntry × Nat × SV)→List Ent:=fun t q=>[.box q.1 242 [.bool t.1,.map (some q.2.1),q.2.2.2.2.v],.obj (mapO kv9 q.2.1 (mpV vv4 t.2.1) q.2.2.1 q.2.2.2.1),.row R9 (SV.v q.2.2.2.2) t.2.2]
theorem fro240:∀ t q F,Ent.ro F∉Fe240 t q:=by intro t q F h; simp [Fe240] at h
theorem fl25_0:FldF Tryz.prog 25 0 0:=fun _ _=>by kernel_rfl
theorem fl25_1:FldF Tryz.prog 25 1 1:=fun _ _=>by kernel_rfl
theorem fl39_0:FldF Tryz.prog 39 0 0:=fun _ _=>by kernel_rfl
theorem fl39_1:FldF Tryz.prog 39 1 1:=fun _ _=>by kernel_rfl
theorem fl39_2:FldF Tryz.prog 39 2 2:=fun _ _=>by kernel_rfl
theorem fl39_3:FldF Tryz.prog 39 3 3:=fun _ _=>by kernel_rfl
theorem fl39_4:FldF Tryz.prog 39 4 4:=fun _ _=>by kernel_rfl
theorem fl39_5:FldF Tryz.prog 39 5 5:=fun _ _=>by kernel_rfl
theorem fl50_0:FldF Tryz.prog 50 0 0:=fun _ _=>by kernel_rfl
theorem fl50_1:FldF Tryz.prog 50 1 1:=fun _ _=>by kernel_rfl
theorem fl50_2:FldF Tryz.prog 50 2 2:=fun _ _=>by kernel_rfl
theorem fl50_3:FldF Tryz.prog 50 3 3:=fun _ _=>by kernel_rfl
theorem fl50_4:FldF Tryz.prog 50 4 4:=fun _ _=>by kernel_rfl
theorem fl59_0:FldF Tryz.prog 59 0 0:=fun _ _=>by kernel_rfl
theorem fl59_1:FldF Tryz.prog 59 1 1:=fun _ _=>by kernel_rfl
theorem fl61_0:FldF Tryz.prog 61 0 0:=fun _ _=>by kernel_rfl
theorem fl61_1:FldF Tryz.prog 61 1 1:=fun _ _=>by kernel_rfl
theorem fl61_2:FldF Tryz.prog 61 2 3:=fun _ _=>by kernel_rfl
theorem fl61_3:FldF Tryz.prog 61 3 4:=fun _ _=>by kernel_rfl
theorem fl76_0:FldF Tryz.prog 76 0 0:=fun _ _=>by kernel_rfl
theorem fl76_1:FldF Tryz.prog 76 1 1:=fun _ _=>by kernel_rfl
theorem fl76_2:FldF Tryz.prog 76 2 2:=fun _ _=>by kernel_rfl
theorem fl80_0:FldF Tryz.prog 80 0 0:=fun _ _=>by kernel_rfl
theorem fl80_1:FldF Tryz.prog 80 1 1:=fun _ _=>by kernel_rfl
theorem fl80_2:FldF Tryz.prog 80 2 2:=fun _ _=>by kernel_rfl
theorem fl85_0:FldF Tryz.prog 85 0 0:=fun _ _=>by kernel_rfl
theorem fl85_1:FldF Tryz.prog 85 1 1:=fun _ _=>by kernel_rfl
theorem fl85_2:FldF Tryz.prog 85 2 2:=fun _ _=>by kernel_rfl
theorem fl85_3:FldF Tryz.prog 85 3 3:=fun _ _=>by kernel_rfl
theorem fl88_0:FldF Tryz.prog 88 0 0:=fun _ _=>by kernel_rfl
theorem fl88_1:FldF Tryz.prog 88 1 1:=fun _ _=>by kernel_rfl
theorem fl88_2:FldF Tryz.prog 88 2 2:=fun _ _=>by kernel_rfl
theorem fl88_3:FldF Tryz.prog 88 3 3:=fun _ _=>by kernel_rfl
theorem fl88_4:FldF Tryz.prog 88 4 4:=fun _ _=>by kernel_rfl
theorem fl91_0:FldF Tryz.prog 91 0 0:=fun _ _=>by kernel_rfl
theorem fl91_1:FldF Tryz.prog 91 1 1:=fun _ _=>by kernel_rfl
theorem fl91_2:FldF Tryz.prog 91 2 2:=fun _ _=>by kernel_rfl
theorem fl91_3:FldF Tryz.prog 91 3 3:=fun _ _=>by kernel_rfl
theorem fl91_4:FldF Tryz.prog 91 4 4:=fun _ _=>by kernel_rfl
theorem fl91_5:FldF Tryz.prog 91 5 5:=fun _ _=>by kernel_rfl
theorem fl91_6:FldF Tryz.prog 91 6 6:=fun _ _=>by kernel_rfl
theorem fl91_7:FldF Tryz.prog 91 7 7:=fun _ _=>by kernel_rfl
theorem fl91_8:FldF Tryz.prog 91 8 8:=fun _ _=>by kernel_rfl
theorem fl91_9:FldF Tryz.prog 91 9 9:=fun _ _=>by kernel_rfl
theorem fl127_0:FldF Tryz.prog 127 0 0:=fun _ _=>by kernel_rfl
theorem fl127_1:FldF Tryz.prog 127 1 1:=fun _ _=>by kernel_rfl
theorem fl170_1:FldF Tryz.prog 170 1 1:=fun _ _=>by kernel_rfl
theorem fl170_2:FldF Tryz.prog 170 2 2:=fun _ _=>by kernel_rfl
theorem fl170_3:FldF Tryz.prog 170 3 3:=fun _ _=>by kernel_rfl
theorem fl170_4:FldF Tryz.prog 170 4 4:=fun _ _=>by kernel_rfl
theorem fl184_0:FldF Tryz.prog 184 0 0:=fun _ _=>by kernel_rfl
theorem fl184_1:FldF Tryz.prog 184 1 1:=fun _ _=>by kernel_rfl
theorem fl184_2:FldF Tryz.prog 184 2 2:=fun _ _=>by kernel_rfl
theorem fl201_1:FldF Tryz.prog 201 1 1:=fun _ _=>by kernel_rfl
theorem fl242_0:FldF Tryz.prog 242 0 0:=fun _ _=>by kernel_rfl
theorem fl242_1:FldF Tryz.prog 242 1 1:=fun _ _=>by kernel_rfl
theorem fl242_2:FldF Tryz.prog 242 2 2:=fun _ _=>by kernel_rfl
theorem fl255_0:FldF Tryz.prog 255 0 0:=fun _ _=>by kernel_rfl
theorem fl255_1:FldF Tryz.prog 255 1 1:=fun _ _=>by kernel_rfl
theorem fl255_2:FldF Tryz.prog 255 2 2:=fun _ _=>by kernel_rfl
theorem fl255_3:FldF Tryz.prog 255 3 3:=fun _ _=>by kernel_rfl
theorem fl255_4:FldF Tryz.prog 255 4 4:=fun _ _=>by kernel_rfl
theorem cf4:∀ args w,(callFunc 4 args).run Tryz.prog w = .ok (.enter 4 args) w:=fun _ _=>by kernel_rfl
theorem cf5:∀ args w,(callFunc 5 args).run Tryz.prog w = .ok (.enter 5 args) w:=fun _ _=>by kernel_rfl
theorem cf6:∀ args w,(callFunc 6 args).run Tryz.prog w = .ok (.enter 6 args) w:=fun _ _=>by kernel_rfl
theorem cf7:∀ args w,(callFunc 7 args).run Tryz.prog w = .ok (.enter 7 args) w:=fun _ _=>by kernel_rfl
theorem cf8:∀ args w,(callFunc 8 args).run Tryz.prog w = .ok (.enter 8 args) w:=fun _ _=>by kernel_rfl
theorem cf9:∀ args w,(callFunc 9 args).run Tryz.prog w = .ok (.enter 9 args) w:=fun _ _=>by kernel_rfl
theorem cf10:∀ args w,(callFunc 10 args).run Tryz.prog w = .ok (.enter 10 args) w:=fun _ _=>by kernel_rfl
theorem cf11:∀ args w,(callFunc 11 args).run Tryz.prog w = .ok (.enter 11 args) w:=fun _ _=>by kernel_rfl
theorem cf12:∀ args w,(callFunc 12 args).run Tryz.prog w = .ok (.enter 12 args) w:=fun _ _=>by kernel_rfl
theorem cf13:∀ args w,(callFunc 13 args).run Tryz.prog w = .ok (.enter 13 args) w:=fun _ _=>by kernel_rfl
theorem cf14:∀ args w,(callFunc 14 args).run Tryz.prog w = .ok (.enter 14 args) w:=fun _ _=>by kernel_rfl
theorem cf15:∀ args w,(callFunc 15 args).run Tryz.prog w = .ok (.enter 15 args) w:=fun _ _=>by kernel_rfl
theorem cf16:∀ args w,(callFunc 16 args).run Tryz.prog w = .ok (.enter 16 args) w:=fun _ _=>by kernel_rfl
theorem cf17:∀ args w,(callFunc 17 args).run Tryz.prog w = .ok (.enter 17 args) w:=fun _ _=>by kernel_rfl
theorem cf18:∀ args w,(callFunc 18 args).run Tryz.prog w = .ok (.enter 18 args) w:=fun _ _=>by kernel_rfl
theorem cf19:∀ args w,(callFunc 19 args).run Tryz.prog w = .ok (.enter 19 args) w:=fun _ _=>by kernel_rfl
theorem cf20:∀ args w,(callFunc 20 args).run Tryz.prog w = .ok (.enter 20 args) w:=fun _ _=>by kernel_rfl
theorem cf21:∀ args w,(callFunc 21 args).run Tryz.prog w = .ok (.enter 21 args) w:=fun _ _=>by kernel_rfl
theorem cf22:∀ args w,(callFunc 22 args).run Tryz.prog w = .ok (.enter 22 args) w:=fun _ _=>by kernel_rfl
theorem cf23:∀ args w,(callFunc 23 args).run Tryz.prog w = .ok (.enter 23 args) w:=fun _ _=>by kernel_rfl
theorem cf24:∀ args w,(callFunc 24 args).run Tryz.prog w = .ok (.enter 24 args) w:=fun _ _=>by kernel_rfl
theorem cf25:∀ args w,(callFunc 25 args).run Tryz.prog w = .ok (.enter 25 args) w:=fun _ _=>by kernel_rfl
theorem cf26:∀ args w,(callFunc 26 args).run Tryz.prog w = .ok (.enter 26 args) w:=fun _ _=>by kernel_rfl
theorem cf27:∀ args w,(callFunc 27 args).run Tryz.prog w = .ok (.enter 27 args) w:=fun _ _=>by kernel_rfl
theorem cf28:∀ args w,(callFunc 28 args).run Tryz.prog w = .ok (.enter 28 args) w:=fun _ _=>by kernel_rfl
theorem cf29:∀ args w,(callFunc 29 args).run Tryz.prog w = .ok (.enter 29 args) w:=fun _ _=>by kernel_rfl
theorem cf30:∀ args w,(callFunc 30 args).run Tryz.prog w = .ok (.enter 30 args) w:=fun _ _=>by kernel_rfl
theorem cf31:∀ args w,(callFunc 31 args).run Tryz.prog w = .ok (.enter 31 args) w:=fun _ _=>by kernel_rfl
theorem cf32:∀ args w,(callFunc 32 args).run Tryz.prog w = .ok (.enter 32 args) w:=fun _ _=>by kernel_rfl
theorem cf33:∀ args w,(callFunc 33 args).run Tryz.prog w = .ok (.enter 33 args) w:=fun _ _=>by kernel_rfl
theorem cf34:∀ args w,(callFunc 34 args).run Tryz.prog w = .ok (.enter 34 args) w:=fun _ _=>by kernel_rfl
theorem cf35:∀ args w,(callFunc 35 args).run Tryz.prog w = .ok (.enter 35 args) w:=fun _ _=>by kernel_rfl
theorem cf36:∀ args w,(callFunc 36 args).run Tryz.prog w = .ok (.enter 36 args) w:=fun _ _=>by kernel_rfl
theorem cf37:∀ args w,(callFunc 37 args).run Tryz.prog w = .ok (.enter 37 args) w:=fun _ _=>by kernel_rfl
theorem cf38:∀ args w,(callFunc 38 args).run Tryz.prog w = .ok (.enter 38 args) w:=fun _ _=>by kernel_rfl
theorem cf39:∀ args w,(callFunc 39 args).run Tryz.prog w = .ok (.enter 39 args) w:=fun _ _=>by kernel_rfl
theorem cf40:∀ args w,(callFunc 40 args).run Tryz.prog w = .ok (.enter 40 args) w:=fun _ _=>by kernel_rfl
theorem cf41:∀ args w,(callFunc 41 args).run Tryz.prog w = .ok (.enter 41 args) w:=fun _ _=>by kernel_rfl
theorem cf42:∀ args w,(callFunc 42 args).run Tryz.prog w = .ok (.enter 42 args) w:=fun _ _=>by kernel_rfl
theorem cf43:∀ args w,(callFunc 43 args).run Tryz.prog w = .ok (.enter 43 args) w:=fun _ _=>by kernel_rfl
theorem cf44:∀ args w,(callFunc 44 args).run Tryz.prog w = .ok (.enter 44 args) w:=fun _ _=>by kernel_rfl
theorem cf45:∀ args w,(callFunc 45 args).run Tryz.prog w = .ok (.enter 45 args) w:=fun _ _=>by kernel_rfl
theorem cf46:∀ args w,(callFunc 46 args).run Tryz.prog w = .ok (.enter 46 args) w:=fun _ _=>by kernel_rfl
theorem cf47:∀ args w,(callFunc 47 args).run Tryz.prog w = .ok (.enter 47 args) w:=fun _ _=>by kernel_rfl
theorem cf48:∀ args w,(callFunc 48 args).run Tryz.prog w = .ok (.enter 48 args) w:=fun _ _=>by kernel_rfl
theorem cf49:∀ args w,(callFunc 49 args).run Tryz.prog w = .ok (.enter 49 args) w:=fun _ _=>by kernel_rfl
theorem cf50:∀ args w,(callFunc 50 args).run Tryz.prog w = .ok (.enter 50 args) w:=fun _ _=>by kernel_rfl
theorem cf51:∀ args w,(callFunc 51 args).run Tryz.prog w = .ok (.enter 51 args) w:=fun _ _=>by kernel_rfl
theorem cf52:∀ args w,(callFunc 52 args).run Tryz.prog w = .ok (.enter 52 args) w:=fun _ _=>by kernel_rfl
theorem cf53:∀ args w,(callFunc 53 args).run Tryz.prog w = .ok (.enter 53 args) w:=fun _ _=>by kernel_rfl
theorem cf54:∀ args w,(callFunc 54 args).run Tryz.prog w = .ok (.enter 54 args) w:=fun _ _=>by kernel_rfl
theorem cf55:∀ args w,(callFunc 55 args).run Tryz.prog w = .ok (.enter 55 args) w:=fun _ _=>by kernel_rfl
theorem cf56:∀ args w,(callFunc 56 args).run Tryz.prog w = .ok (.enter 56 args) w:=fun _ _=>by kernel_rfl
theorem cf57:∀ args w,(callFunc 57 args).run Tryz.prog w = .ok (.enter 57 args) w:=fun _ _=>by kernel_rfl
theorem cf58:∀ args w,(callFunc 58 args).run Tryz.prog w = .ok (.enter 58 args) w:=fun _ _=>by kernel_rfl
theorem cf59:∀ args w,(callFunc 59 args).run Tryz.prog w = .ok (.enter 59 args) w:=fun _ _=>by kernel_rfl
theorem cf60:∀ args w,(callFunc 60 args).run Tryz.prog w = .ok (.enter 60 args) w:=fun _ _=>by kernel_rfl
theorem cf61:∀ args w,(callFunc 61 args).run Tryz.prog w = .ok (.enter 61 args) w:=fun _ _=>by kernel_rfl
theorem cf62:∀ args w,(callFunc 62 args).run Tryz.prog w = .ok (.enter 62 args) w:=fun _ _=>by kernel_rfl
theorem cf63:∀ args w,(callFunc 63 args).run Tryz.prog w = .ok (.enter 63 args) w:=fun _ _=>by kernel_rfl
theorem cf64:∀ args w,(callFunc 64 args).run Tryz.prog w = .ok (.enter 64 args) w:=fun _ _=>by kernel_rfl
theorem cf65:∀ args w,(callFunc 65 args).run Tryz.prog w = .ok (.enter 65 args) w:=fun _ _=>by kernel_rfl
theorem cf66:∀ args w,(callFunc 66 args).run Tryz.prog w = .ok (.enter 66 args) w:=fun _ _=>by kernel_rfl
theorem cf67:∀ args w,(callFunc 67 args).run Tryz.prog w = .ok (.enter 67 args) w:=fun _ _=>by kernel_rfl
theorem cf68:∀ args w,(callFunc 68 args).run Tryz.prog w = .ok (.enter 68 args) w:=fun _ _=>by kernel_rfl
theorem cf69:∀ args w,(callFunc 69 args).run Tryz.prog w = .ok (.enter 69 args) w:=fun _ _=>by kernel_rfl
theorem cf70:∀ args w,(callFunc 70 args).run Tryz.prog w = .ok (.enter 70 args) w:=fun _ _=>by kernel_rfl
theorem cf71:∀ args w,(callFunc 71 args).run Tryz.prog w = .ok (.enter 71 args) w:=fun _ _=>by kernel_rfl
theorem cf72:∀ args w,(callFunc 72 args).run Tryz.prog w = .ok (.enter 72 args) w:=fun _ _=>by kernel_rfl
theorem cf73:∀ args w,(callFunc 73 args).run Tryz.prog w = .ok (.enter 73 args) w:=fun _ _=>by kernel_rfl
theorem cf74:∀ args w,(callFunc 74 args).run Tryz.prog w = .ok (.enter 74 args) w:=fun _ _=>by kernel_rfl
theorem cf75:∀ args w,(callFunc 75 args).run Tryz.prog w = .ok (.enter 75 args) w:=fun _ _=>by kernel_rfl
theorem cf76:∀ args w,(callFunc 76 args).run Tryz.prog w = .ok (.enter 76 args) w:=fun _ _=>by kernel_rfl
theorem cf77:∀ args w,(callFunc 77 args).run Tryz.prog w = .ok (.enter 77 args) w:=fun _ _=>by kernel_rfl
theorem cf78:∀ args w,(callFunc 78 args).run Tryz.prog w = .ok (.enter 78 args) w:=fun _ _=>by kernel_rfl
theorem cf79:∀ args w,(callFunc 79 args).run Tryz.prog w = .ok (.enter 79 args) w:=fun _ _=>by kernel_rfl
theorem cf80:∀ args w,(callFunc 80 args).run Tryz.prog w = .ok (.enter 80 args) w:=fun _ _=>by kernel_rfl
theorem cf81:∀ args w,(callFunc 81 args).run Tryz.prog w = .ok (.enter 81 args) w:=fun _ _=>by kernel_rfl
theorem cf82:∀ args w,(callFunc 82 args).run Tryz.prog w = .ok (.enter 82 args) w:=fun _ _=>by kernel_rfl
theorem cf83:∀ args w,(callFunc 83 args).run Tryz.prog w = .ok (.enter 83 args) w:=fun _ _=>by kernel_rfl
theorem cf84:∀ args w,(callFunc 84 args).run Tryz.prog w = .ok (.enter 84 args) w:=fun _ _=>by kernel_rfl
theorem cf85:∀ args w,(callFunc 85 args).run Tryz.prog w = .ok (.enter 85 args) w:=fun _ _=>by kernel_rfl
theorem cf86:∀ args w,(callFunc 86 args).run Tryz.prog w = .ok (.enter 86 args) w:=fun _ _=>by kernel_rfl
theorem cf87:∀ args w,(callFunc 87 args).run Tryz.prog w = .ok (.enter 87 args) w:=fun _ _=>by kernel_rfl
theorem cf88:∀ args w,(callFunc 88 args).run Tryz.prog w = .ok (.enter 88 args) w:=fun _ _=>by kernel_rfl
theorem cf89:∀ args w,(callFunc 89 args).run Tryz.prog w = .ok (.enter 89 args) w:=fun _ _=>by kernel_rfl
theorem cf90:∀ args w,(callFunc 90 args).run Tryz.prog w = .ok (.enter 90 args) w:=fun _ _=>by kernel_rfl
theorem cf91:∀ args w,(callFunc 91 args).run Tryz.prog w = .ok (.enter 91 args) w:=fun _ _=>by kernel_rfl
theorem cf92:∀ args w,(callFunc 92 args).run Tryz.prog w = .ok (.enter 92 args) w:=fun _ _=>by kernel_rfl
theorem cf93:∀ args w,(callFunc 93 args).run Tryz.prog w = .ok (.enter 93 args) w:=fun _ _=>by kernel_rfl
theorem cf94:∀ args w,(callFunc 94 args).run Tryz.prog w = .ok (.enter 94 args) w:=fun _ _=>by kernel_rfl
theorem cf95:∀ args w,(callFunc 95 args).run Tryz.prog w = .ok (.enter 95 args) w:=fun _ _=>by kernel_rfl
theorem cf96:∀ args w,(callFunc 96 args).run Tryz.prog w = .ok (.enter 96 args) w:=fun _ _=>by kernel_rfl
theorem cf97:∀ args w,(callFunc 97 args).run Tryz.prog w = .ok (.enter 97 args) w:=fun _ _=>by kernel_rfl
theorem cf98:∀ args w,(callFunc 98 args).run Tryz.prog w = .ok (.enter 98 args) w:=fun _ _=>by kernel_rfl
theorem cf99:∀ args w,(callFunc 99 args).run Tryz.prog w = .ok (.enter 99 args) w:=fun _ _=>by kernel_rfl
theorem cf100:∀ args w,(callFunc 100 args).run Tryz.prog w = .ok (.enter 100 args) w:=fun _ _=>by kernel_rfl
theorem cf101:∀ args w,(callFunc 101 args).run Tryz.prog w = .ok (.enter 101 args) w:=fun _ _=>by kernel_rfl
theorem cf104:∀ args w,(callFunc 104 args).run Tryz.prog w = .ok (.enter 104 args) w:=fun _ _=>by kernel_rfl
theorem cf105:∀ args w,(callFunc 105 args).run Tryz.prog w = .ok (.enter 105 args) w:=fun _ _=>by kernel_rfl
theorem cf106:∀ args w,(callFunc 106 args).run Tryz.prog w = .ok (.enter 106 args) w:=fun _ _=>by kernel_rfl
theorem cf107:∀ args w,(callFunc 107 args).run Tryz.prog w = .ok (.enter 107 args) w:=fun _ _=>by kernel_rfl
theorem cf108:∀ args w,(callFunc 108 args).run Tryz.prog w = .ok (.enter 108 args) w:=fun _ _=>by kernel_rfl
theorem cf109:∀ args w,(callFunc 109 args).run Tryz.prog w = .ok (.enter 109 args) w:=fun _ _=>by kernel_rfl
theorem cf111:∀ args w,(callFunc 111 args).run Tryz.prog w = .ok (.enter 111 args) w:=fun _ _=>by kernel_rfl
theorem cf112:∀ args w,(callFunc 112 args).run Tryz.prog w = .ok (.enter 112 args) w:=fun _ _=>by kernel_rfl
theorem cf113:∀ args w,(callFunc 113 args).run Tryz.prog w = .ok (.enter 113 args) w:=fun _ _=>by kernel_rfl
theorem cf114:∀ args w,(callFunc 114 args).run Tryz.prog w = .ok (.enter 114 args) w:=fun _ _=>by kernel_rfl
theorem cf115:∀ args w,(callFunc 115 args).run Tryz.prog w = .ok (.enter 115 args) w:=fun _ _=>by kernel_rfl
theorem cf116:∀ args w,(callFunc 116 args).run Tryz.prog w = .ok (.enter 116 args) w:=fun _ _=>by kernel_rfl
theorem cf117:∀ args w,(callFunc 117 args).run Tryz.prog w = .ok (.enter 117 args) w:=fun _ _=>by kernel_rfl
theorem cf118:∀ args w,(callFunc 118 args).run Tryz.prog w = .ok (.enter 118 args) w:=fun _ _=>by kernel_rfl
theorem cf119:∀ args w,(callFunc 119 args).run Tryz.prog w = .ok (.enter 119 args) w:=fun _ _=>by kernel_rfl
theorem cf120:∀ args w,(callFunc 120 args).run Tryz.prog w = .ok (.enter 120 args) w:=fun _ _=>by kernel_rfl
theorem cf121:∀ args w,(callFunc 121 args).run Tryz.prog w = .ok (.enter 121 args) w:=fun _ _=>by kernel_rfl
theorem cf122:∀ args w,(callFunc 122 args).run Tryz.prog w = .ok (.enter 122 args) w:=fun _ _=>by kernel_rfl
theorem cf123:∀ args w,(callFunc 123 args).run Tryz.prog w = .ok (.enter 123 args) w:=fun _ _=>by kernel_rfl
theorem cf124:∀ args w,(callFunc 124 args).run Tryz.prog w = .ok (.enter 124 args) w:=fun _ _=>by kernel_rfl
theorem cf133:∀ args w,(callFunc 133 args).run Tryz.prog w = .ok (.enter 133 args) w:=fun _ _=>by kernel_rfl
theorem cf134:∀ args w,(callFunc 134 args).run Tryz.prog w = .ok (.enter 134 args) w:=fun _ _=>by kernel_rfl
theorem cf135:∀ args w,(callFunc 135 args).run Tryz.prog w = .ok (.enter 135 args) w:=fun _ _=>by kernel_rfl
theorem cf136:∀ args w,(callFunc 136 args).run Tryz.prog w = .ok (.enter 136 args) w:=fun _ _=>by kernel_rfl
theorem cf137:∀ args w,(callFunc 137 args).run Tryz.prog w = .ok (.enter 137 args) w:=fun _ _=>by kernel_rfl
theorem cf140:∀ args w,(callFunc 140 args).run Tryz.prog w = .ok (.enter 140 args) w:=fun _ _=>by kernel_rfl
theorem cf142:∀ args w,(callFunc 142 args).run Tryz.prog w = .ok (.enter 142 args) w:=fun _ _=>by kernel_rfl
theorem cf144:∀ args w,(callFunc 144 args).run Tryz.prog w = .ok (.enter 144 args) w:=fun _ _=>by kernel_rfl
theorem cf145:∀ args w,(callFunc 145 args).run Tryz.prog w = .ok (.enter 145 args) w:=fun _ _=>by kernel_rfl
theorem cf146:∀ args w,(callFunc 146 args).run Tryz.prog w = .ok (.enter 146 args) w:=fun _ _=>by kernel_rfl
theorem cf148:∀ args w,(callFunc 148 args).run Tryz.prog w = .ok (.enter 148 args) w:=fun _ _=>by kernel_rfl
theorem cf149:∀ args w,(callFunc 149 args).run Tryz.prog w = .ok (.enter 149 args) w:=fun _ _=>by kernel_rfl
theorem cf150:∀ args w,(callFunc 150 args).run Tryz.prog w = .ok (.enter 150 args) w:=fun _ _=>by kernel_rfl
theorem cf151:∀ args w,(callFunc 151 args).run Tryz.prog w = .ok (.enter 151 args) w:=fun _ _=>by kernel_rfl
theorem cf152:∀ args w,(callFunc 152 args).run Tryz.prog w = .ok (.enter 152 args) w:=fun _ _=>by kernel_rfl
theorem cf153:∀ args w,(callFunc 153 args).run Tryz.prog w = .ok (.enter 153 args) w:=fun _ _=>by kernel_rfl
theorem cf154:∀ args w,(callFunc 154 args).run Tryz.prog w = .ok (.enter 154 args) w:=fun _ _=>by kernel_rfl
theorem cf155:∀ args w,(callFunc 155 args).run Tryz.prog w = .ok (.enter 155 args) w:=fun _ _=>by kernel_rfl
theorem cf156:∀ args w,(callFunc 156 args).run Tryz.prog w = .ok (.enter 156 args) w:=fun _ _=>by kernel_rfl
theorem cf162:∀ args w,(callFunc 162 args).run Tryz.prog w = .ok (.enter 162 args) w:=fun _ _=>by kernel_rfl
theorem cf186:∀ args w,(callFunc 186 args).run Tryz.prog w = .ok (.enter 186 args) w:=fun _ _=>by kernel_rfl
theorem cf187:∀ args w,(callFunc 187 args).run Tryz.prog w = .ok (.enter 187 args) w:=fun _ _=>by kernel_rfl
theorem cf188:∀ args w,(callFunc 188 args).run Tryz.prog w = .ok (.enter 188 args) w:=fun _ _=>by kernel_rfl
theorem cf189:∀ args w,(callFunc 189 args).run Tryz.prog w = .ok (.enter 189 args) w:=fun _ _=>by kernel_rfl
theorem cf190:∀ args w,(callFunc 190 args).run Tryz.prog w = .ok (.enter 190 args) w:=fun _ _=>by kernel_rfl
theorem cf191:∀ args w,(callFunc 191 args).run Tryz.prog w = .ok (.enter 191 args) w:=fun _ _=>by kernel_rfl
theorem cf205:∀ args w,(callFunc 205 args).run Tryz.prog w = .ok (.enter 205 args) w:=fun _ _=>by kernel_rfl
theorem cf206:∀ args w,(callFunc 206 args).run Tryz.prog w = .ok (.enter 206 args) w:=fun _ _=>by kernel_rfl
end Go.Proofs.YtmocokkjfgfkbadGreatDoor
