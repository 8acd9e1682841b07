/- Facts on the types and functions. Written by program. -/
import Derived.Test.YtadlgemefhfejacGreatDoorProg
import Derived.KernelRfl
import Derived.Test.YtadlgemefhfejacGreatDoorM
namespace Go.Proofs.YtadlgemefhfejacGreatDoor
open Go Go.J Go.G
set_option linter.unusedSimpArgs false
theorem ty3:TyF Tryz.prog 3 false 1 8 [.int .i64 0]:=TyF.mk' (z:=.int .i64 0) Tryz.underlying3 rfl (by kernel_rfl) rfl
def R3:Rep Int:=⟨3,1,8,fun x=>[.int .i64 x],fun _=>rfl,fun x u hu=>by simp only [List.mem_cons,List.mem_nil_iff,or_false] at hu; rcases hu with rfl <;> rfl,by decide⟩
theorem ty4:TyF Tryz.prog 4 false 1 1 [.bool false]:=TyF.mk' (z:=.bool false) Tryz.underlying4 rfl (by kernel_rfl) rfl
def R4:Rep Bool:=⟨4,1,1,fun x=>[.bool x],fun _=>rfl,fun x u hu=>by simp only [List.mem_cons,List.mem_nil_iff,or_false] at hu; rcases hu with rfl <;> rfl,by decide⟩
theorem ty9:TyF Tryz.prog 9 false 1 16 [.string ByteArray.empty]:=TyF.mk' (z:=.string ByteArray.empty) Tryz.underlying9 rfl (by kernel_rfl) rfl
def R9:Rep ByteArray:=⟨9,1,16,fun x=>[.string x],fun _=>rfl,fun x u hu=>by simp only [List.mem_cons,List.mem_nil_iff,or_false] at hu; rcases hu with rfl <;> rfl,by decide⟩
theorem ty22:TyF Tryz.prog 22 false 1 24 [.slice none 0 0]:=TyF.mk' (z:=.slice none 0 0) Tryz.underlying22 rfl (by kernel_rfl) rfl
theorem ty25:TyF Tryz.prog 25 true 2 32 [.slice none 0 0,.int .i64 0]:=TyF.mk' (z:=.agg #[.slice none 0 0,.int .i64 0]) Tryz.underlying25 rfl (by kernel_rfl) rfl
theorem ty26:TyF Tryz.prog 26 false 1 24 [.slice none 0 0]:=TyF.mk' (z:=.slice none 0 0) Tryz.underlying26 rfl (by kernel_rfl) rfl
theorem ty30:TyF Tryz.prog 30 false 1 24 [.slice none 0 0]:=TyF.mk' (z:=.slice none 0 0) Tryz.underlying30 rfl (by kernel_rfl) rfl
theorem ty34:TyF Tryz.prog 34 false 1 8 [.int .i64 0]:=TyF.mk' (z:=.int .i64 0) Tryz.underlying34 rfl (by kernel_rfl) rfl
def R34:Rep Int:=⟨34,1,8,fun x=>[.int .i64 x],fun _=>rfl,fun x u hu=>by simp only [List.mem_cons,List.mem_nil_iff,or_false] at hu; rcases hu with rfl <;> rfl,by decide⟩
theorem ty39:TyF Tryz.prog 39 true 3 32 [.int .i64 0,.string ByteArray.empty,.bool false]:=TyF.mk' (z:=.agg #[.int .i64 0,.string ByteArray.empty,.bool false]) Tryz.underlying39 rfl (by kernel_rfl) rfl
def R39:Rep TCame:=⟨39,3,32,fun x=>[.int .i64 x.At,.string x.Singer,.bool x.Left],fun _=>rfl,fun x u hu=>by simp only [List.mem_cons,List.mem_nil_iff,or_false] at hu; rcases hu with rfl | rfl | rfl <;> rfl,by decide⟩
theorem ty40:TyF Tryz.prog 40 false 1 24 [.slice none 0 0]:=TyF.mk' (z:=.slice none 0 0) Tryz.underlying40 rfl (by kernel_rfl) rfl
theorem ty49:TyF Tryz.prog 49 true 2 32 [.string ByteArray.empty,.string ByteArray.empty]:=TyF.mk' (z:=.agg #[.string ByteArray.empty,.string ByteArray.empty]) Tryz.underlying49 rfl (by kernel_rfl) rfl
def R49:Rep TPair:=⟨49,2,32,fun x=>[.string x.Name,.string x.Value],fun _=>rfl,fun x u hu=>by simp only [List.mem_cons,List.mem_nil_iff,or_false] at hu; rcases hu with rfl | rfl <;> rfl,by decide⟩
theorem ty53:TyF Tryz.prog 53 true 2 16 [.int .i64 0,.int .i64 0]:=TyF.mk' (z:=.agg #[.int .i64 0,.int .i64 0]) Tryz.underlying53 rfl (by kernel_rfl) rfl
def R53:Rep TWindow:=⟨53,2,16,fun x=>[.int .i64 x.From,.int .i64 x.To],fun _=>rfl,fun x u hu=>by simp only [List.mem_cons,List.mem_nil_iff,or_false] at hu; rcases hu with rfl | rfl <;> rfl,by decide⟩
theorem ty54:TyF Tryz.prog 54 false 1 24 [.slice none 0 0]:=TyF.mk' (z:=.slice none 0 0) Tryz.underlying54 rfl (by kernel_rfl) rfl
theorem ty57:TyF Tryz.prog 57 true 6 88 [.string ByteArray.empty,.string ByteArray.empty,.string ByteArray.empty,.slice none 0 0,.int .i64 0,.int .i64 0]:=TyF.mk' (z:=.agg #[.string ByteArray.empty,.string ByteArray.empty,.string ByteArray.empty,.slice none 0 0,.int .i64 0,.int .i64 0]) Tryz.underlying57 rfl (by kernel_rfl) rfl
theorem ty61:TyF Tryz.prog 61 true 3 48 [.string ByteArray.empty,.string ByteArray.empty,.string ByteArray.empty]:=TyF.mk' (z:=.agg #[.string ByteArray.empty,.string ByteArray.empty,.string ByteArray.empty]) Tryz.underlying61 rfl (by kernel_rfl) rfl
def R61:Rep TSings:=⟨61,3,48,fun x=>[.string x.Singer,.string x.Piece,.string x.Part],fun _=>rfl,fun x u hu=>by simp only [List.mem_cons,List.mem_nil_iff,or_false] at hu; rcases hu with rfl | rfl | rfl <;> rfl,by decide⟩
theorem ty65:TyF Tryz.prog 65 true 2 24 [.string ByteArray.empty,.int .i64 0]:=TyF.mk' (z:=.agg #[.string ByteArray.empty,.int .i64 0]) Tryz.underlying65 rfl (by kernel_rfl) rfl
def R65:Rep TWish:=⟨65,2,24,fun x=>[.string x.Piece,.int .i64 x.Need],fun _=>rfl,fun x u hu=>by simp only [List.mem_cons,List.mem_nil_iff,or_false] at hu; rcases hu with rfl | rfl <;> rfl,by decide⟩
theorem ty69:TyF Tryz.prog 69 false 1 8 [.map none]:=TyF.mk' (z:=.map none) Tryz.underlying69 rfl (by kernel_rfl) rfl
theorem ty95:TyF Tryz.prog 95 true 2 24 [.string ByteArray.empty,.int .i64 0]:=TyF.mk' (z:=.agg #[.string ByteArray.empty,.int .i64 0]) Tryz.underlying95 rfl (by kernel_rfl) rfl
def R95:Rep Trehearse_lacking:=⟨95,2,24,fun x=>[.string x.piece,.int .i64 x.many],fun _=>rfl,fun x u hu=>by simp only [List.mem_cons,List.mem_nil_iff,or_false] at hu; rcases hu with rfl | rfl <;> rfl,by decide⟩
theorem ty105:TyF Tryz.prog 105 false 1 24 [.slice none 0 0]:=TyF.mk' (z:=.slice none 0 0) Tryz.underlying105 rfl (by kernel_rfl) rfl
theorem ty107:TyF Tryz.prog 107 true 5 104 [.slice none 0 0,.slice none 0 0,.slice none 0 0,.slice none 0 0,.int .i64 0]:=TyF.mk' (z:=.agg #[.slice none 0 0,.slice none 0 0,.slice none 0 0,.slice none 0 0,.int .i64 0]) Tryz.underlying107 rfl (by kernel_rfl) rfl
theorem ty108:TyF Tryz.prog 108 false 1 8 [.map none]:=TyF.mk' (z:=.map none) Tryz.underlying108 rfl (by kernel_rfl) rfl
theorem ty115:TyF Tryz.prog 115 true 5 40 [.int .i64 0,.int .i64 0,.int .i64 0,.int .i64 0,.bool false]:=TyF.mk' (z:=.agg #[.int .i64 0,.int .i64 0,.int .i64 0,.int .i64 0,.bool false]) Tryz.underlying115 rfl (by kernel_rfl) rfl
def R115:Rep TBar:=⟨115,5,40,fun x=>[.int .i64 x.Beats,.int .i64 x.Unit,.int .i64 x.Close,.int .i64 x.Ending,.bool x.Open],fun _=>rfl,fun x u hu=>by simp only [List.mem_cons,List.mem_nil_iff,or_false] at hu; rcases hu with rfl | rfl | rfl | rfl | rfl <;> rfl,by decide⟩
theorem ty120:TyF Tryz.prog 120 true 3 24 [.int .i64 0,.int .i64 0,.int .i64 0]:=TyF.mk' (z:=.agg #[.int .i64 0,.int .i64 0,.int .i64 0]) Tryz.underlying120 rfl (by kernel_rfl) rfl
def R120:Rep TChord:=⟨120,3,24,fun x=>[.int .i64 x.Root,.int .i64 x.Kind,.int .i64 x.Turn],fun _=>rfl,fun x u hu=>by simp only [List.mem_cons,List.mem_nil_iff,or_false] at hu; rcases hu with rfl | rfl | rfl <;> rfl,by decide⟩
theorem ty125:TyF Tryz.prog 125 true 4 64 [.string ByteArray.empty,.string ByteArray.empty,.int .i64 0,.slice none 0 0]:=TyF.mk' (z:=.agg #[.string ByteArray.empty,.string ByteArray.empty,.int .i64 0,.slice none 0 0]) Tryz.underlying125 rfl (by kernel_rfl) rfl
theorem ty126:TyF Tryz.prog 126 false 1 24 [.slice none 0 0]:=TyF.mk' (z:=.slice none 0 0) Tryz.underlying126 rfl (by kernel_rfl) rfl
theorem ty128:TyF Tryz.prog 128 true 5 56 [.slice none 0 0,.int .i64 0,.int .i64 0,.int .i64 0,.int .i64 0]:=TyF.mk' (z:=.agg #[.slice none 0 0,.int .i64 0,.int .i64 0,.int .i64 0,.int .i64 0]) Tryz.underlying128 rfl (by kernel_rfl) rfl
theorem ty131:TyF Tryz.prog 131 true 10 112 [.string ByteArray.empty,.int .i64 0,.int .i64 0,.int .i64 0,.string ByteArray.empty,.string ByteArray.empty,.int .i64 0,.bool false,.string ByteArray.empty,.int .i64 0]:=TyF.mk' (z:=.agg #[.string ByteArray.empty,.int .i64 0,.int .i64 0,.int .i64 0,.string ByteArray.empty,.string ByteArray.empty,.int .i64 0,.bool false,.string ByteArray.empty,.int .i64 0]) Tryz.underlying131 rfl (by kernel_rfl) rfl
def R131:Rep TAct:=⟨131,10,112,fun x=>[.string x.Site,.int .i64 x.No,.int .i64 x.At,.int .i64 x.Kind,.string x.Who,.string x.Motion,.int .i64 x.Cents,.bool x.Yes,.string x.Of,.int .i64 x.Other],fun _=>rfl,fun x u hu=>by simp only [List.mem_cons,List.mem_nil_iff,or_false] at hu; rcases hu with rfl | rfl | rfl | rfl | rfl | rfl | rfl | rfl | rfl | rfl <;> rfl,by decide⟩
theorem ty132:TyF Tryz.prog 132 false 1 24 [.slice none 0 0]:=TyF.mk' (z:=.slice none 0 0) Tryz.underlying132 rfl (by kernel_rfl) rfl
theorem ty143:TyF Tryz.prog 143 true 3 56 [.slice none 0 0,.slice none 0 0,.map none]:=TyF.mk' (z:=.agg #[.slice none 0 0,.slice none 0 0,.map none]) Tryz.underlying143 rfl (by kernel_rfl) rfl
theorem ty154:TyF Tryz.prog 154 true 3 32 [.string ByteArray.empty,.int .i64 0,.int .i64 0]:=TyF.mk' (z:=.agg #[.string ByteArray.empty,.int .i64 0,.int .i64 0]) Tryz.underlying154 rfl (by kernel_rfl) rfl
def R154:Rep TAway:=⟨154,3,32,fun x=>[.string x.Singer,.int .i64 x.Time.From,.int .i64 x.Time.To],fun _=>rfl,fun x u hu=>by simp only [List.mem_cons,List.mem_nil_iff,or_false] at hu; rcases hu with rfl | rfl | rfl <;> rfl,by decide⟩
theorem ty161:TyF Tryz.prog 161 false 1 8 [.map none]:=TyF.mk' (z:=.map none) Tryz.underlying161 rfl (by kernel_rfl) rfl
theorem ty218:TyF Tryz.prog 218 false 1 8 [.map none]:=TyF.mk' (z:=.map none) Tryz.underlying218 rfl (by kernel_rfl) rfl
theorem ty220:TyF Tryz.prog 220 false 1 8 [.map none]:=TyF.mk' (z:=.map none) Tryz.underlying220 rfl (by kernel_rfl) rfl
theorem ty222:TyF Tryz.prog 222 true 5 56 [.int .i64 0,.map none,.map none,.map none,.slice none 0 0]:=TyF.mk' (z:=.agg #[.int .i64 0,.map none,.map none,.map none,.slice none 0 0]) Tryz.underlying222 rfl (by kernel_rfl) rfl
theorem ty247:TyF Tryz.prog 247 true 3 24 [.int .i64 0,.int .i64 0,.int .i64 0]:=TyF.mk' (z:=.agg #[.int .i64 0,.int .i64 0,.int .i64 0]) Tryz.underlying247 rfl (by kernel_rfl) rfl
def R247:Rep Tpiece_repeat:=⟨247,3,24,fun x=>[.int .i64 x.from_,.int .i64 x.to_,.int .i64 x.times],fun _=>rfl,fun x u hu=>by simp only [List.mem_cons,List.mem_nil_iff,or_false] at hu; rcases hu with rfl | rfl | rfl <;> rfl,by decide⟩
theorem ty258:TyF Tryz.prog 258 true 3 24 [.int .i64 0,.int .i64 0,.int .i64 0]:=TyF.mk' (z:=.agg #[.int .i64 0,.int .i64 0,.int .i64 0]) Tryz.underlying258 rfl (by kernel_rfl) rfl
def R258:Rep Tclub_stay:=⟨258,3,24,fun x=>[.int .i64 x.since,.int .i64 x.till,.int .i64 x.cents],fun _=>rfl,fun x u hu=>by simp only [List.mem_cons,List.mem_nil_iff,or_false] at hu; rcases hu with rfl | rfl | rfl <;> rfl,by decide⟩
theorem ty277:TyF Tryz.prog 277 false 1 8 [.map none]:=TyF.mk' (z:=.map none) Tryz.underlying277 rfl (by kernel_rfl) rfl
theorem ty279:TyF Tryz.prog 279 true 2 24 [.string ByteArray.empty,.int .i64 0]:=TyF.mk' (z:=.agg #[.string ByteArray.empty,.int .i64 0]) Tryz.underlying279 rfl (by kernel_rfl) rfl
def R279:Rep Tclub_own:=⟨279,2,24,fun x=>[.string x.site,.int .i64 x.no],fun _=>rfl,fun x u hu=>by simp only [List.mem_cons,List.mem_nil_iff,or_false] at hu; rcases hu with rfl | rfl <;> rfl,by decide⟩
theorem ty285:TyF Tryz.prog 285 true 3 40 [.bool false,.map none,.slice none 0 0]:=TyF.mk' (z:=.agg #[.bool false,.map none,.slice none 0 0]) Tryz.underlying285 rfl (by kernel_rfl) rfl
theorem ty296:TyF Tryz.prog 296 true 5 5 [.bool false,.bool false,.bool false,.bool false,.bool false]:=TyF.mk' (z:=.agg #[.bool false,.bool false,.bool false,.bool false,.bool false]) Tryz.underlying296 rfl (by kernel_rfl) rfl
def R296:Rep Tclub_uses:=⟨296,5,5,fun x=>[.bool x.who,.bool x.motion,.bool x.cents,.bool x.yes,.bool x.undo],fun _=>rfl,fun x u hu=>by simp only [List.mem_cons,List.mem_nil_iff,or_false] at hu; rcases hu with rfl | rfl | rfl | rfl | rfl <;> rfl,by decide⟩
def N22:Nst (List Int) SV:=⟨⟨22,1,24,fun p=>[p.2.v],fun _=>rfl,fun p u hu=>by simp only [List.mem_cons,List.mem_nil_iff,or_false] at hu; rcases hu with rfl <;> rfl,by decide⟩,fun p w=>RdS R3 (SV.v p.2) p.1 w⟩
def N30:Nst (List TCame) SV:=⟨⟨30,1,24,fun p=>[p.2.v],fun _=>rfl,fun p u hu=>by simp only [List.mem_cons,List.mem_nil_iff,or_false] at hu; rcases hu with rfl <;> rfl,by decide⟩,fun p w=>RdS R39 (SV.v p.2) p.1 w⟩
def N57:Nst TSlot SV:=⟨⟨57,6,88,fun p=>[.string p.1.Key,.string p.1.Room,.string p.1.Piece,p.2.v,.int .i64 p.1.Time.From,.int .i64 p.1.Time.To],fun _=>rfl,fun p u hu=>by simp only [List.mem_cons,List.mem_nil_iff,or_false] at hu; rcases hu with rfl | rfl | rfl | rfl | rfl | rfl <;> rfl,by decide⟩,fun p w=>RdS R9 (SV.v p.2) p.1.Parts w⟩
def N125:Nst TItem SV:=⟨⟨125,4,64,fun p=>[.string p.1.Key,.string p.1.Places,.int .i64 p.1.Long,p.2.v],fun _=>rfl,fun p u hu=>by simp only [List.mem_cons,List.mem_nil_iff,or_false] at hu; rcases hu with rfl | rfl | rfl | rfl <;> rfl,by decide⟩,fun p w=>RdS R9 (SV.v p.2) p.1.Parts w⟩
theorem eqst39_ (d:Nat) (x y:TCame):EqV Tryz.prog (d+2) 39 (.agg (R39.enc x).toArray) (.agg (R39.enc y).toArray) (decide (x=y)):=by
  have h:((x.At==y.At)&&((x.Singer==y.Singer)&&((x.Left==y.Left)&&true)))=decide (x=y):=by rw [Bool.eq_iff_iff]; cases x; cases y; simp [ba_beq]
  rw [← h]
  exact eqv_struct Tryz.underlying39 (by kernel_rfl) (eqf_cons (.int .i64 x.At) (.int .i64 y.At) (by decide) (fun _=>by kernel_rfl) (fun _=>by kernel_rfl) (eqv_int Tryz.underlying3 _ _) (eqf_cons (.string x.Singer) (.string y.Singer) (by decide) (fun _=>by kernel_rfl) (fun _=>by kernel_rfl) (eqv_str Tryz.underlying9 _ _) (eqf_cons (.bool x.Left) (.bool y.Left) (by decide) (fun _=>by kernel_rfl) (fun _=>by kernel_rfl) (eqv_bool Tryz.underlying4 _ _) eqf_nil)))
theorem eqst39 (x y:TCame):EqV Tryz.prog 10000 39 (.agg (R39.enc x).toArray) (.agg (R39.enc y).toArray) (decide (x=y)):=eqst39_ 9998 x y
theorem eqst53_ (d:Nat) (x y:TWindow):EqV Tryz.prog (d+2) 53 (.agg (R53.enc x).toArray) (.agg (R53.enc y).toArray) (decide (x=y)):=by
  have h:((x.From==y.From)&&((x.To==y.To)&&true))=decide (x=y):=by rw [Bool.eq_iff_iff]; cases x; cases y; simp [ba_beq]
  rw [← h]
  exact eqv_struct Tryz.underlying53 (by kernel_rfl) (eqf_cons (.int .i64 x.From) (.int .i64 y.From) (by decide) (fun _=>by kernel_rfl) (fun _=>by kernel_rfl) (eqv_int Tryz.underlying3 _ _) (eqf_cons (.int .i64 x.To) (.int .i64 y.To) (by decide) (fun _=>by kernel_rfl) (fun _=>by kernel_rfl) (eqv_int Tryz.underlying3 _ _) eqf_nil))
theorem eqst53 (x y:TWindow):EqV Tryz.prog 10000 53 (.agg (R53.enc x).toArray) (.agg (R53.enc y).toArray) (decide (x=y)):=eqst53_ 9998 x y
theorem eqst61_ (d:Nat) (x y:TSings):EqV Tryz.prog (d+2) 61 (.agg (R61.enc x).toArray) (.agg (R61.enc y).toArray) (decide (x=y)):=by
  have h:((x.Singer==y.Singer)&&((x.Piece==y.Piece)&&((x.Part==y.Part)&&true)))=decide (x=y):=by rw [Bool.eq_iff_iff]; cases x; cases y; simp [ba_beq]
  rw [← h]
  exact eqv_struct Tryz.underlying61 (by kernel_rfl) (eqf_cons (.string x.Singer) (.string y.Singer) (by decide) (fun _=>by kernel_rfl) (fun _=>by kernel_rfl) (eqv_str Tryz.underlying9 _ _) (eqf_cons (.string x.Piece) (.string y.Piece) (by decide) (fun _=>by kernel_rfl) (fun _=>by kernel_rfl) (eqv_str Tryz.underlying9 _ _) (eqf_cons (.string x.Part) (.string y.Part) (by decide) (fun _=>by kernel_rfl) (fun _=>by kernel_rfl) (eqv_str Tryz.underlying9 _ _) eqf_nil)))
theorem eqst61 (x y:TSings):EqV Tryz.prog 10000 61 (.agg (R61.enc x).toArray) (.agg (R61.enc y).toArray) (decide (x=y)):=eqst61_ 9998 x y
theorem eqst65_ (d:Nat) (x y:TWish):EqV Tryz.prog (d+2) 65 (.agg (R65.enc x).toArray) (.agg (R65.enc y).toArray) (decide (x=y)):=by
  have h:((x.Piece==y.Piece)&&((x.Need==y.Need)&&true))=decide (x=y):=by rw [Bool.eq_iff_iff]; cases x; cases y; simp [ba_beq]
  rw [← h]
  exact eqv_struct Tryz.underlying65 (by kernel_rfl) (eqf_cons (.string x.Piece) (.string y.Piece) (by decide) (fun _=>by kernel_rfl) (fun _=>by kernel_rfl) (eqv_str Tryz.underlying9 _ _) (eqf_cons (.int .i64 x.Need) (.int .i64 y.Need) (by decide) (fun _=>by kernel_rfl) (fun _=>by kernel_rfl) (eqv_int Tryz.underlying3 _ _) eqf_nil))
theorem eqst65 (x y:TWish):EqV Tryz.prog 10000 65 (.agg (R65.enc x).toArray) (.agg (R65.enc y).toArray) (decide (x=y)):=eqst65_ 9998 x y
theorem eqst279_ (d:Nat) (x y:Tclub_own):EqV Tryz.prog (d+2) 279 (.agg (R279.enc x).toArray) (.agg (R279.enc y).toArray) (decide (x=y)):=by
  have h:((x.site==y.site)&&((x.no==y.no)&&true))=decide (x=y):=by rw [Bool.eq_iff_iff]; cases x; cases y; simp [ba_beq]
  rw [← h]
  exact eqv_struct Tryz.underlying279 (by kernel_rfl) (eqf_cons (.string x.site) (.string y.site) (by decide) (fun _=>by kernel_rfl) (fun _=>by kernel_rfl) (eqv_str Tryz.underlying9 _ _) (eqf_cons (.int .i64 x.no) (.int .i64 y.no) (by decide) (fun _=>by kernel_rfl) (fun _=>by kernel_rfl) (eqv_int Tryz.underlying3 _ _) eqf_nil))
theorem eqst279 (x y:Tclub_own):EqV Tryz.prog 10000 279 (.agg (R279.enc x).toArray) (.agg (R279.enc y).toArray) (decide (x=y)):=eqst279_ 9998 x y
@[reducible] def vv3:Int→Value:=fun x=>.int .i64 x
@[reducible] def vv4:Bool→Value:=fun x=>.bool x
@[reducible] def kv9:ByteArray→Value:=fun x=>.string x
theorem keyF9:KeyF Tryz.prog 9 kv9:=keyF_str Tryz.underlying9
@[reducible] def kv279:Tclub_own→Value:=fun x=>.agg (R279.enc x).toArray
theorem keyF279:KeyF Tryz.prog 279 kv279:=keyF_agg Tryz.underlying279 (fun _ _ _=>by kernel_rfl) eqst279 (fun k v hv=>by simp only [R279,List.mem_cons,List.not_mem_nil,or_false] at hv; rcases hv with rfl | rfl <;> simp [Instr.sameBits,ba_dec])
@[reducible] def Fh283:(Nat × Nat × Array MapEntry × Nat × SV)→Nat:=fun q=>q.1
def Fe283:(Bool × (List (ByteArray × Bool)) × (List ByteArray))→(Nat × Nat × Array MapEntry × Nat × SV)→List Ent:=fun t q=>[.box q.1 285 [.bool t.1,.map (some q.2.1),q.2.2.2.2.v],.obj (mapO kv9 q.2.1 (mpV vv4 t.2.1) q.2.2.1 q.2.2.2.1),.row R9 (SV.v q.2.2.2.2) t.2.2]
theorem fro283:∀ t q F,Ent.ro F∉Fe283 t q:=by intro t q F h; simp [Fe283] at h
theorem fl25_0:FldF Tryz.prog 25 0 0:=fun _ _=>by kernel_rfl
theorem fl25_1:FldF Tryz.prog 25 1 1:=fun _ _=>by kernel_rfl
theorem fl39_0:FldF Tryz.prog 39 0 0:=fun _ _=>by kernel_rfl
theorem fl39_1:FldF Tryz.prog 39 1 1:=fun _ _=>by kernel_rfl
theorem fl39_2:FldF Tryz.prog 39 2 2:=fun _ _=>by kernel_rfl
theorem fl53_0:FldF Tryz.prog 53 0 0:=fun _ _=>by kernel_rfl
theorem fl53_1:FldF Tryz.prog 53 1 1:=fun _ _=>by kernel_rfl
theorem fl57_0:FldF Tryz.prog 57 0 0:=fun _ _=>by kernel_rfl
theorem fl57_1:FldF Tryz.prog 57 1 1:=fun _ _=>by kernel_rfl
theorem fl57_2:FldF Tryz.prog 57 2 2:=fun _ _=>by kernel_rfl
theorem fl57_3:FldF Tryz.prog 57 3 3:=fun _ _=>by kernel_rfl
theorem fl57_4:FldF Tryz.prog 57 4 4:=fun _ _=>by kernel_rfl
theorem fl61_0:FldF Tryz.prog 61 0 0:=fun _ _=>by kernel_rfl
theorem fl61_1:FldF Tryz.prog 61 1 1:=fun _ _=>by kernel_rfl
theorem fl61_2:FldF Tryz.prog 61 2 2:=fun _ _=>by kernel_rfl
theorem fl65_0:FldF Tryz.prog 65 0 0:=fun _ _=>by kernel_rfl
theorem fl65_1:FldF Tryz.prog 65 1 1:=fun _ _=>by kernel_rfl
theorem fl95_0:FldF Tryz.prog 95 0 0:=fun _ _=>by kernel_rfl
theorem fl95_1:FldF Tryz.prog 95 1 1:=fun _ _=>by kernel_rfl
theorem fl107_0:FldF Tryz.prog 107 0 0:=fun _ _=>by kernel_rfl
theorem fl107_1:FldF Tryz.prog 107 1 1:=fun _ _=>by kernel_rfl
theorem fl107_2:FldF Tryz.prog 107 2 2:=fun _ _=>by kernel_rfl
theorem fl107_3:FldF Tryz.prog 107 3 3:=fun _ _=>by kernel_rfl
theorem fl107_4:FldF Tryz.prog 107 4 4:=fun _ _=>by kernel_rfl
theorem fl115_0:FldF Tryz.prog 115 0 0:=fun _ _=>by kernel_rfl
theorem fl115_1:FldF Tryz.prog 115 1 1:=fun _ _=>by kernel_rfl
theorem fl115_2:FldF Tryz.prog 115 2 2:=fun _ _=>by kernel_rfl
theorem fl115_3:FldF Tryz.prog 115 3 3:=fun _ _=>by kernel_rfl
theorem fl115_4:FldF Tryz.prog 115 4 4:=fun _ _=>by kernel_rfl
theorem fl120_0:FldF Tryz.prog 120 0 0:=fun _ _=>by kernel_rfl
theorem fl120_1:FldF Tryz.prog 120 1 1:=fun _ _=>by kernel_rfl
theorem fl120_2:FldF Tryz.prog 120 2 2:=fun _ _=>by kernel_rfl
theorem fl125_0:FldF Tryz.prog 125 0 0:=fun _ _=>by kernel_rfl
theorem fl125_1:FldF Tryz.prog 125 1 1:=fun _ _=>by kernel_rfl
theorem fl125_2:FldF Tryz.prog 125 2 2:=fun _ _=>by kernel_rfl
theorem fl125_3:FldF Tryz.prog 125 3 3:=fun _ _=>by kernel_rfl
theorem fl128_0:FldF Tryz.prog 128 0 0:=fun _ _=>by kernel_rfl
theorem fl128_1:FldF Tryz.prog 128 1 1:=fun _ _=>by kernel_rfl
theorem fl128_2:FldF Tryz.prog 128 2 2:=fun _ _=>by kernel_rfl
theorem fl128_3:FldF Tryz.prog 128 3 3:=fun _ _=>by kernel_rfl
theorem fl128_4:FldF Tryz.prog 128 4 4:=fun _ _=>by kernel_rfl
theorem fl131_0:FldF Tryz.prog 131 0 0:=fun _ _=>by kernel_rfl
theorem fl131_1:FldF Tryz.prog 131 1 1:=fun _ _=>by kernel_rfl
theorem fl131_2:FldF Tryz.prog 131 2 2:=fun _ _=>by kernel_rfl
theorem fl131_3:FldF Tryz.prog 131 3 3:=fun _ _=>by kernel_rfl
theorem fl131_4:FldF Tryz.prog 131 4 4:=fun _ _=>by kernel_rfl
theorem fl131_5:FldF Tryz.prog 131 5 5:=fun _ _=>by kernel_rfl
theorem fl131_6:FldF Tryz.prog 131 6 6:=fun _ _=>by kernel_rfl
theorem fl131_7:FldF Tryz.prog 131 7 7:=fun _ _=>by kernel_rfl
theorem fl131_8:FldF Tryz.prog 131 8 8:=fun _ _=>by kernel_rfl
theorem fl131_9:FldF Tryz.prog 131 9 9:=fun _ _=>by kernel_rfl
theorem fl143_0:FldF Tryz.prog 143 0 0:=fun _ _=>by kernel_rfl
theorem fl143_2:FldF Tryz.prog 143 2 2:=fun _ _=>by kernel_rfl
theorem fl154_0:FldF Tryz.prog 154 0 0:=fun _ _=>by kernel_rfl
theorem fl154_1:FldF Tryz.prog 154 1 1:=fun _ _=>by kernel_rfl
theorem fl222_1:FldF Tryz.prog 222 1 1:=fun _ _=>by kernel_rfl
theorem fl222_2:FldF Tryz.prog 222 2 2:=fun _ _=>by kernel_rfl
theorem fl222_3:FldF Tryz.prog 222 3 3:=fun _ _=>by kernel_rfl
theorem fl222_4:FldF Tryz.prog 222 4 4:=fun _ _=>by kernel_rfl
theorem fl247_0:FldF Tryz.prog 247 0 0:=fun _ _=>by kernel_rfl
theorem fl247_1:FldF Tryz.prog 247 1 1:=fun _ _=>by kernel_rfl
theorem fl247_2:FldF Tryz.prog 247 2 2:=fun _ _=>by kernel_rfl
theorem fl258_1:FldF Tryz.prog 258 1 1:=fun _ _=>by kernel_rfl
theorem fl285_0:FldF Tryz.prog 285 0 0:=fun _ _=>by kernel_rfl
theorem fl285_1:FldF Tryz.prog 285 1 1:=fun _ _=>by kernel_rfl
theorem fl285_2:FldF Tryz.prog 285 2 2:=fun _ _=>by kernel_rfl
theorem fl296_0:FldF Tryz.prog 296 0 0:=fun _ _=>by kernel_rfl
theorem fl296_1:FldF Tryz.prog 296 1 1:=fun _ _=>by kernel_rfl
theorem fl296_2:FldF Tryz.prog 296 2 2:=fun _ _=>by kernel_rfl
theorem fl296_3:FldF Tryz.prog 296 3 3:=fun _ _=>by kernel_rfl
theorem fl296_4:FldF Tryz.prog 296 4 4:=fun _ _=>by kernel_rfl
theorem cf4:∀ args w,(callFunc 4 args).run Tryz.prog w = .ok (.enter 4 args) w:=fun _ _=>by kernel_rfl
theorem cf5:∀ args w,(callFunc 5 args).run Tryz.prog w = .ok (.enter 5 args) w:=fun _ _=>by kernel_rfl
theorem cf6:∀ args w,(callFunc 6 args).run Tryz.prog w = .ok (.enter 6 args) w:=fun _ _=>by kernel_rfl
theorem cf7:∀ args w,(callFunc 7 args).run Tryz.prog w = .ok (.enter 7 args) w:=fun _ _=>by kernel_rfl
theorem cf8:∀ args w,(callFunc 8 args).run Tryz.prog w = .ok (.enter 8 args) w:=fun _ _=>by kernel_rfl
theorem cf9:∀ args w,(callFunc 9 args).run Tryz.prog w = .ok (.enter 9 args) w:=fun _ _=>by kernel_rfl
theorem cf10:∀ args w,(callFunc 10 args).run Tryz.prog w = .ok (.enter 10 args) w:=fun _ _=>by kernel_rfl
theorem cf11:∀ args w,(callFunc 11 args).run Tryz.prog w = .ok (.enter 11 args) w:=fun _ _=>by kernel_rfl
theorem cf12:∀ args w,(callFunc 12 args).run Tryz.prog w = .ok (.enter 12 args) w:=fun _ _=>by kernel_rfl
theorem cf13:∀ args w,(callFunc 13 args).run Tryz.prog w = .ok (.enter 13 args) w:=fun _ _=>by kernel_rfl
theorem cf14:∀ args w,(callFunc 14 args).run Tryz.prog w = .ok (.enter 14 args) w:=fun _ _=>by kernel_rfl
theorem cf15:∀ args w,(callFunc 15 args).run Tryz.prog w = .ok (.enter 15 args) w:=fun _ _=>by kernel_rfl
theorem cf16:∀ args w,(callFunc 16 args).run Tryz.prog w = .ok (.enter 16 args) w:=fun _ _=>by kernel_rfl
theorem cf17:∀ args w,(callFunc 17 args).run Tryz.prog w = .ok (.enter 17 args) w:=fun _ _=>by kernel_rfl
theorem cf18:∀ args w,(callFunc 18 args).run Tryz.prog w = .ok (.enter 18 args) w:=fun _ _=>by kernel_rfl
theorem cf19:∀ args w,(callFunc 19 args).run Tryz.prog w = .ok (.enter 19 args) w:=fun _ _=>by kernel_rfl
theorem cf20:∀ args w,(callFunc 20 args).run Tryz.prog w = .ok (.enter 20 args) w:=fun _ _=>by kernel_rfl
theorem cf21:∀ args w,(callFunc 21 args).run Tryz.prog w = .ok (.enter 21 args) w:=fun _ _=>by kernel_rfl
theorem cf22:∀ args w,(callFunc 22 args).run Tryz.prog w = .ok (.enter 22 args) w:=fun _ _=>by kernel_rfl
theorem cf23:∀ args w,(callFunc 23 args).run Tryz.prog w = .ok (.enter 23 args) w:=fun _ _=>by kernel_rfl
theorem cf24:∀ args w,(callFunc 24 args).run Tryz.prog w = .ok (.enter 24 args) w:=fun _ _=>by kernel_rfl
theorem cf25:∀ args w,(callFunc 25 args).run Tryz.prog w = .ok (.enter 25 args) w:=fun _ _=>by kernel_rfl
theorem cf26:∀ args w,(callFunc 26 args).run Tryz.prog w = .ok (.enter 26 args) w:=fun _ _=>by kernel_rfl
theorem cf27:∀ args w,(callFunc 27 args).run Tryz.prog w = .ok (.enter 27 args) w:=fun _ _=>by kernel_rfl
theorem cf28:∀ args w,(callFunc 28 args).run Tryz.prog w = .ok (.enter 28 args) w:=fun _ _=>by kernel_rfl
theorem cf29:∀ args w,(callFunc 29 args).run Tryz.prog w = .ok (.enter 29 args) w:=fun _ _=>by kernel_rfl
theorem cf30:∀ args w,(callFunc 30 args).run Tryz.prog w = .ok (.enter 30 args) w:=fun _ _=>by kernel_rfl
theorem cf31:∀ args w,(callFunc 31 args).run Tryz.prog w = .ok (.enter 31 args) w:=fun _ _=>by kernel_rfl
theorem cf32:∀ args w,(callFunc 32 args).run Tryz.prog w = .ok (.enter 32 args) w:=fun _ _=>by kernel_rfl
theorem cf33:∀ args w,(callFunc 33 args).run Tryz.prog w = .ok (.enter 33 args) w:=fun _ _=>by kernel_rfl
theorem cf34:∀ args w,(callFunc 34 args).run Tryz.prog w = .ok (.enter 34 args) w:=fun _ _=>by kernel_rfl
theorem cf35:∀ args w,(callFunc 35 args).run Tryz.prog w = .ok (.enter 35 args) w:=fun _ _=>by kernel_rfl
theorem cf36:∀ args w,(callFunc 36 args).run Tryz.prog w = .ok (.enter 36 args) w:=fun _ _=>by kernel_rfl
theorem cf37:∀ args w,(callFunc 37 args).run Tryz.prog w = .ok (.enter 37 args) w:=fun _ _=>by kernel_rfl
theorem cf38:∀ args w,(callFunc 38 args).run Tryz.prog w = .ok (.enter 38 args) w:=fun _ _=>by kernel_rfl
theorem cf39:∀ args w,(callFunc 39 args).run Tryz.prog w = .ok (.enter 39 args) w:=fun _ _=>by kernel_rfl
theorem cf40:∀ args w,(callFunc 40 args).run Tryz.prog w = .ok (.enter 40 args) w:=fun _ _=>by kernel_rfl
theorem cf41:∀ args w,(callFunc 41 args).run Tryz.prog w = .ok (.enter 41 args) w:=fun _ _=>by kernel_rfl
theorem cf42:∀ args w,(callFunc 42 args).run Tryz.prog w = .ok (.enter 42 args) w:=fun _ _=>by kernel_rfl
theorem cf43:∀ args w,(callFunc 43 args).run Tryz.prog w = .ok (.enter 43 args) w:=fun _ _=>by kernel_rfl
theorem cf44:∀ args w,(callFunc 44 args).run Tryz.prog w = .ok (.enter 44 args) w:=fun _ _=>by kernel_rfl
theorem cf45:∀ args w,(callFunc 45 args).run Tryz.prog w = .ok (.enter 45 args) w:=fun _ _=>by kernel_rfl
theorem cf46:∀ args w,(callFunc 46 args).run Tryz.prog w = .ok (.enter 46 args) w:=fun _ _=>by kernel_rfl
theorem cf47:∀ args w,(callFunc 47 args).run Tryz.prog w = .ok (.enter 47 args) w:=fun _ _=>by kernel_rfl
theorem cf48:∀ args w,(callFunc 48 args).run Tryz.prog w = .ok (.enter 48 args) w:=fun _ _=>by kernel_rfl
theorem cf49:∀ args w,(callFunc 49 args).run Tryz.prog w = .ok (.enter 49 args) w:=fun _ _=>by kernel_rfl
theorem cf50:∀ args w,(callFunc 50 args).run Tryz.prog w = .ok (.enter 50 args) w:=fun _ _=>by kernel_rfl
theorem cf51:∀ args w,(callFunc 51 args).run Tryz.prog w = .ok (.enter 51 args) w:=fun _ _=>by kernel_rfl
theorem cf52:∀ args w,(callFunc 52 args).run Tryz.prog w = .ok (.enter 52 args) w:=fun _ _=>by kernel_rfl
theorem cf53:∀ args w,(callFunc 53 args).run Tryz.prog w = .ok (.enter 53 args) w:=fun _ _=>by kernel_rfl
theorem cf54:∀ args w,(callFunc 54 args).run Tryz.prog w = .ok (.enter 54 args) w:=fun _ _=>by kernel_rfl
theorem cf55:∀ args w,(callFunc 55 args).run Tryz.prog w = .ok (.enter 55 args) w:=fun _ _=>by kernel_rfl
theorem cf56:∀ args w,(callFunc 56 args).run Tryz.prog w = .ok (.enter 56 args) w:=fun _ _=>by kernel_rfl
theorem cf57:∀ args w,(callFunc 57 args).run Tryz.prog w = .ok (.enter 57 args) w:=fun _ _=>by kernel_rfl
theorem cf58:∀ args w,(callFunc 58 args).run Tryz.prog w = .ok (.enter 58 args) w:=fun _ _=>by kernel_rfl
theorem cf59:∀ args w,(callFunc 59 args).run Tryz.prog w = .ok (.enter 59 args) w:=fun _ _=>by kernel_rfl
theorem cf60:∀ args w,(callFunc 60 args).run Tryz.prog w = .ok (.enter 60 args) w:=fun _ _=>by kernel_rfl
theorem cf61:∀ args w,(callFunc 61 args).run Tryz.prog w = .ok (.enter 61 args) w:=fun _ _=>by kernel_rfl
theorem cf62:∀ args w,(callFunc 62 args).run Tryz.prog w = .ok (.enter 62 args) w:=fun _ _=>by kernel_rfl
theorem cf63:∀ args w,(callFunc 63 args).run Tryz.prog w = .ok (.enter 63 args) w:=fun _ _=>by kernel_rfl
theorem cf64:∀ args w,(callFunc 64 args).run Tryz.prog w = .ok (.enter 64 args) w:=fun _ _=>by kernel_rfl
theorem cf65:∀ args w,(callFunc 65 args).run Tryz.prog w = .ok (.enter 65 args) w:=fun _ _=>by kernel_rfl
theorem cf66:∀ args w,(callFunc 66 args).run Tryz.prog w = .ok (.enter 66 args) w:=fun _ _=>by kernel_rfl
theorem cf67:∀ args w,(callFunc 67 args).run Tryz.prog w = .ok (.enter 67 args) w:=fun _ _=>by kernel_rfl
theorem cf68:∀ args w,(callFunc 68 args).run Tryz.prog w = .ok (.enter 68 args) w:=fun _ _=>by kernel_rfl
theorem cf69:∀ args w,(callFunc 69 args).run Tryz.prog w = .ok (.enter 69 args) w:=fun _ _=>by kernel_rfl
theorem cf70:∀ args w,(callFunc 70 args).run Tryz.prog w = .ok (.enter 70 args) w:=fun _ _=>by kernel_rfl
theorem cf71:∀ args w,(callFunc 71 args).run Tryz.prog w = .ok (.enter 71 args) w:=fun _ _=>by kernel_rfl
theorem cf72:∀ args w,(callFunc 72 args).run Tryz.prog w = .ok (.enter 72 args) w:=fun _ _=>by kernel_rfl
theorem cf73:∀ args w,(callFunc 73 args).run Tryz.prog w = .ok (.enter 73 args) w:=fun _ _=>by kernel_rfl
theorem cf74:∀ args w,(callFunc 74 args).run Tryz.prog w = .ok (.enter 74 args) w:=fun _ _=>by kernel_rfl
theorem cf75:∀ args w,(callFunc 75 args).run Tryz.prog w = .ok (.enter 75 args) w:=fun _ _=>by kernel_rfl
theorem cf76:∀ args w,(callFunc 76 args).run Tryz.prog w = .ok (.enter 76 args) w:=fun _ _=>by kernel_rfl
theorem cf77:∀ args w,(callFunc 77 args).run Tryz.prog w = .ok (.enter 77 args) w:=fun _ _=>by kernel_rfl
theorem cf78:∀ args w,(callFunc 78 args).run Tryz.prog w = .ok (.enter 78 args) w:=fun _ _=>by kernel_rfl
theorem cf79:∀ args w,(callFunc 79 args).run Tryz.prog w = .ok (.enter 79 args) w:=fun _ _=>by kernel_rfl
theorem cf80:∀ args w,(callFunc 80 args).run Tryz.prog w = .ok (.enter 80 args) w:=fun _ _=>by kernel_rfl
theorem cf81:∀ args w,(callFunc 81 args).run Tryz.prog w = .ok (.enter 81 args) w:=fun _ _=>by kernel_rfl
theorem cf82:∀ args w,(callFunc 82 args).run Tryz.prog w = .ok (.enter 82 args) w:=fun _ _=>by kernel_rfl
theorem cf83:∀ args w,(callFunc 83 args).run Tryz.prog w = .ok (.enter 83 args) w:=fun _ _=>by kernel_rfl
theorem cf84:∀ args w,(callFunc 84 args).run Tryz.prog w = .ok (.enter 84 args) w:=fun _ _=>by kernel_rfl
theorem cf87:∀ args w,(callFunc 87 args).run Tryz.prog w = .ok (.enter 87 args) w:=fun _ _=>by kernel_rfl
theorem cf88:∀ args w,(callFunc 88 args).run Tryz.prog w = .ok (.enter 88 args) w:=fun _ _=>by kernel_rfl
theorem cf89:∀ args w,(callFunc 89 args).run Tryz.prog w = .ok (.enter 89 args) w:=fun _ _=>by kernel_rfl
theorem cf90:∀ args w,(callFunc 90 args).run Tryz.prog w = .ok (.enter 90 args) w:=fun _ _=>by kernel_rfl
theorem cf91:∀ args w,(callFunc 91 args).run Tryz.prog w = .ok (.enter 91 args) w:=fun _ _=>by kernel_rfl
theorem cf92:∀ args w,(callFunc 92 args).run Tryz.prog w = .ok (.enter 92 args) w:=fun _ _=>by kernel_rfl
theorem cf93:∀ args w,(callFunc 93 args).run Tryz.prog w = .ok (.enter 93 args) w:=fun _ _=>by kernel_rfl
theorem cf94:∀ args w,(callFunc 94 args).run Tryz.prog w = .ok (.enter 94 args) w:=fun _ _=>by kernel_rfl
theorem cf95:∀ args w,(callFunc 95 args).run Tryz.prog w = .ok (.enter 95 args) w:=fun _ _=>by kernel_rfl
theorem cf96:∀ args w,(callFunc 96 args).run Tryz.prog w = .ok (.enter 96 args) w:=fun _ _=>by kernel_rfl
theorem cf97:∀ args w,(callFunc 97 args).run Tryz.prog w = .ok (.enter 97 args) w:=fun _ _=>by kernel_rfl
theorem cf98:∀ args w,(callFunc 98 args).run Tryz.prog w = .ok (.enter 98 args) w:=fun _ _=>by kernel_rfl
theorem cf99:∀ args w,(callFunc 99 args).run Tryz.prog w = .ok (.enter 99 args) w:=fun _ _=>by kernel_rfl
theorem cf100:∀ args w,(callFunc 100 args).run Tryz.prog w = .ok (.enter 100 args) w:=fun _ _=>by kernel_rfl
theorem cf101:∀ args w,(callFunc 101 args).run Tryz.prog w = .ok (.enter 101 args) w:=fun _ _=>by kernel_rfl
theorem cf102:∀ args w,(callFunc 102 args).run Tryz.prog w = .ok (.enter 102 args) w:=fun _ _=>by kernel_rfl
theorem cf103:∀ args w,(callFunc 103 args).run Tryz.prog w = .ok (.enter 103 args) w:=fun _ _=>by kernel_rfl
theorem cf104:∀ args w,(callFunc 104 args).run Tryz.prog w = .ok (.enter 104 args) w:=fun _ _=>by kernel_rfl
theorem cf113:∀ args w,(callFunc 113 args).run Tryz.prog w = .ok (.enter 113 args) w:=fun _ _=>by kernel_rfl
theorem cf114:∀ args w,(callFunc 114 args).run Tryz.prog w = .ok (.enter 114 args) w:=fun _ _=>by kernel_rfl
theorem cf115:∀ args w,(callFunc 115 args).run Tryz.prog w = .ok (.enter 115 args) w:=fun _ _=>by kernel_rfl
theorem cf116:∀ args w,(callFunc 116 args).run Tryz.prog w = .ok (.enter 116 args) w:=fun _ _=>by kernel_rfl
theorem cf117:∀ args w,(callFunc 117 args).run Tryz.prog w = .ok (.enter 117 args) w:=fun _ _=>by kernel_rfl
theorem cf118:∀ args w,(callFunc 118 args).run Tryz.prog w = .ok (.enter 118 args) w:=fun _ _=>by kernel_rfl
theorem cf126:∀ args w,(callFunc 126 args).run Tryz.prog w = .ok (.enter 126 args) w:=fun _ _=>by kernel_rfl
theorem cf135:∀ args w,(callFunc 135 args).run Tryz.prog w = .ok (.enter 135 args) w:=fun _ _=>by kernel_rfl
theorem cf136:∀ args w,(callFunc 136 args).run Tryz.prog w = .ok (.enter 136 args) w:=fun _ _=>by kernel_rfl
theorem cf146:∀ args w,(callFunc 146 args).run Tryz.prog w = .ok (.enter 146 args) w:=fun _ _=>by kernel_rfl
theorem cf147:∀ args w,(callFunc 147 args).run Tryz.prog w = .ok (.enter 147 args) w:=fun _ _=>by kernel_rfl
theorem cf148:∀ args w,(callFunc 148 args).run Tryz.prog w = .ok (.enter 148 args) w:=fun _ _=>by kernel_rfl
theorem cf149:∀ args w,(callFunc 149 args).run Tryz.prog w = .ok (.enter 149 args) w:=fun _ _=>by kernel_rfl
theorem cf150:∀ args w,(callFunc 150 args).run Tryz.prog w = .ok (.enter 150 args) w:=fun _ _=>by kernel_rfl
theorem cf151:∀ args w,(callFunc 151 args).run Tryz.prog w = .ok (.enter 151 args) w:=fun _ _=>by kernel_rfl
theorem cf152:∀ args w,(callFunc 152 args).run Tryz.prog w = .ok (.enter 152 args) w:=fun _ _=>by kernel_rfl
theorem cf153:∀ args w,(callFunc 153 args).run Tryz.prog w = .ok (.enter 153 args) w:=fun _ _=>by kernel_rfl
theorem cf154:∀ args w,(callFunc 154 args).run Tryz.prog w = .ok (.enter 154 args) w:=fun _ _=>by kernel_rfl
theorem cf155:∀ args w,(callFunc 155 args).run Tryz.prog w = .ok (.enter 155 args) w:=fun _ _=>by kernel_rfl
theorem cf156:∀ args w,(callFunc 156 args).run Tryz.prog w = .ok (.enter 156 args) w:=fun _ _=>by kernel_rfl
theorem cf157:∀ args w,(callFunc 157 args).run Tryz.prog w = .ok (.enter 157 args) w:=fun _ _=>by kernel_rfl
theorem cf158:∀ args w,(callFunc 158 args).run Tryz.prog w = .ok (.enter 158 args) w:=fun _ _=>by kernel_rfl
theorem cf159:∀ args w,(callFunc 159 args).run Tryz.prog w = .ok (.enter 159 args) w:=fun _ _=>by kernel_rfl
theorem cf160:∀ args w,(callFunc 160 args).run Tryz.prog w = .ok (.enter 160 args) w:=fun _ _=>by kernel_rfl
theorem cf169:∀ args w,(callFunc 169 args).run Tryz.prog w = .ok (.enter 169 args) w:=fun _ _=>by kernel_rfl
theorem cf170:∀ args w,(callFunc 170 args).run Tryz.prog w = .ok (.enter 170 args) w:=fun _ _=>by kernel_rfl
theorem cf176:∀ args w,(callFunc 176 args).run Tryz.prog w = .ok (.enter 176 args) w:=fun _ _=>by kernel_rfl
theorem cf184:∀ args w,(callFunc 184 args).run Tryz.prog w = .ok (.enter 184 args) w:=fun _ _=>by kernel_rfl
theorem cf185:∀ args w,(callFunc 185 args).run Tryz.prog w = .ok (.enter 185 args) w:=fun _ _=>by kernel_rfl
theorem cf187:∀ args w,(callFunc 187 args).run Tryz.prog w = .ok (.enter 187 args) w:=fun _ _=>by kernel_rfl
theorem cf188:∀ args w,(callFunc 188 args).run Tryz.prog w = .ok (.enter 188 args) w:=fun _ _=>by kernel_rfl
theorem cf189:∀ args w,(callFunc 189 args).run Tryz.prog w = .ok (.enter 189 args) w:=fun _ _=>by kernel_rfl
theorem cf190:∀ args w,(callFunc 190 args).run Tryz.prog w = .ok (.enter 190 args) w:=fun _ _=>by kernel_rfl
theorem cf191:∀ args w,(callFunc 191 args).run Tryz.prog w = .ok (.enter 191 args) w:=fun _ _=>by kernel_rfl
theorem cf192:∀ args w,(callFunc 192 args).run Tryz.prog w = .ok (.enter 192 args) w:=fun _ _=>by kernel_rfl
theorem cf193:∀ args w,(callFunc 193 args).run Tryz.prog w = .ok (.enter 193 args) w:=fun _ _=>by kernel_rfl
theorem cf194:∀ args w,(callFunc 194 args).run Tryz.prog w = .ok (.enter 194 args) w:=fun _ _=>by kernel_rfl
theorem cf195:∀ args w,(callFunc 195 args).run Tryz.prog w = .ok (.enter 195 args) w:=fun _ _=>by kernel_rfl
theorem cf198:∀ args w,(callFunc 198 args).run Tryz.prog w = .ok (.enter 198 args) w:=fun _ _=>by kernel_rfl
theorem cf199:∀ args w,(callFunc 199 args).run Tryz.prog w = .ok (.enter 199 args) w:=fun _ _=>by kernel_rfl
theorem cf208:∀ args w,(callFunc 208 args).run Tryz.prog w = .ok (.enter 208 args) w:=fun _ _=>by kernel_rfl
theorem cf218:∀ args w,(callFunc 218 args).run Tryz.prog w = .ok (.enter 218 args) w:=fun _ _=>by kernel_rfl
theorem cf219:∀ args w,(callFunc 219 args).run Tryz.prog w = .ok (.enter 219 args) w:=fun _ _=>by kernel_rfl
theorem cf220:∀ args w,(callFunc 220 args).run Tryz.prog w = .ok (.enter 220 args) w:=fun _ _=>by kernel_rfl
theorem cf221:∀ args w,(callFunc 221 args).run Tryz.prog w = .ok (.enter 221 args) w:=fun _ _=>by kernel_rfl
theorem cf222:∀ args w,(callFunc 222 args).run Tryz.prog w = .ok (.enter 222 args) w:=fun _ _=>by kernel_rfl
theorem cf223:∀ args w,(callFunc 223 args).run Tryz.prog w = .ok (.enter 223 args) w:=fun _ _=>by kernel_rfl
theorem cf224:∀ args w,(callFunc 224 args).run Tryz.prog w = .ok (.enter 224 args) w:=fun _ _=>by kernel_rfl
theorem cf230:∀ args w,(callFunc 230 args).run Tryz.prog w = .ok (.enter 230 args) w:=fun _ _=>by kernel_rfl
theorem cf234:∀ args w,(callFunc 234 args).run Tryz.prog w = .ok (.enter 234 args) w:=fun _ _=>by kernel_rfl
theorem cf235:∀ args w,(callFunc 235 args).run Tryz.prog w = .ok (.enter 235 args) w:=fun _ _=>by kernel_rfl
theorem cf236:∀ args w,(callFunc 236 args).run Tryz.prog w = .ok (.enter 236 args) w:=fun _ _=>by kernel_rfl
end Go.Proofs.YtadlgemefhfejacGreatDoor
