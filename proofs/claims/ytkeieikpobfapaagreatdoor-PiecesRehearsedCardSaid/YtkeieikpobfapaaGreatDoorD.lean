/- Facts on the types and functions. Written by program. -/
import Derived.Test.YtkeieikpobfapaaGreatDoorProg
import Derived.KernelRfl
import Derived.Test.YtkeieikpobfapaaGreatDoorM
namespace Go.Proofs.YtkeieikpobfapaaGreatDoor
open Go Go.J Go.G
set_option linter.unusedSimpArgs false
theorem ty3:TyF Tryz.prog 3 false 1 8 [.int .i64 0]:=TyF.mk' (z:=.int .i64 0) Tryz.underlying3 rfl (by kernel_rfl) rfl
def R3:Rep Int:=⟨3,1,8,fun x=>[.int .i64 x],fun _=>rfl,fun x u hu=>by simp only [List.mem_cons,List.mem_nil_iff,or_false] at hu; rcases hu with rfl <;> rfl,by decide⟩
theorem ty4:TyF Tryz.prog 4 false 1 1 [.bool false]:=TyF.mk' (z:=.bool false) Tryz.underlying4 rfl (by kernel_rfl) rfl
def R4:Rep Bool:=⟨4,1,1,fun x=>[.bool x],fun _=>rfl,fun x u hu=>by simp only [List.mem_cons,List.mem_nil_iff,or_false] at hu; rcases hu with rfl <;> rfl,by decide⟩
theorem ty9:TyF Tryz.prog 9 false 1 16 [.string ByteArray.empty]:=TyF.mk' (z:=.string ByteArray.empty) Tryz.underlying9 rfl (by kernel_rfl) rfl
def R9:Rep ByteArray:=⟨9,1,16,fun x=>[.string x],fun _=>rfl,fun x u hu=>by simp only [List.mem_cons,List.mem_nil_iff,or_false] at hu; rcases hu with rfl <;> rfl,by decide⟩
theorem ty22:TyF Tryz.prog 22 false 1 24 [.slice none 0 0]:=TyF.mk' (z:=.slice none 0 0) Tryz.underlying22 rfl (by kernel_rfl) rfl
theorem ty25:TyF Tryz.prog 25 true 2 32 [.slice none 0 0,.int .i64 0]:=TyF.mk' (z:=.agg #[.slice none 0 0,.int .i64 0]) Tryz.underlying25 rfl (by kernel_rfl) rfl
theorem ty26:TyF Tryz.prog 26 false 1 24 [.slice none 0 0]:=TyF.mk' (z:=.slice none 0 0) Tryz.underlying26 rfl (by kernel_rfl) rfl
theorem ty28:TyF Tryz.prog 28 false 1 24 [.slice none 0 0]:=TyF.mk' (z:=.slice none 0 0) Tryz.underlying28 rfl (by kernel_rfl) rfl
theorem ty30:TyF Tryz.prog 30 false 1 24 [.slice none 0 0]:=TyF.mk' (z:=.slice none 0 0) Tryz.underlying30 rfl (by kernel_rfl) rfl
theorem ty33:TyF Tryz.prog 33 false 1 24 [.slice none 0 0]:=TyF.mk' (z:=.slice none 0 0) Tryz.underlying33 rfl (by kernel_rfl) rfl
theorem ty37:TyF Tryz.prog 37 false 1 8 [.int .i64 0]:=TyF.mk' (z:=.int .i64 0) Tryz.underlying37 rfl (by kernel_rfl) rfl
def R37:Rep Int:=⟨37,1,8,fun x=>[.int .i64 x],fun _=>rfl,fun x u hu=>by simp only [List.mem_cons,List.mem_nil_iff,or_false] at hu; rcases hu with rfl <;> rfl,by decide⟩
theorem ty40:TyF Tryz.prog 40 false 1 24 [.slice none 0 0]:=TyF.mk' (z:=.slice none 0 0) Tryz.underlying40 rfl (by kernel_rfl) rfl
theorem ty61:TyF Tryz.prog 61 true 2 16 [.int .i64 0,.int .i64 0]:=TyF.mk' (z:=.agg #[.int .i64 0,.int .i64 0]) Tryz.underlying61 rfl (by kernel_rfl) rfl
def R61:Rep TWindow:=⟨61,2,16,fun x=>[.int .i64 x.From,.int .i64 x.To],fun _=>rfl,fun x u hu=>by simp only [List.mem_cons,List.mem_nil_iff,or_false] at hu; rcases hu with rfl | rfl <;> rfl,by decide⟩
theorem ty63:TyF Tryz.prog 63 true 6 88 [.string ByteArray.empty,.string ByteArray.empty,.string ByteArray.empty,.slice none 0 0,.int .i64 0,.int .i64 0]:=TyF.mk' (z:=.agg #[.string ByteArray.empty,.string ByteArray.empty,.string ByteArray.empty,.slice none 0 0,.int .i64 0,.int .i64 0]) Tryz.underlying63 rfl (by kernel_rfl) rfl
theorem ty67:TyF Tryz.prog 67 true 2 32 [.string ByteArray.empty,.string ByteArray.empty]:=TyF.mk' (z:=.agg #[.string ByteArray.empty,.string ByteArray.empty]) Tryz.underlying67 rfl (by kernel_rfl) rfl
def R67:Rep TPair:=⟨67,2,32,fun x=>[.string x.Name,.string x.Value],fun _=>rfl,fun x u hu=>by simp only [List.mem_cons,List.mem_nil_iff,or_false] at hu; rcases hu with rfl | rfl <;> rfl,by decide⟩
theorem ty76:TyF Tryz.prog 76 true 3 48 [.string ByteArray.empty,.string ByteArray.empty,.string ByteArray.empty]:=TyF.mk' (z:=.agg #[.string ByteArray.empty,.string ByteArray.empty,.string ByteArray.empty]) Tryz.underlying76 rfl (by kernel_rfl) rfl
def R76:Rep TSings:=⟨76,3,48,fun x=>[.string x.Singer,.string x.Piece,.string x.Part],fun _=>rfl,fun x u hu=>by simp only [List.mem_cons,List.mem_nil_iff,or_false] at hu; rcases hu with rfl | rfl | rfl <;> rfl,by decide⟩
theorem ty79:TyF Tryz.prog 79 true 3 32 [.int .i64 0,.string ByteArray.empty,.bool false]:=TyF.mk' (z:=.agg #[.int .i64 0,.string ByteArray.empty,.bool false]) Tryz.underlying79 rfl (by kernel_rfl) rfl
def R79:Rep TCame:=⟨79,3,32,fun x=>[.int .i64 x.At,.string x.Singer,.bool x.Left],fun _=>rfl,fun x u hu=>by simp only [List.mem_cons,List.mem_nil_iff,or_false] at hu; rcases hu with rfl | rfl | rfl <;> rfl,by decide⟩
theorem ty83:TyF Tryz.prog 83 true 2 24 [.string ByteArray.empty,.int .i64 0]:=TyF.mk' (z:=.agg #[.string ByteArray.empty,.int .i64 0]) Tryz.underlying83 rfl (by kernel_rfl) rfl
def R83:Rep TWish:=⟨83,2,24,fun x=>[.string x.Piece,.int .i64 x.Need],fun _=>rfl,fun x u hu=>by simp only [List.mem_cons,List.mem_nil_iff,or_false] at hu; rcases hu with rfl | rfl <;> rfl,by decide⟩
theorem ty93:TyF Tryz.prog 93 false 1 8 [.map none]:=TyF.mk' (z:=.map none) Tryz.underlying93 rfl (by kernel_rfl) rfl
theorem ty97:TyF Tryz.prog 97 true 2 24 [.string ByteArray.empty,.int .i64 0]:=TyF.mk' (z:=.agg #[.string ByteArray.empty,.int .i64 0]) Tryz.underlying97 rfl (by kernel_rfl) rfl
def R97:Rep Trehearse_lacking:=⟨97,2,24,fun x=>[.string x.piece,.int .i64 x.many],fun _=>rfl,fun x u hu=>by simp only [List.mem_cons,List.mem_nil_iff,or_false] at hu; rcases hu with rfl | rfl <;> rfl,by decide⟩
theorem ty105:TyF Tryz.prog 105 false 1 8 [.map none]:=TyF.mk' (z:=.map none) Tryz.underlying105 rfl (by kernel_rfl) rfl
theorem ty107:TyF Tryz.prog 107 true 3 56 [.slice none 0 0,.slice none 0 0,.map none]:=TyF.mk' (z:=.agg #[.slice none 0 0,.slice none 0 0,.map none]) Tryz.underlying107 rfl (by kernel_rfl) rfl
theorem ty151:TyF Tryz.prog 151 false 1 8 [.map none]:=TyF.mk' (z:=.map none) Tryz.underlying151 rfl (by kernel_rfl) rfl
def N30:Nst (List TCame) SV:=⟨⟨30,1,24,fun p=>[p.2.v],fun _=>rfl,fun p u hu=>by simp only [List.mem_cons,List.mem_nil_iff,or_false] at hu; rcases hu with rfl <;> rfl,by decide⟩,fun p w=>RdS R79 (SV.v p.2) p.1 w⟩
def N63:Nst TSlot SV:=⟨⟨63,6,88,fun p=>[.string p.1.Key,.string p.1.Room,.string p.1.Piece,p.2.v,.int .i64 p.1.Time.From,.int .i64 p.1.Time.To],fun _=>rfl,fun p u hu=>by simp only [List.mem_cons,List.mem_nil_iff,or_false] at hu; rcases hu with rfl | rfl | rfl | rfl | rfl | rfl <;> rfl,by decide⟩,fun p w=>RdS R9 (SV.v p.2) p.1.Parts w⟩
theorem eqst67_ (d:Nat) (x y:TPair):EqV Tryz.prog (d+2) 67 (.agg (R67.enc x).toArray) (.agg (R67.enc y).toArray) (decide (x=y)):=by
  have h:((x.Name==y.Name)&&((x.Value==y.Value)&&true))=decide (x=y):=by rw [Bool.eq_iff_iff]; cases x; cases y; simp [ba_beq]
  rw [← h]
  exact eqv_struct Tryz.underlying67 (by kernel_rfl) (eqf_cons (.string x.Name) (.string y.Name) (by decide) (fun _=>by kernel_rfl) (fun _=>by kernel_rfl) (eqv_str Tryz.underlying9 _ _) (eqf_cons (.string x.Value) (.string y.Value) (by decide) (fun _=>by kernel_rfl) (fun _=>by kernel_rfl) (eqv_str Tryz.underlying9 _ _) eqf_nil))
theorem eqst67 (x y:TPair):EqV Tryz.prog 10000 67 (.agg (R67.enc x).toArray) (.agg (R67.enc y).toArray) (decide (x=y)):=eqst67_ 9998 x y
theorem eqst79_ (d:Nat) (x y:TCame):EqV Tryz.prog (d+2) 79 (.agg (R79.enc x).toArray) (.agg (R79.enc y).toArray) (decide (x=y)):=by
  have h:((x.At==y.At)&&((x.Singer==y.Singer)&&((x.Left==y.Left)&&true)))=decide (x=y):=by rw [Bool.eq_iff_iff]; cases x; cases y; simp [ba_beq]
  rw [← h]
  exact eqv_struct Tryz.underlying79 (by kernel_rfl) (eqf_cons (.int .i64 x.At) (.int .i64 y.At) (by decide) (fun _=>by kernel_rfl) (fun _=>by kernel_rfl) (eqv_int Tryz.underlying3 _ _) (eqf_cons (.string x.Singer) (.string y.Singer) (by decide) (fun _=>by kernel_rfl) (fun _=>by kernel_rfl) (eqv_str Tryz.underlying9 _ _) (eqf_cons (.bool x.Left) (.bool y.Left) (by decide) (fun _=>by kernel_rfl) (fun _=>by kernel_rfl) (eqv_bool Tryz.underlying4 _ _) eqf_nil)))
theorem eqst79 (x y:TCame):EqV Tryz.prog 10000 79 (.agg (R79.enc x).toArray) (.agg (R79.enc y).toArray) (decide (x=y)):=eqst79_ 9998 x y
@[reducible] def vv3:Int→Value:=fun x=>.int .i64 x
@[reducible] def vv4:Bool→Value:=fun x=>.bool x
@[reducible] def kv9:ByteArray→Value:=fun x=>.string x
theorem keyF9:KeyF Tryz.prog 9 kv9:=keyF_str Tryz.underlying9
theorem fl25_0:FldF Tryz.prog 25 0 0:=fun _ _=>by kernel_rfl
theorem fl25_1:FldF Tryz.prog 25 1 1:=fun _ _=>by kernel_rfl
theorem fl61_0:FldF Tryz.prog 61 0 0:=fun _ _=>by kernel_rfl
theorem fl61_1:FldF Tryz.prog 61 1 1:=fun _ _=>by kernel_rfl
theorem fl63_0:FldF Tryz.prog 63 0 0:=fun _ _=>by kernel_rfl
theorem fl63_1:FldF Tryz.prog 63 1 1:=fun _ _=>by kernel_rfl
theorem fl63_2:FldF Tryz.prog 63 2 2:=fun _ _=>by kernel_rfl
theorem fl63_3:FldF Tryz.prog 63 3 3:=fun _ _=>by kernel_rfl
theorem fl63_4:FldF Tryz.prog 63 4 4:=fun _ _=>by kernel_rfl
theorem fl67_0:FldF Tryz.prog 67 0 0:=fun _ _=>by kernel_rfl
theorem fl76_0:FldF Tryz.prog 76 0 0:=fun _ _=>by kernel_rfl
theorem fl76_1:FldF Tryz.prog 76 1 1:=fun _ _=>by kernel_rfl
theorem fl76_2:FldF Tryz.prog 76 2 2:=fun _ _=>by kernel_rfl
theorem fl79_0:FldF Tryz.prog 79 0 0:=fun _ _=>by kernel_rfl
theorem fl79_1:FldF Tryz.prog 79 1 1:=fun _ _=>by kernel_rfl
theorem fl79_2:FldF Tryz.prog 79 2 2:=fun _ _=>by kernel_rfl
theorem fl83_0:FldF Tryz.prog 83 0 0:=fun _ _=>by kernel_rfl
theorem fl83_1:FldF Tryz.prog 83 1 1:=fun _ _=>by kernel_rfl
theorem fl97_0:FldF Tryz.prog 97 0 0:=fun _ _=>by kernel_rfl
theorem fl97_1:FldF Tryz.prog 97 1 1:=fun _ _=>by kernel_rfl
theorem fl107_0:FldF Tryz.prog 107 0 0:=fun _ _=>by kernel_rfl
theorem fl107_2:FldF Tryz.prog 107 2 2:=fun _ _=>by kernel_rfl
theorem cf4:∀ args w,(callFunc 4 args).run Tryz.prog w = .ok (.enter 4 args) w:=fun _ _=>by kernel_rfl
theorem cf5:∀ args w,(callFunc 5 args).run Tryz.prog w = .ok (.enter 5 args) w:=fun _ _=>by kernel_rfl
theorem cf6:∀ args w,(callFunc 6 args).run Tryz.prog w = .ok (.enter 6 args) w:=fun _ _=>by kernel_rfl
theorem cf7:∀ args w,(callFunc 7 args).run Tryz.prog w = .ok (.enter 7 args) w:=fun _ _=>by kernel_rfl
theorem cf8:∀ args w,(callFunc 8 args).run Tryz.prog w = .ok (.enter 8 args) w:=fun _ _=>by kernel_rfl
theorem cf9:∀ args w,(callFunc 9 args).run Tryz.prog w = .ok (.enter 9 args) w:=fun _ _=>by kernel_rfl
theorem cf10:∀ args w,(callFunc 10 args).run Tryz.prog w = .ok (.enter 10 args) w:=fun _ _=>by kernel_rfl
theorem cf11:∀ args w,(callFunc 11 args).run Tryz.prog w = .ok (.enter 11 args) w:=fun _ _=>by kernel_rfl
theorem cf12:∀ args w,(callFunc 12 args).run Tryz.prog w = .ok (.enter 12 args) w:=fun _ _=>by kernel_rfl
theorem cf13:∀ args w,(callFunc 13 args).run Tryz.prog w = .ok (.enter 13 args) w:=fun _ _=>by kernel_rfl
theorem cf14:∀ args w,(callFunc 14 args).run Tryz.prog w = .ok (.enter 14 args) w:=fun _ _=>by kernel_rfl
theorem cf15:∀ args w,(callFunc 15 args).run Tryz.prog w = .ok (.enter 15 args) w:=fun _ _=>by kernel_rfl
theorem cf16:∀ args w,(callFunc 16 args).run Tryz.prog w = .ok (.enter 16 args) w:=fun _ _=>by kernel_rfl
theorem cf17:∀ args w,(callFunc 17 args).run Tryz.prog w = .ok (.enter 17 args) w:=fun _ _=>by kernel_rfl
theorem cf18:∀ args w,(callFunc 18 args).run Tryz.prog w = .ok (.enter 18 args) w:=fun _ _=>by kernel_rfl
theorem cf19:∀ args w,(callFunc 19 args).run Tryz.prog w = .ok (.enter 19 args) w:=fun _ _=>by kernel_rfl
theorem cf20:∀ args w,(callFunc 20 args).run Tryz.prog w = .ok (.enter 20 args) w:=fun _ _=>by kernel_rfl
theorem cf21:∀ args w,(callFunc 21 args).run Tryz.prog w = .ok (.enter 21 args) w:=fun _ _=>by kernel_rfl
theorem cf22:∀ args w,(callFunc 22 args).run Tryz.prog w = .ok (.enter 22 args) w:=fun _ _=>by kernel_rfl
theorem cf23:∀ args w,(callFunc 23 args).run Tryz.prog w = .ok (.enter 23 args) w:=fun _ _=>by kernel_rfl
theorem cf24:∀ args w,(callFunc 24 args).run Tryz.prog w = .ok (.enter 24 args) w:=fun _ _=>by kernel_rfl
theorem cf25:∀ args w,(callFunc 25 args).run Tryz.prog w = .ok (.enter 25 args) w:=fun _ _=>by kernel_rfl
theorem cf26:∀ args w,(callFunc 26 args).run Tryz.prog w = .ok (.enter 26 args) w:=fun _ _=>by kernel_rfl
theorem cf27:∀ args w,(callFunc 27 args).run Tryz.prog w = .ok (.enter 27 args) w:=fun _ _=>by kernel_rfl
theorem cf28:∀ args w,(callFunc 28 args).run Tryz.prog w = .ok (.enter 28 args) w:=fun _ _=>by kernel_rfl
theorem cf29:∀ args w,(callFunc 29 args).run Tryz.prog w = .ok (.enter 29 args) w:=fun _ _=>by kernel_rfl
theorem cf30:∀ args w,(callFunc 30 args).run Tryz.prog w = .ok (.enter 30 args) w:=fun _ _=>by kernel_rfl
theorem cf31:∀ args w,(callFunc 31 args).run Tryz.prog w = .ok (.enter 31 args) w:=fun _ _=>by kernel_rfl
theorem cf32:∀ args w,(callFunc 32 args).run Tryz.prog w = .ok (.enter 32 args) w:=fun _ _=>by kernel_rfl
theorem cf33:∀ args w,(callFunc 33 args).run Tryz.prog w = .ok (.enter 33 args) w:=fun _ _=>by kernel_rfl
theorem cf34:∀ args w,(callFunc 34 args).run Tryz.prog w = .ok (.enter 34 args) w:=fun _ _=>by kernel_rfl
theorem cf35:∀ args w,(callFunc 35 args).run Tryz.prog w = .ok (.enter 35 args) w:=fun _ _=>by kernel_rfl
theorem cf36:∀ args w,(callFunc 36 args).run Tryz.prog w = .ok (.enter 36 args) w:=fun _ _=>by kernel_rfl
theorem cf37:∀ args w,(callFunc 37 args).run Tryz.prog w = .ok (.enter 37 args) w:=fun _ _=>by kernel_rfl
theorem cf38:∀ args w,(callFunc 38 args).run Tryz.prog w = .ok (.enter 38 args) w:=fun _ _=>by kernel_rfl
theorem cf39:∀ args w,(callFunc 39 args).run Tryz.prog w = .ok (.enter 39 args) w:=fun _ _=>by kernel_rfl
theorem cf40:∀ args w,(callFunc 40 args).run Tryz.prog w = .ok (.enter 40 args) w:=fun _ _=>by kernel_rfl
theorem cf41:∀ args w,(callFunc 41 args).run Tryz.prog w = .ok (.enter 41 args) w:=fun _ _=>by kernel_rfl
theorem cf42:∀ args w,(callFunc 42 args).run Tryz.prog w = .ok (.enter 42 args) w:=fun _ _=>by kernel_rfl
theorem cf43:∀ args w,(callFunc 43 args).run Tryz.prog w = .ok (.enter 43 args) w:=fun _ _=>by kernel_rfl
theorem cf44:∀ args w,(callFunc 44 args).run Tryz.prog w = .ok (.enter 44 args) w:=fun _ _=>by kernel_rfl
theorem cf45:∀ args w,(callFunc 45 args).run Tryz.prog w = .ok (.enter 45 args) w:=fun _ _=>by kernel_rfl
theorem cf46:∀ args w,(callFunc 46 args).run Tryz.prog w = .ok (.enter 46 args) w:=fun _ _=>by kernel_rfl
theorem cf47:∀ args w,(callFunc 47 args).run Tryz.prog w = .ok (.enter 47 args) w:=fun _ _=>by kernel_rfl
theorem cf48:∀ args w,(callFunc 48 args).run Tryz.prog w = .ok (.enter 48 args) w:=fun _ _=>by kernel_rfl
theorem cf49:∀ args w,(callFunc 49 args).run Tryz.prog w = .ok (.enter 49 args) w:=fun _ _=>by kernel_rfl
theorem cf50:∀ args w,(callFunc 50 args).run Tryz.prog w = .ok (.enter 50 args) w:=fun _ _=>by kernel_rfl
theorem cf51:∀ args w,(callFunc 51 args).run Tryz.prog w = .ok (.enter 51 args) w:=fun _ _=>by kernel_rfl
theorem cf52:∀ args w,(callFunc 52 args).run Tryz.prog w = .ok (.enter 52 args) w:=fun _ _=>by kernel_rfl
theorem cf53:∀ args w,(callFunc 53 args).run Tryz.prog w = .ok (.enter 53 args) w:=fun _ _=>by kernel_rfl
theorem cf54:∀ args w,(callFunc 54 args).run Tryz.prog w = .ok (.enter 54 args) w:=fun _ _=>by kernel_rfl
theorem cf55:∀ args w,(callFunc 55 args).run Tryz.prog w = .ok (.enter 55 args) w:=fun _ _=>by kernel_rfl
theorem cf56:∀ args w,(callFunc 56 args).run Tryz.prog w = .ok (.enter 56 args) w:=fun _ _=>by kernel_rfl
theorem cf57:∀ args w,(callFunc 57 args).run Tryz.prog w = .ok (.enter 57 args) w:=fun _ _=>by kernel_rfl
theorem cf58:∀ args w,(callFunc 58 args).run Tryz.prog w = .ok (.enter 58 args) w:=fun _ _=>by kernel_rfl
theorem cf59:∀ args w,(callFunc 59 args).run Tryz.prog w = .ok (.enter 59 args) w:=fun _ _=>by kernel_rfl
theorem cf60:∀ args w,(callFunc 60 args).run Tryz.prog w = .ok (.enter 60 args) w:=fun _ _=>by kernel_rfl
theorem cf61:∀ args w,(callFunc 61 args).run Tryz.prog w = .ok (.enter 61 args) w:=fun _ _=>by kernel_rfl
theorem cf62:∀ args w,(callFunc 62 args).run Tryz.prog w = .ok (.enter 62 args) w:=fun _ _=>by kernel_rfl
theorem cf63:∀ args w,(callFunc 63 args).run Tryz.prog w = .ok (.enter 63 args) w:=fun _ _=>by kernel_rfl
theorem cf64:∀ args w,(callFunc 64 args).run Tryz.prog w = .ok (.enter 64 args) w:=fun _ _=>by kernel_rfl
theorem cf65:∀ args w,(callFunc 65 args).run Tryz.prog w = .ok (.enter 65 args) w:=fun _ _=>by kernel_rfl
theorem cf66:∀ args w,(callFunc 66 args).run Tryz.prog w = .ok (.enter 66 args) w:=fun _ _=>by kernel_rfl
theorem cf67:∀ args w,(callFunc 67 args).run Tryz.prog w = .ok (.enter 67 args) w:=fun _ _=>by kernel_rfl
theorem cf68:∀ args w,(callFunc 68 args).run Tryz.prog w = .ok (.enter 68 args) w:=fun _ _=>by kernel_rfl
theorem cf69:∀ args w,(callFunc 69 args).run Tryz.prog w = .ok (.enter 69 args) w:=fun _ _=>by kernel_rfl
theorem cf70:∀ args w,(callFunc 70 args).run Tryz.prog w = .ok (.enter 70 args) w:=fun _ _=>by kernel_rfl
theorem cf71:∀ args w,(callFunc 71 args).run Tryz.prog w = .ok (.enter 71 args) w:=fun _ _=>by kernel_rfl
theorem cf72:∀ args w,(callFunc 72 args).run Tryz.prog w = .ok (.enter 72 args) w:=fun _ _=>by kernel_rfl
theorem cf73:∀ args w,(callFunc 73 args).run Tryz.prog w = .ok (.enter 73 args) w:=fun _ _=>by kernel_rfl
theorem cf74:∀ args w,(callFunc 74 args).run Tryz.prog w = .ok (.enter 74 args) w:=fun _ _=>by kernel_rfl
theorem cf75:∀ args w,(callFunc 75 args).run Tryz.prog w = .ok (.enter 75 args) w:=fun _ _=>by kernel_rfl
theorem cf76:∀ args w,(callFunc 76 args).run Tryz.prog w = .ok (.enter 76 args) w:=fun _ _=>by kernel_rfl
theorem cf77:∀ args w,(callFunc 77 args).run Tryz.prog w = .ok (.enter 77 args) w:=fun _ _=>by kernel_rfl
theorem cf78:∀ args w,(callFunc 78 args).run Tryz.prog w = .ok (.enter 78 args) w:=fun _ _=>by kernel_rfl
theorem cf79:∀ args w,(callFunc 79 args).run Tryz.prog w = .ok (.enter 79 args) w:=fun _ _=>by kernel_rfl
theorem cf80:∀ args w,(callFunc 80 args).run Tryz.prog w = .ok (.enter 80 args) w:=fun _ _=>by kernel_rfl
theorem cf81:∀ args w,(callFunc 81 args).run Tryz.prog w = .ok (.enter 81 args) w:=fun _ _=>by kernel_rfl
theorem cf82:∀ args w,(callFunc 82 args).run Tryz.prog w = .ok (.enter 82 args) w:=fun _ _=>by kernel_rfl
theorem cf83:∀ args w,(callFunc 83 args).run Tryz.prog w = .ok (.enter 83 args) w:=fun _ _=>by kernel_rfl
theorem cf84:∀ args w,(callFunc 84 args).run Tryz.prog w = .ok (.enter 84 args) w:=fun _ _=>by kernel_rfl
theorem cf85:∀ args w,(callFunc 85 args).run Tryz.prog w = .ok (.enter 85 args) w:=fun _ _=>by kernel_rfl
theorem cf86:∀ args w,(callFunc 86 args).run Tryz.prog w = .ok (.enter 86 args) w:=fun _ _=>by kernel_rfl
theorem cf87:∀ args w,(callFunc 87 args).run Tryz.prog w = .ok (.enter 87 args) w:=fun _ _=>by kernel_rfl
theorem cf88:∀ args w,(callFunc 88 args).run Tryz.prog w = .ok (.enter 88 args) w:=fun _ _=>by kernel_rfl
theorem cf89:∀ args w,(callFunc 89 args).run Tryz.prog w = .ok (.enter 89 args) w:=fun _ _=>by kernel_rfl
theorem cf90:∀ args w,(callFunc 90 args).run Tryz.prog w = .ok (.enter 90 args) w:=fun _ _=>by kernel_rfl
theorem cf91:∀ args w,(callFunc 91 args).run Tryz.prog w = .ok (.enter 91 args) w:=fun _ _=>by kernel_rfl
theorem cf92:∀ args w,(callFunc 92 args).run Tryz.prog w = .ok (.enter 92 args) w:=fun _ _=>by kernel_rfl
theorem cf93:∀ args w,(callFunc 93 args).run Tryz.prog w = .ok (.enter 93 args) w:=fun _ _=>by kernel_rfl
theorem cf94:∀ args w,(callFunc 94 args).run Tryz.prog w = .ok (.enter 94 args) w:=fun _ _=>by kernel_rfl
theorem cf95:∀ args w,(callFunc 95 args).run Tryz.prog w = .ok (.enter 95 args) w:=fun _ _=>by kernel_rfl
theorem cf96:∀ args w,(callFunc 96 args).run Tryz.prog w = .ok (.enter 96 args) w:=fun _ _=>by kernel_rfl
theorem cf97:∀ args w,(callFunc 97 args).run Tryz.prog w = .ok (.enter 97 args) w:=fun _ _=>by kernel_rfl
theorem cf98:∀ args w,(callFunc 98 args).run Tryz.prog w = .ok (.enter 98 args) w:=fun _ _=>by kernel_rfl
theorem cf99:∀ args w,(callFunc 99 args).run Tryz.prog w = .ok (.enter 99 args) w:=fun _ _=>by kernel_rfl
theorem cf100:∀ args w,(callFunc 100 args).run Tryz.prog w = .ok (.enter 100 args) w:=fun _ _=>by kernel_rfl
theorem cf101:∀ args w,(callFunc 101 args).run Tryz.prog w = .ok (.enter 101 args) w:=fun _ _=>by kernel_rfl
theorem cf102:∀ args w,(callFunc 102 args).run Tryz.prog w = .ok (.enter 102 args) w:=fun _ _=>by kernel_rfl
theorem cf105:∀ args w,(callFunc 105 args).run Tryz.prog w = .ok (.enter 105 args) w:=fun _ _=>by kernel_rfl
theorem cf106:∀ args w,(callFunc 106 args).run Tryz.prog w = .ok (.enter 106 args) w:=fun _ _=>by kernel_rfl
theorem cf107:∀ args w,(callFunc 107 args).run Tryz.prog w = .ok (.enter 107 args) w:=fun _ _=>by kernel_rfl
theorem cf109:∀ args w,(callFunc 109 args).run Tryz.prog w = .ok (.enter 109 args) w:=fun _ _=>by kernel_rfl
theorem cf110:∀ args w,(callFunc 110 args).run Tryz.prog w = .ok (.enter 110 args) w:=fun _ _=>by kernel_rfl
theorem cf111:∀ args w,(callFunc 111 args).run Tryz.prog w = .ok (.enter 111 args) w:=fun _ _=>by kernel_rfl
theorem cf112:∀ args w,(callFunc 112 args).run Tryz.prog w = .ok (.enter 112 args) w:=fun _ _=>by kernel_rfl
theorem cf113:∀ args w,(callFunc 113 args).run Tryz.prog w = .ok (.enter 113 args) w:=fun _ _=>by kernel_rfl
theorem cf114:∀ args w,(callFunc 114 args).run Tryz.prog w = .ok (.enter 114 args) w:=fun _ _=>by kernel_rfl
theorem cf115:∀ args w,(callFunc 115 args).run Tryz.prog w = .ok (.enter 115 args) w:=fun _ _=>by kernel_rfl
theorem cf116:∀ args w,(callFunc 116 args).run Tryz.prog w = .ok (.enter 116 args) w:=fun _ _=>by kernel_rfl
theorem cf117:∀ args w,(callFunc 117 args).run Tryz.prog w = .ok (.enter 117 args) w:=fun _ _=>by kernel_rfl
theorem cf118:∀ args w,(callFunc 118 args).run Tryz.prog w = .ok (.enter 118 args) w:=fun _ _=>by kernel_rfl
theorem cf119:∀ args w,(callFunc 119 args).run Tryz.prog w = .ok (.enter 119 args) w:=fun _ _=>by kernel_rfl
theorem cf120:∀ args w,(callFunc 120 args).run Tryz.prog w = .ok (.enter 120 args) w:=fun _ _=>by kernel_rfl
theorem cf121:∀ args w,(callFunc 121 args).run Tryz.prog w = .ok (.enter 121 args) w:=fun _ _=>by kernel_rfl
theorem cf122:∀ args w,(callFunc 122 args).run Tryz.prog w = .ok (.enter 122 args) w:=fun _ _=>by kernel_rfl
theorem cf123:∀ args w,(callFunc 123 args).run Tryz.prog w = .ok (.enter 123 args) w:=fun _ _=>by kernel_rfl
theorem cf124:∀ args w,(callFunc 124 args).run Tryz.prog w = .ok (.enter 124 args) w:=fun _ _=>by kernel_rfl
theorem cf133:∀ args w,(callFunc 133 args).run Tryz.prog w = .ok (.enter 133 args) w:=fun _ _=>by kernel_rfl
theorem cf142:∀ args w,(callFunc 142 args).run Tryz.prog w = .ok (.enter 142 args) w:=fun _ _=>by kernel_rfl
theorem cf145:∀ args w,(callFunc 145 args).run Tryz.prog w = .ok (.enter 145 args) w:=fun _ _=>by kernel_rfl
theorem cf155:∀ args w,(callFunc 155 args).run Tryz.prog w = .ok (.enter 155 args) w:=fun _ _=>by kernel_rfl
theorem cf157:∀ args w,(callFunc 157 args).run Tryz.prog w = .ok (.enter 157 args) w:=fun _ _=>by kernel_rfl
theorem cf158:∀ args w,(callFunc 158 args).run Tryz.prog w = .ok (.enter 158 args) w:=fun _ _=>by kernel_rfl
theorem cf159:∀ args w,(callFunc 159 args).run Tryz.prog w = .ok (.enter 159 args) w:=fun _ _=>by kernel_rfl
theorem cf160:∀ args w,(callFunc 160 args).run Tryz.prog w = .ok (.enter 160 args) w:=fun _ _=>by kernel_rfl
theorem cf161:∀ args w,(callFunc 161 args).run Tryz.prog w = .ok (.enter 161 args) w:=fun _ _=>by kernel_rfl
theorem cf169:∀ args w,(callFunc 169 args).run Tryz.prog w = .ok (.enter 169 args) w:=fun _ _=>by kernel_rfl
theorem cf177:∀ args w,(callFunc 177 args).run Tryz.prog w = .ok (.enter 177 args) w:=fun _ _=>by kernel_rfl
theorem cf178:∀ args w,(callFunc 178 args).run Tryz.prog w = .ok (.enter 178 args) w:=fun _ _=>by kernel_rfl
theorem cf197:∀ args w,(callFunc 197 args).run Tryz.prog w = .ok (.enter 197 args) w:=fun _ _=>by kernel_rfl
theorem cf205:∀ args w,(callFunc 205 args).run Tryz.prog w = .ok (.enter 205 args) w:=fun _ _=>by kernel_rfl
theorem cf206:∀ args w,(callFunc 206 args).run Tryz.prog w = .ok (.enter 206 args) w:=fun _ _=>by kernel_rfl
theorem cf207:∀ args w,(callFunc 207 args).run Tryz.prog w = .ok (.enter 207 args) w:=fun _ _=>by kernel_rfl
end Go.Proofs.YtkeieikpobfapaaGreatDoor
