/- Facts on the types and functions. Written by program. -/
import Derived.Test.YtdeoejkgmeemaafGreatDoorProg
import Derived.KernelRfl
import Derived.Test.YtdeoejkgmeemaafGreatDoorM
namespace Go.Proofs.YtdeoejkgmeemaafGreatDoor
open Go Go.J Go.G
set_option linter.unusedSimpArgs false
theorem ty3 : TyF Tryz.prog 3 false 1 8 [.int .i64 0] := TyF.mk' (z := .int .i64 0) Tryz.underlying3 rfl (by kernel_rfl) rfl
def R3 : Rep Int := ⟨3, 1, 8, fun x => [.int .i64 x], fun _ => rfl, fun x u hu => by simp only [List.mem_cons, List.mem_nil_iff, or_false] at hu; rcases hu with rfl <;> rfl, by decide⟩
theorem ty4 : TyF Tryz.prog 4 false 1 1 [.bool false] := TyF.mk' (z := .bool false) Tryz.underlying4 rfl (by kernel_rfl) rfl
def R4 : Rep Bool := ⟨4, 1, 1, fun x => [.bool x], fun _ => rfl, fun x u hu => by simp only [List.mem_cons, List.mem_nil_iff, or_false] at hu; rcases hu with rfl <;> rfl, by decide⟩
theorem ty9 : TyF Tryz.prog 9 false 1 16 [.string ByteArray.empty] := TyF.mk' (z := .string ByteArray.empty) Tryz.underlying9 rfl (by kernel_rfl) rfl
def R9 : Rep ByteArray := ⟨9, 1, 16, fun x => [.string x], fun _ => rfl, fun x u hu => by simp only [List.mem_cons, List.mem_nil_iff, or_false] at hu; rcases hu with rfl <;> rfl, by decide⟩
theorem ty22 : TyF Tryz.prog 22 false 1 24 [.slice none 0 0] := TyF.mk' (z := .slice none 0 0) Tryz.underlying22 rfl (by kernel_rfl) rfl
theorem ty23 : TyF Tryz.prog 23 false 1 8 [.pointer none] := TyF.mk' (z := .pointer none) Tryz.underlying23 rfl (by kernel_rfl) rfl
theorem ty25 : TyF Tryz.prog 25 true 2 32 [.slice none 0 0, .int .i64 0] := TyF.mk' (z := .agg #[.slice none 0 0, .int .i64 0]) Tryz.underlying25 rfl (by kernel_rfl) rfl
theorem ty28 : TyF Tryz.prog 28 false 1 24 [.slice none 0 0] := TyF.mk' (z := .slice none 0 0) Tryz.underlying28 rfl (by kernel_rfl) rfl
theorem ty30 : TyF Tryz.prog 30 false 1 8 [.int .i64 0] := TyF.mk' (z := .int .i64 0) Tryz.underlying30 rfl (by kernel_rfl) rfl
def R30 : Rep Int := ⟨30, 1, 8, fun x => [.int .i64 x], fun _ => rfl, fun x u hu => by simp only [List.mem_cons, List.mem_nil_iff, or_false] at hu; rcases hu with rfl <;> rfl, by decide⟩
theorem ty34 : TyF Tryz.prog 34 true 2 16 [.int .i64 0, .int .i64 0] := TyF.mk' (z := .agg #[.int .i64 0, .int .i64 0]) Tryz.underlying34 rfl (by kernel_rfl) rfl
def R34 : Rep TFraction := ⟨34, 2, 16, fun x => [.int .i64 x.Num, .int .i64 x.Den], fun _ => rfl, fun x u hu => by simp only [List.mem_cons, List.mem_nil_iff, or_false] at hu; rcases hu with rfl | rfl <;> rfl, by decide⟩
theorem ty46 : TyF Tryz.prog 46 true 5 48 [.int .i64 0, .int .i64 0, .int .i64 0, .string ByteArray.empty, .bool false] := TyF.mk' (z := .agg #[.int .i64 0, .int .i64 0, .int .i64 0, .string ByteArray.empty, .bool false]) Tryz.underlying46 rfl (by kernel_rfl) rfl
def R46 : Rep TTone := ⟨46, 5, 48, fun x => [.int .i64 x.Note, .int .i64 x.Long.Num, .int .i64 x.Long.Den, .string x.Text, .bool x.Tied], fun _ => rfl, fun x u hu => by simp only [List.mem_cons, List.mem_nil_iff, or_false] at hu; rcases hu with rfl | rfl | rfl | rfl | rfl <;> rfl, by decide⟩
theorem ty51 : TyF Tryz.prog 51 true 5 40 [.int .i64 0, .int .i64 0, .int .i64 0, .int .i64 0, .bool false] := TyF.mk' (z := .agg #[.int .i64 0, .int .i64 0, .int .i64 0, .int .i64 0, .bool false]) Tryz.underlying51 rfl (by kernel_rfl) rfl
def R51 : Rep TBar := ⟨51, 5, 40, fun x => [.int .i64 x.Beats, .int .i64 x.Unit, .int .i64 x.Close, .int .i64 x.Ending, .bool x.Open], fun _ => rfl, fun x u hu => by simp only [List.mem_cons, List.mem_nil_iff, or_false] at hu; rcases hu with rfl | rfl | rfl | rfl | rfl <;> rfl, by decide⟩
theorem ty72 : TyF Tryz.prog 72 true 3 24 [.int .i64 0, .int .i64 0, .int .i64 0] := TyF.mk' (z := .agg #[.int .i64 0, .int .i64 0, .int .i64 0]) Tryz.underlying72 rfl (by kernel_rfl) rfl
def R72 : Rep TChord := ⟨72, 3, 24, fun x => [.int .i64 x.Root, .int .i64 x.Kind, .int .i64 x.Turn], fun _ => rfl, fun x u hu => by simp only [List.mem_cons, List.mem_nil_iff, or_false] at hu; rcases hu with rfl | rfl | rfl <;> rfl, by decide⟩
theorem ty73 : TyF Tryz.prog 73 false 1 24 [.slice none 0 0] := TyF.mk' (z := .slice none 0 0) Tryz.underlying73 rfl (by kernel_rfl) rfl
theorem ty77 : TyF Tryz.prog 77 true 3 32 [.int .i64 0, .string ByteArray.empty, .bool false] := TyF.mk' (z := .agg #[.int .i64 0, .string ByteArray.empty, .bool false]) Tryz.underlying77 rfl (by kernel_rfl) rfl
def R77 : Rep TCame := ⟨77, 3, 32, fun x => [.int .i64 x.At, .string x.Singer, .bool x.Left], fun _ => rfl, fun x u hu => by simp only [List.mem_cons, List.mem_nil_iff, or_false] at hu; rcases hu with rfl | rfl | rfl <;> rfl, by decide⟩
theorem ty82 : TyF Tryz.prog 82 true 4 64 [.string ByteArray.empty, .string ByteArray.empty, .int .i64 0, .slice none 0 0] := TyF.mk' (z := .agg #[.string ByteArray.empty, .string ByteArray.empty, .int .i64 0, .slice none 0 0]) Tryz.underlying82 rfl (by kernel_rfl) rfl
theorem ty83 : TyF Tryz.prog 83 false 1 24 [.slice none 0 0] := TyF.mk' (z := .slice none 0 0) Tryz.underlying83 rfl (by kernel_rfl) rfl
theorem ty85 : TyF Tryz.prog 85 true 5 56 [.slice none 0 0, .int .i64 0, .int .i64 0, .int .i64 0, .int .i64 0] := TyF.mk' (z := .agg #[.slice none 0 0, .int .i64 0, .int .i64 0, .int .i64 0, .int .i64 0]) Tryz.underlying85 rfl (by kernel_rfl) rfl
theorem ty88 : TyF Tryz.prog 88 true 10 112 [.string ByteArray.empty, .int .i64 0, .int .i64 0, .int .i64 0, .string ByteArray.empty, .string ByteArray.empty, .int .i64 0, .bool false, .string ByteArray.empty, .int .i64 0] := TyF.mk' (z := .agg #[.string ByteArray.empty, .int .i64 0, .int .i64 0, .int .i64 0, .string ByteArray.empty, .string ByteArray.empty, .int .i64 0, .bool false, .string ByteArray.empty, .int .i64 0]) Tryz.underlying88 rfl (by kernel_rfl) rfl
def R88 : Rep TAct := ⟨88, 10, 112, fun x => [.string x.Site, .int .i64 x.No, .int .i64 x.At, .int .i64 x.Kind, .string x.Who, .string x.Motion, .int .i64 x.Cents, .bool x.Yes, .string x.Of, .int .i64 x.Other], fun _ => rfl, fun x u hu => by simp only [List.mem_cons, List.mem_nil_iff, or_false] at hu; rcases hu with rfl | rfl | rfl | rfl | rfl | rfl | rfl | rfl | rfl | rfl <;> rfl, by decide⟩
theorem ty89 : TyF Tryz.prog 89 false 1 24 [.slice none 0 0] := TyF.mk' (z := .slice none 0 0) Tryz.underlying89 rfl (by kernel_rfl) rfl
theorem ty101 : TyF Tryz.prog 101 false 1 8 [.map none] := TyF.mk' (z := .map none) Tryz.underlying101 rfl (by kernel_rfl) rfl
theorem ty107 : TyF Tryz.prog 107 true 2 16 [.int .i64 0, .int .i64 0] := TyF.mk' (z := .agg #[.int .i64 0, .int .i64 0]) Tryz.underlying107 rfl (by kernel_rfl) rfl
def R107 : Rep TWindow := ⟨107, 2, 16, fun x => [.int .i64 x.From, .int .i64 x.To], fun _ => rfl, fun x u hu => by simp only [List.mem_cons, List.mem_nil_iff, or_false] at hu; rcases hu with rfl | rfl <;> rfl, by decide⟩
theorem ty122 : TyF Tryz.prog 122 true 3 24 [.int .i64 0, .int .i64 0, .int .i64 0] := TyF.mk' (z := .agg #[.int .i64 0, .int .i64 0, .int .i64 0]) Tryz.underlying122 rfl (by kernel_rfl) rfl
def R122 : Rep Tpiece_repeat := ⟨122, 3, 24, fun x => [.int .i64 x.from_, .int .i64 x.to_, .int .i64 x.times], fun _ => rfl, fun x u hu => by simp only [List.mem_cons, List.mem_nil_iff, or_false] at hu; rcases hu with rfl | rfl | rfl <;> rfl, by decide⟩
theorem ty129 : TyF Tryz.prog 129 false 1 8 [.map none] := TyF.mk' (z := .map none) Tryz.underlying129 rfl (by kernel_rfl) rfl
theorem ty139 : TyF Tryz.prog 139 false 1 8 [.map none] := TyF.mk' (z := .map none) Tryz.underlying139 rfl (by kernel_rfl) rfl
theorem ty141 : TyF Tryz.prog 141 false 1 8 [.map none] := TyF.mk' (z := .map none) Tryz.underlying141 rfl (by kernel_rfl) rfl
theorem ty143 : TyF Tryz.prog 143 true 5 56 [.int .i64 0, .map none, .map none, .map none, .slice none 0 0] := TyF.mk' (z := .agg #[.int .i64 0, .map none, .map none, .map none, .slice none 0 0]) Tryz.underlying143 rfl (by kernel_rfl) rfl
theorem ty164 : TyF Tryz.prog 164 true 3 24 [.int .i64 0, .int .i64 0, .int .i64 0] := TyF.mk' (z := .agg #[.int .i64 0, .int .i64 0, .int .i64 0]) Tryz.underlying164 rfl (by kernel_rfl) rfl
def R164 : Rep Tclub_stay := ⟨164, 3, 24, fun x => [.int .i64 x.since, .int .i64 x.till, .int .i64 x.cents], fun _ => rfl, fun x u hu => by simp only [List.mem_cons, List.mem_nil_iff, or_false] at hu; rcases hu with rfl | rfl | rfl <;> rfl, by decide⟩
theorem ty193 : TyF Tryz.prog 193 false 1 8 [.map none] := TyF.mk' (z := .map none) Tryz.underlying193 rfl (by kernel_rfl) rfl
theorem ty195 : TyF Tryz.prog 195 true 2 24 [.string ByteArray.empty, .int .i64 0] := TyF.mk' (z := .agg #[.string ByteArray.empty, .int .i64 0]) Tryz.underlying195 rfl (by kernel_rfl) rfl
def R195 : Rep Tclub_own := ⟨195, 2, 24, fun x => [.string x.site, .int .i64 x.no], fun _ => rfl, fun x u hu => by simp only [List.mem_cons, List.mem_nil_iff, or_false] at hu; rcases hu with rfl | rfl <;> rfl, by decide⟩
theorem ty222 : TyF Tryz.prog 222 true 5 5 [.bool false, .bool false, .bool false, .bool false, .bool false] := TyF.mk' (z := .agg #[.bool false, .bool false, .bool false, .bool false, .bool false]) Tryz.underlying222 rfl (by kernel_rfl) rfl
def R222 : Rep Tclub_uses := ⟨222, 5, 5, fun x => [.bool x.who, .bool x.motion, .bool x.cents, .bool x.yes, .bool x.undo], fun _ => rfl, fun x u hu => by simp only [List.mem_cons, List.mem_nil_iff, or_false] at hu; rcases hu with rfl | rfl | rfl | rfl | rfl <;> rfl, by decide⟩
def N22 : Nst (List Int) SV := ⟨⟨22, 1, 24, fun p => [p.2.v], fun _ => rfl, fun p u hu => by simp only [List.mem_cons, List.mem_nil_iff, or_false] at hu; rcases hu with rfl <;> rfl, by decide⟩, fun p w => RdS R3 (SV.v p.2) p.1 w⟩
def N28 : Nst (List TTone) SV := ⟨⟨28, 1, 24, fun p => [p.2.v], fun _ => rfl, fun p u hu => by simp only [List.mem_cons, List.mem_nil_iff, or_false] at hu; rcases hu with rfl <;> rfl, by decide⟩, fun p w => RdS R46 (SV.v p.2) p.1 w⟩
def N82 : Nst TItem SV := ⟨⟨82, 4, 64, fun p => [.string p.1.Key, .string p.1.Places, .int .i64 p.1.Long, p.2.v], fun _ => rfl, fun p u hu => by simp only [List.mem_cons, List.mem_nil_iff, or_false] at hu; rcases hu with rfl | rfl | rfl | rfl <;> rfl, by decide⟩, fun p w => RdS R9 (SV.v p.2) p.1.Parts w⟩
theorem eqst34_ (d : Nat) (x y : TFraction) : EqV Tryz.prog (d + 2) 34 (.agg (R34.enc x).toArray) (.agg (R34.enc y).toArray) (decide (x = y)) := by
  have h : ((x.Num == y.Num) && ((x.Den == y.Den) && true)) = decide (x = y) := by rw [Bool.eq_iff_iff]; cases x; cases y; simp [ba_beq]
  rw [← h]
  exact eqv_struct Tryz.underlying34 (by kernel_rfl) (eqf_cons (.int .i64 x.Num) (.int .i64 y.Num) (by decide) (fun _ => by kernel_rfl) (fun _ => by kernel_rfl) (eqv_int Tryz.underlying3 _ _) (eqf_cons (.int .i64 x.Den) (.int .i64 y.Den) (by decide) (fun _ => by kernel_rfl) (fun _ => by kernel_rfl) (eqv_int Tryz.underlying3 _ _) eqf_nil))
theorem eqst34 (x y : TFraction) : EqV Tryz.prog 10000 34 (.agg (R34.enc x).toArray) (.agg (R34.enc y).toArray) (decide (x = y)) := eqst34_ 9998 x y
theorem eqst46_ (d : Nat) (x y : TTone) : EqV Tryz.prog (d + 3) 46 (.agg (R46.enc x).toArray) (.agg (R46.enc y).toArray) (decide (x = y)) := by
  have h : ((x.Note == y.Note) && ((decide (x.Long = y.Long)) && ((x.Text == y.Text) && ((x.Tied == y.Tied) && true)))) = decide (x = y) := by rw [Bool.eq_iff_iff]; cases x; cases y; simp [ba_beq]
  rw [← h]
  exact eqv_struct Tryz.underlying46 (by kernel_rfl) (eqf_cons (.int .i64 x.Note) (.int .i64 y.Note) (by decide) (fun _ => by kernel_rfl) (fun _ => by kernel_rfl) (eqv_int Tryz.underlying3 _ _) (eqf_cons (.agg (R34.enc x.Long).toArray) (.agg (R34.enc y.Long).toArray) (by decide) (fun _ => by kernel_rfl) (fun _ => by kernel_rfl) (eqst34_ _ x.Long y.Long) (eqf_cons (.string x.Text) (.string y.Text) (by decide) (fun _ => by kernel_rfl) (fun _ => by kernel_rfl) (eqv_str Tryz.underlying9 _ _) (eqf_cons (.bool x.Tied) (.bool y.Tied) (by decide) (fun _ => by kernel_rfl) (fun _ => by kernel_rfl) (eqv_bool Tryz.underlying4 _ _) eqf_nil))))
theorem eqst46 (x y : TTone) : EqV Tryz.prog 10000 46 (.agg (R46.enc x).toArray) (.agg (R46.enc y).toArray) (decide (x = y)) := eqst46_ 9997 x y
theorem eqst195_ (d : Nat) (x y : Tclub_own) : EqV Tryz.prog (d + 2) 195 (.agg (R195.enc x).toArray) (.agg (R195.enc y).toArray) (decide (x = y)) := by
  have h : ((x.site == y.site) && ((x.no == y.no) && true)) = decide (x = y) := by rw [Bool.eq_iff_iff]; cases x; cases y; simp [ba_beq]
  rw [← h]
  exact eqv_struct Tryz.underlying195 (by kernel_rfl) (eqf_cons (.string x.site) (.string y.site) (by decide) (fun _ => by kernel_rfl) (fun _ => by kernel_rfl) (eqv_str Tryz.underlying9 _ _) (eqf_cons (.int .i64 x.no) (.int .i64 y.no) (by decide) (fun _ => by kernel_rfl) (fun _ => by kernel_rfl) (eqv_int Tryz.underlying3 _ _) eqf_nil))
theorem eqst195 (x y : Tclub_own) : EqV Tryz.prog 10000 195 (.agg (R195.enc x).toArray) (.agg (R195.enc y).toArray) (decide (x = y)) := eqst195_ 9998 x y
@[reducible] def vv3 : Int → Value := fun x => .int .i64 x
@[reducible] def vv4 : Bool → Value := fun x => .bool x
@[reducible] def kv9 : ByteArray → Value := fun x => .string x
theorem keyF9 : KeyF Tryz.prog 9 kv9 := keyF_str Tryz.underlying9
@[reducible] def kv195 : Tclub_own → Value := fun x => .agg (R195.enc x).toArray
theorem keyF195 : KeyF Tryz.prog 195 kv195 := keyF_agg Tryz.underlying195 (fun _ _ _ => by kernel_rfl) eqst195 (fun k v hv => by simp only [R195, List.mem_cons, List.not_mem_nil, or_false] at hv; rcases hv with rfl | rfl <;> simp [Instr.sameBits, ba_dec])
@[reducible] def vv200 : Unit → Value := fun x => .pointer none
theorem fl25_0 : FldF Tryz.prog 25 0 0 := fun _ _ => by kernel_rfl
theorem fl25_1 : FldF Tryz.prog 25 1 1 := fun _ _ => by kernel_rfl
theorem fl34_0 : FldF Tryz.prog 34 0 0 := fun _ _ => by kernel_rfl
theorem fl34_1 : FldF Tryz.prog 34 1 1 := fun _ _ => by kernel_rfl
theorem fl46_0 : FldF Tryz.prog 46 0 0 := fun _ _ => by kernel_rfl
theorem fl46_1 : FldF Tryz.prog 46 1 1 := fun _ _ => by kernel_rfl
theorem fl46_2 : FldF Tryz.prog 46 2 3 := fun _ _ => by kernel_rfl
theorem fl46_3 : FldF Tryz.prog 46 3 4 := fun _ _ => by kernel_rfl
theorem fl51_0 : FldF Tryz.prog 51 0 0 := fun _ _ => by kernel_rfl
theorem fl51_1 : FldF Tryz.prog 51 1 1 := fun _ _ => by kernel_rfl
theorem fl51_2 : FldF Tryz.prog 51 2 2 := fun _ _ => by kernel_rfl
theorem fl51_3 : FldF Tryz.prog 51 3 3 := fun _ _ => by kernel_rfl
theorem fl51_4 : FldF Tryz.prog 51 4 4 := fun _ _ => by kernel_rfl
theorem fl72_0 : FldF Tryz.prog 72 0 0 := fun _ _ => by kernel_rfl
theorem fl72_1 : FldF Tryz.prog 72 1 1 := fun _ _ => by kernel_rfl
theorem fl72_2 : FldF Tryz.prog 72 2 2 := fun _ _ => by kernel_rfl
theorem fl77_0 : FldF Tryz.prog 77 0 0 := fun _ _ => by kernel_rfl
theorem fl77_1 : FldF Tryz.prog 77 1 1 := fun _ _ => by kernel_rfl
theorem fl77_2 : FldF Tryz.prog 77 2 2 := fun _ _ => by kernel_rfl
theorem fl82_0 : FldF Tryz.prog 82 0 0 := fun _ _ => by kernel_rfl
theorem fl82_1 : FldF Tryz.prog 82 1 1 := fun _ _ => by kernel_rfl
theorem fl82_2 : FldF Tryz.prog 82 2 2 := fun _ _ => by kernel_rfl
theorem fl82_3 : FldF Tryz.prog 82 3 3 := fun _ _ => by kernel_rfl
theorem fl85_0 : FldF Tryz.prog 85 0 0 := fun _ _ => by kernel_rfl
theorem fl85_1 : FldF Tryz.prog 85 1 1 := fun _ _ => by kernel_rfl
theorem fl85_2 : FldF Tryz.prog 85 2 2 := fun _ _ => by kernel_rfl
theorem fl85_3 : FldF Tryz.prog 85 3 3 := fun _ _ => by kernel_rfl
theorem fl85_4 : FldF Tryz.prog 85 4 4 := fun _ _ => by kernel_rfl
theorem fl88_0 : FldF Tryz.prog 88 0 0 := fun _ _ => by kernel_rfl
theorem fl88_1 : FldF Tryz.prog 88 1 1 := fun _ _ => by kernel_rfl
theorem fl88_2 : FldF Tryz.prog 88 2 2 := fun _ _ => by kernel_rfl
theorem fl88_3 : FldF Tryz.prog 88 3 3 := fun _ _ => by kernel_rfl
theorem fl88_4 : FldF Tryz.prog 88 4 4 := fun _ _ => by kernel_rfl
theorem fl88_5 : FldF Tryz.prog 88 5 5 := fun _ _ => by kernel_rfl
theorem fl88_6 : FldF Tryz.prog 88 6 6 := fun _ _ => by kernel_rfl
theorem fl88_7 : FldF Tryz.prog 88 7 7 := fun _ _ => by kernel_rfl
theorem fl88_8 : FldF Tryz.prog 88 8 8 := fun _ _ => by kernel_rfl
theorem fl88_9 : FldF Tryz.prog 88 9 9 := fun _ _ => by kernel_rfl
theorem fl107_0 : FldF Tryz.prog 107 0 0 := fun _ _ => by kernel_rfl
theorem fl107_1 : FldF Tryz.prog 107 1 1 := fun _ _ => by kernel_rfl
theorem fl122_0 : FldF Tryz.prog 122 0 0 := fun _ _ => by kernel_rfl
theorem fl122_1 : FldF Tryz.prog 122 1 1 := fun _ _ => by kernel_rfl
theorem fl122_2 : FldF Tryz.prog 122 2 2 := fun _ _ => by kernel_rfl
theorem fl143_1 : FldF Tryz.prog 143 1 1 := fun _ _ => by kernel_rfl
theorem fl143_2 : FldF Tryz.prog 143 2 2 := fun _ _ => by kernel_rfl
theorem fl143_3 : FldF Tryz.prog 143 3 3 := fun _ _ => by kernel_rfl
theorem fl143_4 : FldF Tryz.prog 143 4 4 := fun _ _ => by kernel_rfl
theorem fl164_1 : FldF Tryz.prog 164 1 1 := fun _ _ => by kernel_rfl
theorem fl222_0 : FldF Tryz.prog 222 0 0 := fun _ _ => by kernel_rfl
theorem fl222_1 : FldF Tryz.prog 222 1 1 := fun _ _ => by kernel_rfl
theorem fl222_2 : FldF Tryz.prog 222 2 2 := fun _ _ => by kernel_rfl
theorem fl222_3 : FldF Tryz.prog 222 3 3 := fun _ _ => by kernel_rfl
theorem fl222_4 : FldF Tryz.prog 222 4 4 := fun _ _ => by kernel_rfl
theorem cf4 : ∀ args w, (callFunc 4 args).run Tryz.prog w = .ok (.enter 4 args) w := fun _ _ => by kernel_rfl
theorem cf5 : ∀ args w, (callFunc 5 args).run Tryz.prog w = .ok (.enter 5 args) w := fun _ _ => by kernel_rfl
theorem cf6 : ∀ args w, (callFunc 6 args).run Tryz.prog w = .ok (.enter 6 args) w := fun _ _ => by kernel_rfl
theorem cf7 : ∀ args w, (callFunc 7 args).run Tryz.prog w = .ok (.enter 7 args) w := fun _ _ => by kernel_rfl
theorem cf8 : ∀ args w, (callFunc 8 args).run Tryz.prog w = .ok (.enter 8 args) w := fun _ _ => by kernel_rfl
theorem cf9 : ∀ args w, (callFunc 9 args).run Tryz.prog w = .ok (.enter 9 args) w := fun _ _ => by kernel_rfl
theorem cf10 : ∀ args w, (callFunc 10 args).run Tryz.prog w = .ok (.enter 10 args) w := fun _ _ => by kernel_rfl
theorem cf11 : ∀ args w, (callFunc 11 args).run Tryz.prog w = .ok (.enter 11 args) w := fun _ _ => by kernel_rfl
theorem cf12 : ∀ args w, (callFunc 12 args).run Tryz.prog w = .ok (.enter 12 args) w := fun _ _ => by kernel_rfl
theorem cf13 : ∀ args w, (callFunc 13 args).run Tryz.prog w = .ok (.enter 13 args) w := fun _ _ => by kernel_rfl
theorem cf14 : ∀ args w, (callFunc 14 args).run Tryz.prog w = .ok (.enter 14 args) w := fun _ _ => by kernel_rfl
theorem cf15 : ∀ args w, (callFunc 15 args).run Tryz.prog w = .ok (.enter 15 args) w := fun _ _ => by kernel_rfl
theorem cf16 : ∀ args w, (callFunc 16 args).run Tryz.prog w = .ok (.enter 16 args) w := fun _ _ => by kernel_rfl
theorem cf17 : ∀ args w, (callFunc 17 args).run Tryz.prog w = .ok (.enter 17 args) w := fun _ _ => by kernel_rfl
theorem cf18 : ∀ args w, (callFunc 18 args).run Tryz.prog w = .ok (.enter 18 args) w := fun _ _ => by kernel_rfl
theorem cf19 : ∀ args w, (callFunc 19 args).run Tryz.prog w = .ok (.enter 19 args) w := fun _ _ => by kernel_rfl
theorem cf20 : ∀ args w, (callFunc 20 args).run Tryz.prog w = .ok (.enter 20 args) w := fun _ _ => by kernel_rfl
theorem cf21 : ∀ args w, (callFunc 21 args).run Tryz.prog w = .ok (.enter 21 args) w := fun _ _ => by kernel_rfl
theorem cf22 : ∀ args w, (callFunc 22 args).run Tryz.prog w = .ok (.enter 22 args) w := fun _ _ => by kernel_rfl
theorem cf23 : ∀ args w, (callFunc 23 args).run Tryz.prog w = .ok (.enter 23 args) w := fun _ _ => by kernel_rfl
theorem cf24 : ∀ args w, (callFunc 24 args).run Tryz.prog w = .ok (.enter 24 args) w := fun _ _ => by kernel_rfl
theorem cf25 : ∀ args w, (callFunc 25 args).run Tryz.prog w = .ok (.enter 25 args) w := fun _ _ => by kernel_rfl
theorem cf26 : ∀ args w, (callFunc 26 args).run Tryz.prog w = .ok (.enter 26 args) w := fun _ _ => by kernel_rfl
theorem cf27 : ∀ args w, (callFunc 27 args).run Tryz.prog w = .ok (.enter 27 args) w := fun _ _ => by kernel_rfl
theorem cf28 : ∀ args w, (callFunc 28 args).run Tryz.prog w = .ok (.enter 28 args) w := fun _ _ => by kernel_rfl
theorem cf29 : ∀ args w, (callFunc 29 args).run Tryz.prog w = .ok (.enter 29 args) w := fun _ _ => by kernel_rfl
theorem cf30 : ∀ args w, (callFunc 30 args).run Tryz.prog w = .ok (.enter 30 args) w := fun _ _ => by kernel_rfl
theorem cf31 : ∀ args w, (callFunc 31 args).run Tryz.prog w = .ok (.enter 31 args) w := fun _ _ => by kernel_rfl
theorem cf32 : ∀ args w, (callFunc 32 args).run Tryz.prog w = .ok (.enter 32 args) w := fun _ _ => by kernel_rfl
theorem cf33 : ∀ args w, (callFunc 33 args).run Tryz.prog w = .ok (.enter 33 args) w := fun _ _ => by kernel_rfl
theorem cf34 : ∀ args w, (callFunc 34 args).run Tryz.prog w = .ok (.enter 34 args) w := fun _ _ => by kernel_rfl
theorem cf35 : ∀ args w, (callFunc 35 args).run Tryz.prog w = .ok (.enter 35 args) w := fun _ _ => by kernel_rfl
theorem cf36 : ∀ args w, (callFunc 36 args).run Tryz.prog w = .ok (.enter 36 args) w := fun _ _ => by kernel_rfl
theorem cf37 : ∀ args w, (callFunc 37 args).run Tryz.prog w = .ok (.enter 37 args) w := fun _ _ => by kernel_rfl
theorem cf38 : ∀ args w, (callFunc 38 args).run Tryz.prog w = .ok (.enter 38 args) w := fun _ _ => by kernel_rfl
theorem cf39 : ∀ args w, (callFunc 39 args).run Tryz.prog w = .ok (.enter 39 args) w := fun _ _ => by kernel_rfl
theorem cf40 : ∀ args w, (callFunc 40 args).run Tryz.prog w = .ok (.enter 40 args) w := fun _ _ => by kernel_rfl
theorem cf41 : ∀ args w, (callFunc 41 args).run Tryz.prog w = .ok (.enter 41 args) w := fun _ _ => by kernel_rfl
theorem cf42 : ∀ args w, (callFunc 42 args).run Tryz.prog w = .ok (.enter 42 args) w := fun _ _ => by kernel_rfl
theorem cf43 : ∀ args w, (callFunc 43 args).run Tryz.prog w = .ok (.enter 43 args) w := fun _ _ => by kernel_rfl
theorem cf44 : ∀ args w, (callFunc 44 args).run Tryz.prog w = .ok (.enter 44 args) w := fun _ _ => by kernel_rfl
theorem cf45 : ∀ args w, (callFunc 45 args).run Tryz.prog w = .ok (.enter 45 args) w := fun _ _ => by kernel_rfl
theorem cf46 : ∀ args w, (callFunc 46 args).run Tryz.prog w = .ok (.enter 46 args) w := fun _ _ => by kernel_rfl
theorem cf47 : ∀ args w, (callFunc 47 args).run Tryz.prog w = .ok (.enter 47 args) w := fun _ _ => by kernel_rfl
theorem cf48 : ∀ args w, (callFunc 48 args).run Tryz.prog w = .ok (.enter 48 args) w := fun _ _ => by kernel_rfl
theorem cf49 : ∀ args w, (callFunc 49 args).run Tryz.prog w = .ok (.enter 49 args) w := fun _ _ => by kernel_rfl
theorem cf50 : ∀ args w, (callFunc 50 args).run Tryz.prog w = .ok (.enter 50 args) w := fun _ _ => by kernel_rfl
theorem cf51 : ∀ args w, (callFunc 51 args).run Tryz.prog w = .ok (.enter 51 args) w := fun _ _ => by kernel_rfl
theorem cf52 : ∀ args w, (callFunc 52 args).run Tryz.prog w = .ok (.enter 52 args) w := fun _ _ => by kernel_rfl
theorem cf53 : ∀ args w, (callFunc 53 args).run Tryz.prog w = .ok (.enter 53 args) w := fun _ _ => by kernel_rfl
theorem cf54 : ∀ args w, (callFunc 54 args).run Tryz.prog w = .ok (.enter 54 args) w := fun _ _ => by kernel_rfl
theorem cf55 : ∀ args w, (callFunc 55 args).run Tryz.prog w = .ok (.enter 55 args) w := fun _ _ => by kernel_rfl
theorem cf56 : ∀ args w, (callFunc 56 args).run Tryz.prog w = .ok (.enter 56 args) w := fun _ _ => by kernel_rfl
theorem cf57 : ∀ args w, (callFunc 57 args).run Tryz.prog w = .ok (.enter 57 args) w := fun _ _ => by kernel_rfl
theorem cf58 : ∀ args w, (callFunc 58 args).run Tryz.prog w = .ok (.enter 58 args) w := fun _ _ => by kernel_rfl
theorem cf59 : ∀ args w, (callFunc 59 args).run Tryz.prog w = .ok (.enter 59 args) w := fun _ _ => by kernel_rfl
theorem cf60 : ∀ args w, (callFunc 60 args).run Tryz.prog w = .ok (.enter 60 args) w := fun _ _ => by kernel_rfl
theorem cf61 : ∀ args w, (callFunc 61 args).run Tryz.prog w = .ok (.enter 61 args) w := fun _ _ => by kernel_rfl
theorem cf62 : ∀ args w, (callFunc 62 args).run Tryz.prog w = .ok (.enter 62 args) w := fun _ _ => by kernel_rfl
theorem cf63 : ∀ args w, (callFunc 63 args).run Tryz.prog w = .ok (.enter 63 args) w := fun _ _ => by kernel_rfl
theorem cf64 : ∀ args w, (callFunc 64 args).run Tryz.prog w = .ok (.enter 64 args) w := fun _ _ => by kernel_rfl
theorem cf65 : ∀ args w, (callFunc 65 args).run Tryz.prog w = .ok (.enter 65 args) w := fun _ _ => by kernel_rfl
theorem cf66 : ∀ args w, (callFunc 66 args).run Tryz.prog w = .ok (.enter 66 args) w := fun _ _ => by kernel_rfl
theorem cf68 : ∀ args w, (callFunc 68 args).run Tryz.prog w = .ok (.enter 68 args) w := fun _ _ => by kernel_rfl
theorem cf69 : ∀ args w, (callFunc 69 args).run Tryz.prog w = .ok (.enter 69 args) w := fun _ _ => by kernel_rfl
theorem cf70 : ∀ args w, (callFunc 70 args).run Tryz.prog w = .ok (.enter 70 args) w := fun _ _ => by kernel_rfl
theorem cf71 : ∀ args w, (callFunc 71 args).run Tryz.prog w = .ok (.enter 71 args) w := fun _ _ => by kernel_rfl
theorem cf72 : ∀ args w, (callFunc 72 args).run Tryz.prog w = .ok (.enter 72 args) w := fun _ _ => by kernel_rfl
theorem cf73 : ∀ args w, (callFunc 73 args).run Tryz.prog w = .ok (.enter 73 args) w := fun _ _ => by kernel_rfl
theorem cf74 : ∀ args w, (callFunc 74 args).run Tryz.prog w = .ok (.enter 74 args) w := fun _ _ => by kernel_rfl
theorem cf75 : ∀ args w, (callFunc 75 args).run Tryz.prog w = .ok (.enter 75 args) w := fun _ _ => by kernel_rfl
theorem cf76 : ∀ args w, (callFunc 76 args).run Tryz.prog w = .ok (.enter 76 args) w := fun _ _ => by kernel_rfl
theorem cf77 : ∀ args w, (callFunc 77 args).run Tryz.prog w = .ok (.enter 77 args) w := fun _ _ => by kernel_rfl
theorem cf78 : ∀ args w, (callFunc 78 args).run Tryz.prog w = .ok (.enter 78 args) w := fun _ _ => by kernel_rfl
theorem cf79 : ∀ args w, (callFunc 79 args).run Tryz.prog w = .ok (.enter 79 args) w := fun _ _ => by kernel_rfl
theorem cf80 : ∀ args w, (callFunc 80 args).run Tryz.prog w = .ok (.enter 80 args) w := fun _ _ => by kernel_rfl
theorem cf81 : ∀ args w, (callFunc 81 args).run Tryz.prog w = .ok (.enter 81 args) w := fun _ _ => by kernel_rfl
theorem cf82 : ∀ args w, (callFunc 82 args).run Tryz.prog w = .ok (.enter 82 args) w := fun _ _ => by kernel_rfl
theorem cf83 : ∀ args w, (callFunc 83 args).run Tryz.prog w = .ok (.enter 83 args) w := fun _ _ => by kernel_rfl
theorem cf85 : ∀ args w, (callFunc 85 args).run Tryz.prog w = .ok (.enter 85 args) w := fun _ _ => by kernel_rfl
theorem cf86 : ∀ args w, (callFunc 86 args).run Tryz.prog w = .ok (.enter 86 args) w := fun _ _ => by kernel_rfl
theorem cf87 : ∀ args w, (callFunc 87 args).run Tryz.prog w = .ok (.enter 87 args) w := fun _ _ => by kernel_rfl
theorem cf88 : ∀ args w, (callFunc 88 args).run Tryz.prog w = .ok (.enter 88 args) w := fun _ _ => by kernel_rfl
theorem cf89 : ∀ args w, (callFunc 89 args).run Tryz.prog w = .ok (.enter 89 args) w := fun _ _ => by kernel_rfl
theorem cf90 : ∀ args w, (callFunc 90 args).run Tryz.prog w = .ok (.enter 90 args) w := fun _ _ => by kernel_rfl
theorem cf91 : ∀ args w, (callFunc 91 args).run Tryz.prog w = .ok (.enter 91 args) w := fun _ _ => by kernel_rfl
theorem cf94 : ∀ args w, (callFunc 94 args).run Tryz.prog w = .ok (.enter 94 args) w := fun _ _ => by kernel_rfl
theorem cf95 : ∀ args w, (callFunc 95 args).run Tryz.prog w = .ok (.enter 95 args) w := fun _ _ => by kernel_rfl
theorem cf96 : ∀ args w, (callFunc 96 args).run Tryz.prog w = .ok (.enter 96 args) w := fun _ _ => by kernel_rfl
theorem cf97 : ∀ args w, (callFunc 97 args).run Tryz.prog w = .ok (.enter 97 args) w := fun _ _ => by kernel_rfl
theorem cf98 : ∀ args w, (callFunc 98 args).run Tryz.prog w = .ok (.enter 98 args) w := fun _ _ => by kernel_rfl
theorem cf99 : ∀ args w, (callFunc 99 args).run Tryz.prog w = .ok (.enter 99 args) w := fun _ _ => by kernel_rfl
theorem cf100 : ∀ args w, (callFunc 100 args).run Tryz.prog w = .ok (.enter 100 args) w := fun _ _ => by kernel_rfl
theorem cf101 : ∀ args w, (callFunc 101 args).run Tryz.prog w = .ok (.enter 101 args) w := fun _ _ => by kernel_rfl
theorem cf102 : ∀ args w, (callFunc 102 args).run Tryz.prog w = .ok (.enter 102 args) w := fun _ _ => by kernel_rfl
theorem cf103 : ∀ args w, (callFunc 103 args).run Tryz.prog w = .ok (.enter 103 args) w := fun _ _ => by kernel_rfl
theorem cf104 : ∀ args w, (callFunc 104 args).run Tryz.prog w = .ok (.enter 104 args) w := fun _ _ => by kernel_rfl
theorem cf117 : ∀ args w, (callFunc 117 args).run Tryz.prog w = .ok (.enter 117 args) w := fun _ _ => by kernel_rfl
theorem cf130 : ∀ args w, (callFunc 130 args).run Tryz.prog w = .ok (.enter 130 args) w := fun _ _ => by kernel_rfl
theorem cf131 : ∀ args w, (callFunc 131 args).run Tryz.prog w = .ok (.enter 131 args) w := fun _ _ => by kernel_rfl
theorem cf132 : ∀ args w, (callFunc 132 args).run Tryz.prog w = .ok (.enter 132 args) w := fun _ _ => by kernel_rfl
theorem cf133 : ∀ args w, (callFunc 133 args).run Tryz.prog w = .ok (.enter 133 args) w := fun _ _ => by kernel_rfl
theorem cf134 : ∀ args w, (callFunc 134 args).run Tryz.prog w = .ok (.enter 134 args) w := fun _ _ => by kernel_rfl
theorem cf135 : ∀ args w, (callFunc 135 args).run Tryz.prog w = .ok (.enter 135 args) w := fun _ _ => by kernel_rfl
theorem cf136 : ∀ args w, (callFunc 136 args).run Tryz.prog w = .ok (.enter 136 args) w := fun _ _ => by kernel_rfl
theorem cf154 : ∀ args w, (callFunc 154 args).run Tryz.prog w = .ok (.enter 154 args) w := fun _ _ => by kernel_rfl
theorem cf155 : ∀ args w, (callFunc 155 args).run Tryz.prog w = .ok (.enter 155 args) w := fun _ _ => by kernel_rfl
end Go.Proofs.YtdeoejkgmeemaafGreatDoor
