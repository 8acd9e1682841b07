/- Facts on the types and functions. Written by program. -/
import Derived.Test.YthonhgainmokhadGreatDoorProg
import Derived.KernelRfl
import Derived.Test.YthonhgainmokhadGreatDoorM
namespace Go.Proofs.YthonhgainmokhadGreatDoor
open Go Go.J Go.G
set_option linter.unusedSimpArgs false
theorem ty3 : TyF Tryz.prog 3 false 1 8 [.int .i64 0] := TyF.mk' (z := .int .i64 0) Tryz.underlying3 rfl (by kernel_rfl) rfl
def R3 : Rep Int := ⟨3, 1, 8, fun x => [.int .i64 x], fun _ => rfl, fun x u hu => by simp only [List.mem_cons, List.mem_nil_iff, or_false] at hu; rcases hu with rfl <;> rfl, by decide⟩
theorem ty4 : TyF Tryz.prog 4 false 1 1 [.bool false] := TyF.mk' (z := .bool false) Tryz.underlying4 rfl (by kernel_rfl) rfl
def R4 : Rep Bool := ⟨4, 1, 1, fun x => [.bool x], fun _ => rfl, fun x u hu => by simp only [List.mem_cons, List.mem_nil_iff, or_false] at hu; rcases hu with rfl <;> rfl, by decide⟩
theorem ty9 : TyF Tryz.prog 9 false 1 16 [.string ByteArray.empty] := TyF.mk' (z := .string ByteArray.empty) Tryz.underlying9 rfl (by kernel_rfl) rfl
def R9 : Rep ByteArray := ⟨9, 1, 16, fun x => [.string x], fun _ => rfl, fun x u hu => by simp only [List.mem_cons, List.mem_nil_iff, or_false] at hu; rcases hu with rfl <;> rfl, by decide⟩
theorem ty22 : TyF Tryz.prog 22 false 1 24 [.slice none 0 0] := TyF.mk' (z := .slice none 0 0) Tryz.underlying22 rfl (by kernel_rfl) rfl
theorem ty25 : TyF Tryz.prog 25 true 2 32 [.slice none 0 0, .int .i64 0] := TyF.mk' (z := .agg #[.slice none 0 0, .int .i64 0]) Tryz.underlying25 rfl (by kernel_rfl) rfl
theorem ty26 : TyF Tryz.prog 26 false 1 24 [.slice none 0 0] := TyF.mk' (z := .slice none 0 0) Tryz.underlying26 rfl (by kernel_rfl) rfl
theorem ty29 : TyF Tryz.prog 29 false 1 24 [.slice none 0 0] := TyF.mk' (z := .slice none 0 0) Tryz.underlying29 rfl (by kernel_rfl) rfl
theorem ty31 : TyF Tryz.prog 31 false 1 24 [.slice none 0 0] := TyF.mk' (z := .slice none 0 0) Tryz.underlying31 rfl (by kernel_rfl) rfl
theorem ty40 : TyF Tryz.prog 40 true 5 40 [.int .i64 0, .int .i64 0, .int .i64 0, .int .i64 0, .bool false] := TyF.mk' (z := .agg #[.int .i64 0, .int .i64 0, .int .i64 0, .int .i64 0, .bool false]) Tryz.underlying40 rfl (by kernel_rfl) rfl
def R40 : Rep TBar := ⟨40, 5, 40, fun x => [.int .i64 x.Beats, .int .i64 x.Unit, .int .i64 x.Close, .int .i64 x.Ending, .bool x.Open], fun _ => rfl, fun x u hu => by simp only [List.mem_cons, List.mem_nil_iff, or_false] at hu; rcases hu with rfl | rfl | rfl | rfl | rfl <;> rfl, by decide⟩
theorem ty46 : TyF Tryz.prog 46 true 2 16 [.int .i64 0, .int .i64 0] := TyF.mk' (z := .agg #[.int .i64 0, .int .i64 0]) Tryz.underlying46 rfl (by kernel_rfl) rfl
def R46 : Rep TFraction := ⟨46, 2, 16, fun x => [.int .i64 x.Num, .int .i64 x.Den], fun _ => rfl, fun x u hu => by simp only [List.mem_cons, List.mem_nil_iff, or_false] at hu; rcases hu with rfl | rfl <;> rfl, by decide⟩
theorem ty48 : TyF Tryz.prog 48 true 5 48 [.int .i64 0, .int .i64 0, .int .i64 0, .string ByteArray.empty, .bool false] := TyF.mk' (z := .agg #[.int .i64 0, .int .i64 0, .int .i64 0, .string ByteArray.empty, .bool false]) Tryz.underlying48 rfl (by kernel_rfl) rfl
def R48 : Rep TTone := ⟨48, 5, 48, fun x => [.int .i64 x.Note, .int .i64 x.Long.Num, .int .i64 x.Long.Den, .string x.Text, .bool x.Tied], fun _ => rfl, fun x u hu => by simp only [List.mem_cons, List.mem_nil_iff, or_false] at hu; rcases hu with rfl | rfl | rfl | rfl | rfl <;> rfl, by decide⟩
theorem ty55 : TyF Tryz.prog 55 true 3 24 [.int .i64 0, .int .i64 0, .int .i64 0] := TyF.mk' (z := .agg #[.int .i64 0, .int .i64 0, .int .i64 0]) Tryz.underlying55 rfl (by kernel_rfl) rfl
def R55 : Rep TChord := ⟨55, 3, 24, fun x => [.int .i64 x.Root, .int .i64 x.Kind, .int .i64 x.Turn], fun _ => rfl, fun x u hu => by simp only [List.mem_cons, List.mem_nil_iff, or_false] at hu; rcases hu with rfl | rfl | rfl <;> rfl, by decide⟩
theorem ty63 : TyF Tryz.prog 63 true 2 16 [.int .i64 0, .int .i64 0] := TyF.mk' (z := .agg #[.int .i64 0, .int .i64 0]) Tryz.underlying63 rfl (by kernel_rfl) rfl
def R63 : Rep TRange := ⟨63, 2, 16, fun x => [.int .i64 x.Low, .int .i64 x.High], fun _ => rfl, fun x u hu => by simp only [List.mem_cons, List.mem_nil_iff, or_false] at hu; rcases hu with rfl | rfl <;> rfl, by decide⟩
theorem ty70 : TyF Tryz.prog 70 true 6 96 [.int .i64 0, .int .i64 0, .int .i64 0, .slice none 0 0, .slice none 0 0, .slice none 0 0] := TyF.mk' (z := .agg #[.int .i64 0, .int .i64 0, .int .i64 0, .slice none 0 0, .slice none 0 0, .slice none 0 0]) Tryz.underlying70 rfl (by kernel_rfl) rfl
theorem ty74 : TyF Tryz.prog 74 false 1 24 [.slice none 0 0] := TyF.mk' (z := .slice none 0 0) Tryz.underlying74 rfl (by kernel_rfl) rfl
theorem ty84 : TyF Tryz.prog 84 false 1 24 [.slice none 0 0] := TyF.mk' (z := .slice none 0 0) Tryz.underlying84 rfl (by kernel_rfl) rfl
theorem ty88 : TyF Tryz.prog 88 true 3 32 [.int .i64 0, .string ByteArray.empty, .bool false] := TyF.mk' (z := .agg #[.int .i64 0, .string ByteArray.empty, .bool false]) Tryz.underlying88 rfl (by kernel_rfl) rfl
def R88 : Rep TCame := ⟨88, 3, 32, fun x => [.int .i64 x.At, .string x.Singer, .bool x.Left], fun _ => rfl, fun x u hu => by simp only [List.mem_cons, List.mem_nil_iff, or_false] at hu; rcases hu with rfl | rfl | rfl <;> rfl, by decide⟩
theorem ty92 : TyF Tryz.prog 92 true 10 112 [.string ByteArray.empty, .int .i64 0, .int .i64 0, .int .i64 0, .string ByteArray.empty, .string ByteArray.empty, .int .i64 0, .bool false, .string ByteArray.empty, .int .i64 0] := TyF.mk' (z := .agg #[.string ByteArray.empty, .int .i64 0, .int .i64 0, .int .i64 0, .string ByteArray.empty, .string ByteArray.empty, .int .i64 0, .bool false, .string ByteArray.empty, .int .i64 0]) Tryz.underlying92 rfl (by kernel_rfl) rfl
def R92 : Rep TAct := ⟨92, 10, 112, fun x => [.string x.Site, .int .i64 x.No, .int .i64 x.At, .int .i64 x.Kind, .string x.Who, .string x.Motion, .int .i64 x.Cents, .bool x.Yes, .string x.Of, .int .i64 x.Other], fun _ => rfl, fun x u hu => by simp only [List.mem_cons, List.mem_nil_iff, or_false] at hu; rcases hu with rfl | rfl | rfl | rfl | rfl | rfl | rfl | rfl | rfl | rfl <;> rfl, by decide⟩
theorem ty93 : TyF Tryz.prog 93 false 1 24 [.slice none 0 0] := TyF.mk' (z := .slice none 0 0) Tryz.underlying93 rfl (by kernel_rfl) rfl
theorem ty118 : TyF Tryz.prog 118 false 1 8 [.map none] := TyF.mk' (z := .map none) Tryz.underlying118 rfl (by kernel_rfl) rfl
theorem ty124 : TyF Tryz.prog 124 true 2 16 [.int .i64 0, .int .i64 0] := TyF.mk' (z := .agg #[.int .i64 0, .int .i64 0]) Tryz.underlying124 rfl (by kernel_rfl) rfl
def R124 : Rep TWindow := ⟨124, 2, 16, fun x => [.int .i64 x.From, .int .i64 x.To], fun _ => rfl, fun x u hu => by simp only [List.mem_cons, List.mem_nil_iff, or_false] at hu; rcases hu with rfl | rfl <;> rfl, by decide⟩
theorem ty143 : TyF Tryz.prog 143 true 4 32 [.int .i64 0, .int .i64 0, .int .i64 0, .int .i64 0] := TyF.mk' (z := .agg #[.int .i64 0, .int .i64 0, .int .i64 0, .int .i64 0]) Tryz.underlying143 rfl (by kernel_rfl) rfl
def R143 : Rep TFault := ⟨143, 4, 32, fun x => [.int .i64 x.At, .int .i64 x.Kind, .int .i64 x.Low, .int .i64 x.High], fun _ => rfl, fun x u hu => by simp only [List.mem_cons, List.mem_nil_iff, or_false] at hu; rcases hu with rfl | rfl | rfl | rfl <;> rfl, by decide⟩
theorem ty146 : TyF Tryz.prog 146 false 1 8 [.map none] := TyF.mk' (z := .map none) Tryz.underlying146 rfl (by kernel_rfl) rfl
theorem ty154 : TyF Tryz.prog 154 false 1 8 [.map none] := TyF.mk' (z := .map none) Tryz.underlying154 rfl (by kernel_rfl) rfl
theorem ty156 : TyF Tryz.prog 156 false 1 8 [.map none] := TyF.mk' (z := .map none) Tryz.underlying156 rfl (by kernel_rfl) rfl
theorem ty158 : TyF Tryz.prog 158 true 5 56 [.int .i64 0, .map none, .map none, .map none, .slice none 0 0] := TyF.mk' (z := .agg #[.int .i64 0, .map none, .map none, .map none, .slice none 0 0]) Tryz.underlying158 rfl (by kernel_rfl) rfl
theorem ty161 : TyF Tryz.prog 161 true 3 24 [.int .i64 0, .int .i64 0, .int .i64 0] := TyF.mk' (z := .agg #[.int .i64 0, .int .i64 0, .int .i64 0]) Tryz.underlying161 rfl (by kernel_rfl) rfl
def R161 : Rep Tpiece_repeat := ⟨161, 3, 24, fun x => [.int .i64 x.from_, .int .i64 x.to_, .int .i64 x.times], fun _ => rfl, fun x u hu => by simp only [List.mem_cons, List.mem_nil_iff, or_false] at hu; rcases hu with rfl | rfl | rfl <;> rfl, by decide⟩
theorem ty180 : TyF Tryz.prog 180 true 3 24 [.int .i64 0, .int .i64 0, .int .i64 0] := TyF.mk' (z := .agg #[.int .i64 0, .int .i64 0, .int .i64 0]) Tryz.underlying180 rfl (by kernel_rfl) rfl
def R180 : Rep Tclub_stay := ⟨180, 3, 24, fun x => [.int .i64 x.since, .int .i64 x.till, .int .i64 x.cents], fun _ => rfl, fun x u hu => by simp only [List.mem_cons, List.mem_nil_iff, or_false] at hu; rcases hu with rfl | rfl | rfl <;> rfl, by decide⟩
theorem ty213 : TyF Tryz.prog 213 false 1 8 [.map none] := TyF.mk' (z := .map none) Tryz.underlying213 rfl (by kernel_rfl) rfl
theorem ty215 : TyF Tryz.prog 215 true 2 24 [.string ByteArray.empty, .int .i64 0] := TyF.mk' (z := .agg #[.string ByteArray.empty, .int .i64 0]) Tryz.underlying215 rfl (by kernel_rfl) rfl
def R215 : Rep Tclub_own := ⟨215, 2, 24, fun x => [.string x.site, .int .i64 x.no], fun _ => rfl, fun x u hu => by simp only [List.mem_cons, List.mem_nil_iff, or_false] at hu; rcases hu with rfl | rfl <;> rfl, by decide⟩
theorem ty221 : TyF Tryz.prog 221 true 3 40 [.bool false, .map none, .slice none 0 0] := TyF.mk' (z := .agg #[.bool false, .map none, .slice none 0 0]) Tryz.underlying221 rfl (by kernel_rfl) rfl
theorem ty237 : TyF Tryz.prog 237 true 5 5 [.bool false, .bool false, .bool false, .bool false, .bool false] := TyF.mk' (z := .agg #[.bool false, .bool false, .bool false, .bool false, .bool false]) Tryz.underlying237 rfl (by kernel_rfl) rfl
def R237 : Rep Tclub_uses := ⟨237, 5, 5, fun x => [.bool x.who, .bool x.motion, .bool x.cents, .bool x.yes, .bool x.undo], fun _ => rfl, fun x u hu => by simp only [List.mem_cons, List.mem_nil_iff, or_false] at hu; rcases hu with rfl | rfl | rfl | rfl | rfl <;> rfl, by decide⟩
def N22 : Nst (List Int) SV := ⟨⟨22, 1, 24, fun p => [p.2.v], fun _ => rfl, fun p u hu => by simp only [List.mem_cons, List.mem_nil_iff, or_false] at hu; rcases hu with rfl <;> rfl, by decide⟩, fun p w => RdS R3 (SV.v p.2) p.1 w⟩
def N31 : Nst (List (List Int)) (SV × List ((List Int) × SV)) := ⟨⟨31, 1, 24, fun p => [p.2.1.v], fun _ => rfl, fun p u hu => by simp only [List.mem_cons, List.mem_nil_iff, or_false] at hu; rcases hu with rfl <;> rfl, by decide⟩, fun p w => RdS N22.R (SV.v p.2.1) p.2.2 w ∧ Lk N22 p.1 p.2.2 w⟩
def N74 : Nst (List Int) SV := ⟨⟨74, 1, 24, fun p => [p.2.v], fun _ => rfl, fun p u hu => by simp only [List.mem_cons, List.mem_nil_iff, or_false] at hu; rcases hu with rfl <;> rfl, by decide⟩, fun p w => RdS R3 (SV.v p.2) p.1 w⟩
theorem eqst215_ (d : Nat) (x y : Tclub_own) : EqV Tryz.prog (d + 2) 215 (.agg (R215.enc x).toArray) (.agg (R215.enc y).toArray) (decide (x = y)) := by
  have h : ((x.site == y.site) && ((x.no == y.no) && true)) = decide (x = y) := by rw [Bool.eq_iff_iff]; cases x; cases y; simp [ba_beq]
  rw [← h]
  exact eqv_struct Tryz.underlying215 (by kernel_rfl) (eqf_cons (.string x.site) (.string y.site) (by decide) (fun _ => by kernel_rfl) (fun _ => by kernel_rfl) (eqv_str Tryz.underlying9 _ _) (eqf_cons (.int .i64 x.no) (.int .i64 y.no) (by decide) (fun _ => by kernel_rfl) (fun _ => by kernel_rfl) (eqv_int Tryz.underlying3 _ _) eqf_nil))
theorem eqst215 (x y : Tclub_own) : EqV Tryz.prog 10000 215 (.agg (R215.enc x).toArray) (.agg (R215.enc y).toArray) (decide (x = y)) := eqst215_ 9998 x y
@[reducible] def vv3 : Int → Value := fun x => .int .i64 x
@[reducible] def vv4 : Bool → Value := fun x => .bool x
@[reducible] def kv9 : ByteArray → Value := fun x => .string x
theorem keyF9 : KeyF Tryz.prog 9 kv9 := keyF_str Tryz.underlying9
@[reducible] def kv215 : Tclub_own → Value := fun x => .agg (R215.enc x).toArray
theorem keyF215 : KeyF Tryz.prog 215 kv215 := keyF_agg Tryz.underlying215 (fun _ _ _ => by kernel_rfl) eqst215 (fun k v hv => by simp only [R215, List.mem_cons, List.not_mem_nil, or_false] at hv; rcases hv with rfl | rfl <;> simp [Instr.sameBits, ba_dec])
@[reducible] def Fh219 : (Nat × Nat × Array MapEntry × Nat × SV) → Nat := fun q => q.1
def Fe219 : (Bool × (List (ByteArray × Bool)) × (List ByteArray)) → (Nat × Nat × Array MapEntry × Nat × SV) → List Ent := fun t q => [.box q.1 221 [.bool t.1, .map (some q.2.1), q.2.2.2.2.v], .obj (mapO kv9 q.2.1 (mpV vv4 t.2.1) q.2.2.1 q.2.2.2.1), .row R9 (SV.v q.2.2.2.2) t.2.2]
theorem fro219 : ∀ t q F, Ent.ro F ∉ Fe219 t q := by intro t q F h; simp [Fe219] at h
theorem fl25_0 : FldF Tryz.prog 25 0 0 := fun _ _ => by kernel_rfl
theorem fl25_1 : FldF Tryz.prog 25 1 1 := fun _ _ => by kernel_rfl
theorem fl40_0 : FldF Tryz.prog 40 0 0 := fun _ _ => by kernel_rfl
theorem fl40_1 : FldF Tryz.prog 40 1 1 := fun _ _ => by kernel_rfl
theorem fl40_2 : FldF Tryz.prog 40 2 2 := fun _ _ => by kernel_rfl
theorem fl40_3 : FldF Tryz.prog 40 3 3 := fun _ _ => by kernel_rfl
theorem fl40_4 : FldF Tryz.prog 40 4 4 := fun _ _ => by kernel_rfl
theorem fl46_0 : FldF Tryz.prog 46 0 0 := fun _ _ => by kernel_rfl
theorem fl46_1 : FldF Tryz.prog 46 1 1 := fun _ _ => by kernel_rfl
theorem fl48_0 : FldF Tryz.prog 48 0 0 := fun _ _ => by kernel_rfl
theorem fl48_1 : FldF Tryz.prog 48 1 1 := fun _ _ => by kernel_rfl
theorem fl48_2 : FldF Tryz.prog 48 2 3 := fun _ _ => by kernel_rfl
theorem fl48_3 : FldF Tryz.prog 48 3 4 := fun _ _ => by kernel_rfl
theorem fl55_0 : FldF Tryz.prog 55 0 0 := fun _ _ => by kernel_rfl
theorem fl55_1 : FldF Tryz.prog 55 1 1 := fun _ _ => by kernel_rfl
theorem fl55_2 : FldF Tryz.prog 55 2 2 := fun _ _ => by kernel_rfl
theorem fl63_0 : FldF Tryz.prog 63 0 0 := fun _ _ => by kernel_rfl
theorem fl63_1 : FldF Tryz.prog 63 1 1 := fun _ _ => by kernel_rfl
theorem fl70_0 : FldF Tryz.prog 70 0 0 := fun _ _ => by kernel_rfl
theorem fl70_1 : FldF Tryz.prog 70 1 3 := fun _ _ => by kernel_rfl
theorem fl70_2 : FldF Tryz.prog 70 2 4 := fun _ _ => by kernel_rfl
theorem fl70_3 : FldF Tryz.prog 70 3 5 := fun _ _ => by kernel_rfl
theorem fl88_0 : FldF Tryz.prog 88 0 0 := fun _ _ => by kernel_rfl
theorem fl88_1 : FldF Tryz.prog 88 1 1 := fun _ _ => by kernel_rfl
theorem fl88_2 : FldF Tryz.prog 88 2 2 := fun _ _ => by kernel_rfl
theorem fl92_0 : FldF Tryz.prog 92 0 0 := fun _ _ => by kernel_rfl
theorem fl92_1 : FldF Tryz.prog 92 1 1 := fun _ _ => by kernel_rfl
theorem fl92_2 : FldF Tryz.prog 92 2 2 := fun _ _ => by kernel_rfl
theorem fl92_3 : FldF Tryz.prog 92 3 3 := fun _ _ => by kernel_rfl
theorem fl92_4 : FldF Tryz.prog 92 4 4 := fun _ _ => by kernel_rfl
theorem fl92_5 : FldF Tryz.prog 92 5 5 := fun _ _ => by kernel_rfl
theorem fl92_6 : FldF Tryz.prog 92 6 6 := fun _ _ => by kernel_rfl
theorem fl92_7 : FldF Tryz.prog 92 7 7 := fun _ _ => by kernel_rfl
theorem fl92_8 : FldF Tryz.prog 92 8 8 := fun _ _ => by kernel_rfl
theorem fl92_9 : FldF Tryz.prog 92 9 9 := fun _ _ => by kernel_rfl
theorem fl124_0 : FldF Tryz.prog 124 0 0 := fun _ _ => by kernel_rfl
theorem fl124_1 : FldF Tryz.prog 124 1 1 := fun _ _ => by kernel_rfl
theorem fl158_1 : FldF Tryz.prog 158 1 1 := fun _ _ => by kernel_rfl
theorem fl158_2 : FldF Tryz.prog 158 2 2 := fun _ _ => by kernel_rfl
theorem fl158_3 : FldF Tryz.prog 158 3 3 := fun _ _ => by kernel_rfl
theorem fl158_4 : FldF Tryz.prog 158 4 4 := fun _ _ => by kernel_rfl
theorem fl161_0 : FldF Tryz.prog 161 0 0 := fun _ _ => by kernel_rfl
theorem fl161_1 : FldF Tryz.prog 161 1 1 := fun _ _ => by kernel_rfl
theorem fl161_2 : FldF Tryz.prog 161 2 2 := fun _ _ => by kernel_rfl
theorem fl180_1 : FldF Tryz.prog 180 1 1 := fun _ _ => by kernel_rfl
theorem fl221_0 : FldF Tryz.prog 221 0 0 := fun _ _ => by kernel_rfl
theorem fl221_1 : FldF Tryz.prog 221 1 1 := fun _ _ => by kernel_rfl
theorem fl221_2 : FldF Tryz.prog 221 2 2 := fun _ _ => by kernel_rfl
theorem fl237_0 : FldF Tryz.prog 237 0 0 := fun _ _ => by kernel_rfl
theorem fl237_1 : FldF Tryz.prog 237 1 1 := fun _ _ => by kernel_rfl
theorem fl237_2 : FldF Tryz.prog 237 2 2 := fun _ _ => by kernel_rfl
theorem fl237_3 : FldF Tryz.prog 237 3 3 := fun _ _ => by kernel_rfl
theorem fl237_4 : FldF Tryz.prog 237 4 4 := fun _ _ => by kernel_rfl
theorem cf4 : ∀ args w, (callFunc 4 args).run Tryz.prog w = .ok (.enter 4 args) w := fun _ _ => by kernel_rfl
theorem cf5 : ∀ args w, (callFunc 5 args).run Tryz.prog w = .ok (.enter 5 args) w := fun _ _ => by kernel_rfl
theorem cf6 : ∀ args w, (callFunc 6 args).run Tryz.prog w = .ok (.enter 6 args) w := fun _ _ => by kernel_rfl
theorem cf7 : ∀ args w, (callFunc 7 args).run Tryz.prog w = .ok (.enter 7 args) w := fun _ _ => by kernel_rfl
theorem cf8 : ∀ args w, (callFunc 8 args).run Tryz.prog w = .ok (.enter 8 args) w := fun _ _ => by kernel_rfl
theorem cf9 : ∀ args w, (callFunc 9 args).run Tryz.prog w = .ok (.enter 9 args) w := fun _ _ => by kernel_rfl
theorem cf10 : ∀ args w, (callFunc 10 args).run Tryz.prog w = .ok (.enter 10 args) w := fun _ _ => by kernel_rfl
theorem cf11 : ∀ args w, (callFunc 11 args).run Tryz.prog w = .ok (.enter 11 args) w := fun _ _ => by kernel_rfl
theorem cf12 : ∀ args w, (callFunc 12 args).run Tryz.prog w = .ok (.enter 12 args) w := fun _ _ => by kernel_rfl
theorem cf13 : ∀ args w, (callFunc 13 args).run Tryz.prog w = .ok (.enter 13 args) w := fun _ _ => by kernel_rfl
theorem cf14 : ∀ args w, (callFunc 14 args).run Tryz.prog w = .ok (.enter 14 args) w := fun _ _ => by kernel_rfl
theorem cf15 : ∀ args w, (callFunc 15 args).run Tryz.prog w = .ok (.enter 15 args) w := fun _ _ => by kernel_rfl
theorem cf16 : ∀ args w, (callFunc 16 args).run Tryz.prog w = .ok (.enter 16 args) w := fun _ _ => by kernel_rfl
theorem cf17 : ∀ args w, (callFunc 17 args).run Tryz.prog w = .ok (.enter 17 args) w := fun _ _ => by kernel_rfl
theorem cf18 : ∀ args w, (callFunc 18 args).run Tryz.prog w = .ok (.enter 18 args) w := fun _ _ => by kernel_rfl
theorem cf19 : ∀ args w, (callFunc 19 args).run Tryz.prog w = .ok (.enter 19 args) w := fun _ _ => by kernel_rfl
theorem cf20 : ∀ args w, (callFunc 20 args).run Tryz.prog w = .ok (.enter 20 args) w := fun _ _ => by kernel_rfl
theorem cf21 : ∀ args w, (callFunc 21 args).run Tryz.prog w = .ok (.enter 21 args) w := fun _ _ => by kernel_rfl
theorem cf22 : ∀ args w, (callFunc 22 args).run Tryz.prog w = .ok (.enter 22 args) w := fun _ _ => by kernel_rfl
theorem cf23 : ∀ args w, (callFunc 23 args).run Tryz.prog w = .ok (.enter 23 args) w := fun _ _ => by kernel_rfl
theorem cf24 : ∀ args w, (callFunc 24 args).run Tryz.prog w = .ok (.enter 24 args) w := fun _ _ => by kernel_rfl
theorem cf25 : ∀ args w, (callFunc 25 args).run Tryz.prog w = .ok (.enter 25 args) w := fun _ _ => by kernel_rfl
theorem cf26 : ∀ args w, (callFunc 26 args).run Tryz.prog w = .ok (.enter 26 args) w := fun _ _ => by kernel_rfl
theorem cf27 : ∀ args w, (callFunc 27 args).run Tryz.prog w = .ok (.enter 27 args) w := fun _ _ => by kernel_rfl
theorem cf28 : ∀ args w, (callFunc 28 args).run Tryz.prog w = .ok (.enter 28 args) w := fun _ _ => by kernel_rfl
theorem cf29 : ∀ args w, (callFunc 29 args).run Tryz.prog w = .ok (.enter 29 args) w := fun _ _ => by kernel_rfl
theorem cf30 : ∀ args w, (callFunc 30 args).run Tryz.prog w = .ok (.enter 30 args) w := fun _ _ => by kernel_rfl
theorem cf31 : ∀ args w, (callFunc 31 args).run Tryz.prog w = .ok (.enter 31 args) w := fun _ _ => by kernel_rfl
theorem cf32 : ∀ args w, (callFunc 32 args).run Tryz.prog w = .ok (.enter 32 args) w := fun _ _ => by kernel_rfl
theorem cf33 : ∀ args w, (callFunc 33 args).run Tryz.prog w = .ok (.enter 33 args) w := fun _ _ => by kernel_rfl
theorem cf34 : ∀ args w, (callFunc 34 args).run Tryz.prog w = .ok (.enter 34 args) w := fun _ _ => by kernel_rfl
theorem cf35 : ∀ args w, (callFunc 35 args).run Tryz.prog w = .ok (.enter 35 args) w := fun _ _ => by kernel_rfl
theorem cf36 : ∀ args w, (callFunc 36 args).run Tryz.prog w = .ok (.enter 36 args) w := fun _ _ => by kernel_rfl
theorem cf37 : ∀ args w, (callFunc 37 args).run Tryz.prog w = .ok (.enter 37 args) w := fun _ _ => by kernel_rfl
theorem cf38 : ∀ args w, (callFunc 38 args).run Tryz.prog w = .ok (.enter 38 args) w := fun _ _ => by kernel_rfl
theorem cf39 : ∀ args w, (callFunc 39 args).run Tryz.prog w = .ok (.enter 39 args) w := fun _ _ => by kernel_rfl
theorem cf40 : ∀ args w, (callFunc 40 args).run Tryz.prog w = .ok (.enter 40 args) w := fun _ _ => by kernel_rfl
theorem cf41 : ∀ args w, (callFunc 41 args).run Tryz.prog w = .ok (.enter 41 args) w := fun _ _ => by kernel_rfl
theorem cf42 : ∀ args w, (callFunc 42 args).run Tryz.prog w = .ok (.enter 42 args) w := fun _ _ => by kernel_rfl
theorem cf43 : ∀ args w, (callFunc 43 args).run Tryz.prog w = .ok (.enter 43 args) w := fun _ _ => by kernel_rfl
theorem cf44 : ∀ args w, (callFunc 44 args).run Tryz.prog w = .ok (.enter 44 args) w := fun _ _ => by kernel_rfl
theorem cf45 : ∀ args w, (callFunc 45 args).run Tryz.prog w = .ok (.enter 45 args) w := fun _ _ => by kernel_rfl
theorem cf46 : ∀ args w, (callFunc 46 args).run Tryz.prog w = .ok (.enter 46 args) w := fun _ _ => by kernel_rfl
theorem cf47 : ∀ args w, (callFunc 47 args).run Tryz.prog w = .ok (.enter 47 args) w := fun _ _ => by kernel_rfl
theorem cf48 : ∀ args w, (callFunc 48 args).run Tryz.prog w = .ok (.enter 48 args) w := fun _ _ => by kernel_rfl
theorem cf49 : ∀ args w, (callFunc 49 args).run Tryz.prog w = .ok (.enter 49 args) w := fun _ _ => by kernel_rfl
theorem cf50 : ∀ args w, (callFunc 50 args).run Tryz.prog w = .ok (.enter 50 args) w := fun _ _ => by kernel_rfl
theorem cf51 : ∀ args w, (callFunc 51 args).run Tryz.prog w = .ok (.enter 51 args) w := fun _ _ => by kernel_rfl
theorem cf52 : ∀ args w, (callFunc 52 args).run Tryz.prog w = .ok (.enter 52 args) w := fun _ _ => by kernel_rfl
theorem cf53 : ∀ args w, (callFunc 53 args).run Tryz.prog w = .ok (.enter 53 args) w := fun _ _ => by kernel_rfl
theorem cf54 : ∀ args w, (callFunc 54 args).run Tryz.prog w = .ok (.enter 54 args) w := fun _ _ => by kernel_rfl
theorem cf55 : ∀ args w, (callFunc 55 args).run Tryz.prog w = .ok (.enter 55 args) w := fun _ _ => by kernel_rfl
theorem cf56 : ∀ args w, (callFunc 56 args).run Tryz.prog w = .ok (.enter 56 args) w := fun _ _ => by kernel_rfl
theorem cf57 : ∀ args w, (callFunc 57 args).run Tryz.prog w = .ok (.enter 57 args) w := fun _ _ => by kernel_rfl
theorem cf58 : ∀ args w, (callFunc 58 args).run Tryz.prog w = .ok (.enter 58 args) w := fun _ _ => by kernel_rfl
theorem cf59 : ∀ args w, (callFunc 59 args).run Tryz.prog w = .ok (.enter 59 args) w := fun _ _ => by kernel_rfl
theorem cf60 : ∀ args w, (callFunc 60 args).run Tryz.prog w = .ok (.enter 60 args) w := fun _ _ => by kernel_rfl
theorem cf61 : ∀ args w, (callFunc 61 args).run Tryz.prog w = .ok (.enter 61 args) w := fun _ _ => by kernel_rfl
theorem cf62 : ∀ args w, (callFunc 62 args).run Tryz.prog w = .ok (.enter 62 args) w := fun _ _ => by kernel_rfl
theorem cf63 : ∀ args w, (callFunc 63 args).run Tryz.prog w = .ok (.enter 63 args) w := fun _ _ => by kernel_rfl
theorem cf64 : ∀ args w, (callFunc 64 args).run Tryz.prog w = .ok (.enter 64 args) w := fun _ _ => by kernel_rfl
theorem cf65 : ∀ args w, (callFunc 65 args).run Tryz.prog w = .ok (.enter 65 args) w := fun _ _ => by kernel_rfl
theorem cf66 : ∀ args w, (callFunc 66 args).run Tryz.prog w = .ok (.enter 66 args) w := fun _ _ => by kernel_rfl
theorem cf67 : ∀ args w, (callFunc 67 args).run Tryz.prog w = .ok (.enter 67 args) w := fun _ _ => by kernel_rfl
theorem cf68 : ∀ args w, (callFunc 68 args).run Tryz.prog w = .ok (.enter 68 args) w := fun _ _ => by kernel_rfl
theorem cf69 : ∀ args w, (callFunc 69 args).run Tryz.prog w = .ok (.enter 69 args) w := fun _ _ => by kernel_rfl
theorem cf70 : ∀ args w, (callFunc 70 args).run Tryz.prog w = .ok (.enter 70 args) w := fun _ _ => by kernel_rfl
theorem cf71 : ∀ args w, (callFunc 71 args).run Tryz.prog w = .ok (.enter 71 args) w := fun _ _ => by kernel_rfl
theorem cf72 : ∀ args w, (callFunc 72 args).run Tryz.prog w = .ok (.enter 72 args) w := fun _ _ => by kernel_rfl
theorem cf73 : ∀ args w, (callFunc 73 args).run Tryz.prog w = .ok (.enter 73 args) w := fun _ _ => by kernel_rfl
theorem cf74 : ∀ args w, (callFunc 74 args).run Tryz.prog w = .ok (.enter 74 args) w := fun _ _ => by kernel_rfl
theorem cf75 : ∀ args w, (callFunc 75 args).run Tryz.prog w = .ok (.enter 75 args) w := fun _ _ => by kernel_rfl
theorem cf76 : ∀ args w, (callFunc 76 args).run Tryz.prog w = .ok (.enter 76 args) w := fun _ _ => by kernel_rfl
theorem cf77 : ∀ args w, (callFunc 77 args).run Tryz.prog w = .ok (.enter 77 args) w := fun _ _ => by kernel_rfl
theorem cf78 : ∀ args w, (callFunc 78 args).run Tryz.prog w = .ok (.enter 78 args) w := fun _ _ => by kernel_rfl
theorem cf79 : ∀ args w, (callFunc 79 args).run Tryz.prog w = .ok (.enter 79 args) w := fun _ _ => by kernel_rfl
theorem cf80 : ∀ args w, (callFunc 80 args).run Tryz.prog w = .ok (.enter 80 args) w := fun _ _ => by kernel_rfl
theorem cf81 : ∀ args w, (callFunc 81 args).run Tryz.prog w = .ok (.enter 81 args) w := fun _ _ => by kernel_rfl
theorem cf82 : ∀ args w, (callFunc 82 args).run Tryz.prog w = .ok (.enter 82 args) w := fun _ _ => by kernel_rfl
theorem cf83 : ∀ args w, (callFunc 83 args).run Tryz.prog w = .ok (.enter 83 args) w := fun _ _ => by kernel_rfl
theorem cf84 : ∀ args w, (callFunc 84 args).run Tryz.prog w = .ok (.enter 84 args) w := fun _ _ => by kernel_rfl
theorem cf85 : ∀ args w, (callFunc 85 args).run Tryz.prog w = .ok (.enter 85 args) w := fun _ _ => by kernel_rfl
theorem cf87 : ∀ args w, (callFunc 87 args).run Tryz.prog w = .ok (.enter 87 args) w := fun _ _ => by kernel_rfl
theorem cf88 : ∀ args w, (callFunc 88 args).run Tryz.prog w = .ok (.enter 88 args) w := fun _ _ => by kernel_rfl
theorem cf89 : ∀ args w, (callFunc 89 args).run Tryz.prog w = .ok (.enter 89 args) w := fun _ _ => by kernel_rfl
theorem cf90 : ∀ args w, (callFunc 90 args).run Tryz.prog w = .ok (.enter 90 args) w := fun _ _ => by kernel_rfl
theorem cf91 : ∀ args w, (callFunc 91 args).run Tryz.prog w = .ok (.enter 91 args) w := fun _ _ => by kernel_rfl
theorem cf92 : ∀ args w, (callFunc 92 args).run Tryz.prog w = .ok (.enter 92 args) w := fun _ _ => by kernel_rfl
theorem cf93 : ∀ args w, (callFunc 93 args).run Tryz.prog w = .ok (.enter 93 args) w := fun _ _ => by kernel_rfl
theorem cf94 : ∀ args w, (callFunc 94 args).run Tryz.prog w = .ok (.enter 94 args) w := fun _ _ => by kernel_rfl
theorem cf95 : ∀ args w, (callFunc 95 args).run Tryz.prog w = .ok (.enter 95 args) w := fun _ _ => by kernel_rfl
theorem cf96 : ∀ args w, (callFunc 96 args).run Tryz.prog w = .ok (.enter 96 args) w := fun _ _ => by kernel_rfl
theorem cf97 : ∀ args w, (callFunc 97 args).run Tryz.prog w = .ok (.enter 97 args) w := fun _ _ => by kernel_rfl
theorem cf98 : ∀ args w, (callFunc 98 args).run Tryz.prog w = .ok (.enter 98 args) w := fun _ _ => by kernel_rfl
theorem cf99 : ∀ args w, (callFunc 99 args).run Tryz.prog w = .ok (.enter 99 args) w := fun _ _ => by kernel_rfl
theorem cf100 : ∀ args w, (callFunc 100 args).run Tryz.prog w = .ok (.enter 100 args) w := fun _ _ => by kernel_rfl
theorem cf101 : ∀ args w, (callFunc 101 args).run Tryz.prog w = .ok (.enter 101 args) w := fun _ _ => by kernel_rfl
theorem cf104 : ∀ args w, (callFunc 104 args).run Tryz.prog w = .ok (.enter 104 args) w := fun _ _ => by kernel_rfl
theorem cf106 : ∀ args w, (callFunc 106 args).run Tryz.prog w = .ok (.enter 106 args) w := fun _ _ => by kernel_rfl
theorem cf107 : ∀ args w, (callFunc 107 args).run Tryz.prog w = .ok (.enter 107 args) w := fun _ _ => by kernel_rfl
theorem cf108 : ∀ args w, (callFunc 108 args).run Tryz.prog w = .ok (.enter 108 args) w := fun _ _ => by kernel_rfl
theorem cf109 : ∀ args w, (callFunc 109 args).run Tryz.prog w = .ok (.enter 109 args) w := fun _ _ => by kernel_rfl
theorem cf110 : ∀ args w, (callFunc 110 args).run Tryz.prog w = .ok (.enter 110 args) w := fun _ _ => by kernel_rfl
theorem cf111 : ∀ args w, (callFunc 111 args).run Tryz.prog w = .ok (.enter 111 args) w := fun _ _ => by kernel_rfl
theorem cf112 : ∀ args w, (callFunc 112 args).run Tryz.prog w = .ok (.enter 112 args) w := fun _ _ => by kernel_rfl
theorem cf114 : ∀ args w, (callFunc 114 args).run Tryz.prog w = .ok (.enter 114 args) w := fun _ _ => by kernel_rfl
theorem cf115 : ∀ args w, (callFunc 115 args).run Tryz.prog w = .ok (.enter 115 args) w := fun _ _ => by kernel_rfl
theorem cf116 : ∀ args w, (callFunc 116 args).run Tryz.prog w = .ok (.enter 116 args) w := fun _ _ => by kernel_rfl
theorem cf117 : ∀ args w, (callFunc 117 args).run Tryz.prog w = .ok (.enter 117 args) w := fun _ _ => by kernel_rfl
theorem cf118 : ∀ args w, (callFunc 118 args).run Tryz.prog w = .ok (.enter 118 args) w := fun _ _ => by kernel_rfl
theorem cf119 : ∀ args w, (callFunc 119 args).run Tryz.prog w = .ok (.enter 119 args) w := fun _ _ => by kernel_rfl
theorem cf120 : ∀ args w, (callFunc 120 args).run Tryz.prog w = .ok (.enter 120 args) w := fun _ _ => by kernel_rfl
theorem cf144 : ∀ args w, (callFunc 144 args).run Tryz.prog w = .ok (.enter 144 args) w := fun _ _ => by kernel_rfl
theorem cf155 : ∀ args w, (callFunc 155 args).run Tryz.prog w = .ok (.enter 155 args) w := fun _ _ => by kernel_rfl
theorem cf156 : ∀ args w, (callFunc 156 args).run Tryz.prog w = .ok (.enter 156 args) w := fun _ _ => by kernel_rfl
theorem cf157 : ∀ args w, (callFunc 157 args).run Tryz.prog w = .ok (.enter 157 args) w := fun _ _ => by kernel_rfl
theorem cf158 : ∀ args w, (callFunc 158 args).run Tryz.prog w = .ok (.enter 158 args) w := fun _ _ => by kernel_rfl
theorem cf159 : ∀ args w, (callFunc 159 args).run Tryz.prog w = .ok (.enter 159 args) w := fun _ _ => by kernel_rfl
theorem cf160 : ∀ args w, (callFunc 160 args).run Tryz.prog w = .ok (.enter 160 args) w := fun _ _ => by kernel_rfl
theorem cf180 : ∀ args w, (callFunc 180 args).run Tryz.prog w = .ok (.enter 180 args) w := fun _ _ => by kernel_rfl
theorem cf181 : ∀ args w, (callFunc 181 args).run Tryz.prog w = .ok (.enter 181 args) w := fun _ _ => by kernel_rfl
end Go.Proofs.YthonhgainmokhadGreatDoor
