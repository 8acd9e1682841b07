/- Facts on the types and functions. Written by program. -/
import Derived.Test.YtadlgemefhfejadGreatDoorProg
import Derived.KernelRfl
import Derived.Test.YtadlgemefhfejadGreatDoorM
namespace Go.Proofs.YtadlgemefhfejadGreatDoor
open Go Go.J Go.G
set_option linter.unusedSimpArgs false
theorem ty3 : TyF Tryz.prog 3 false 1 8 [.int .i64 0] := TyF.mk' (z := .int .i64 0) Tryz.underlying3 rfl (by kernel_rfl) rfl
def R3 : Rep Int := ⟨3, 1, 8, fun x => [.int .i64 x], fun _ => rfl, fun x u hu => by simp only [List.mem_cons, List.mem_nil_iff, or_false] at hu; rcases hu with rfl <;> rfl, by decide⟩
theorem ty4 : TyF Tryz.prog 4 false 1 1 [.bool false] := TyF.mk' (z := .bool false) Tryz.underlying4 rfl (by kernel_rfl) rfl
def R4 : Rep Bool := ⟨4, 1, 1, fun x => [.bool x], fun _ => rfl, fun x u hu => by simp only [List.mem_cons, List.mem_nil_iff, or_false] at hu; rcases hu with rfl <;> rfl, by decide⟩
theorem ty9 : TyF Tryz.prog 9 false 1 16 [.string ByteArray.empty] := TyF.mk' (z := .string ByteArray.empty) Tryz.underlying9 rfl (by kernel_rfl) rfl
def R9 : Rep ByteArray := ⟨9, 1, 16, fun x => [.string x], fun _ => rfl, fun x u hu => by simp only [List.mem_cons, List.mem_nil_iff, or_false] at hu; rcases hu with rfl <;> rfl, by decide⟩
theorem ty22 : TyF Tryz.prog 22 false 1 24 [.slice none 0 0] := TyF.mk' (z := .slice none 0 0) Tryz.underlying22 rfl (by kernel_rfl) rfl
theorem ty25 : TyF Tryz.prog 25 true 2 32 [.slice none 0 0, .int .i64 0] := TyF.mk' (z := .agg #[.slice none 0 0, .int .i64 0]) Tryz.underlying25 rfl (by kernel_rfl) rfl
theorem ty26 : TyF Tryz.prog 26 false 1 24 [.slice none 0 0] := TyF.mk' (z := .slice none 0 0) Tryz.underlying26 rfl (by kernel_rfl) rfl
theorem ty30 : TyF Tryz.prog 30 false 1 24 [.slice none 0 0] := TyF.mk' (z := .slice none 0 0) Tryz.underlying30 rfl (by kernel_rfl) rfl
theorem ty34 : TyF Tryz.prog 34 true 2 24 [.string ByteArray.empty, .int .i64 0] := TyF.mk' (z := .agg #[.string ByteArray.empty, .int .i64 0]) Tryz.underlying34 rfl (by kernel_rfl) rfl
def R34 : Rep TWish := ⟨34, 2, 24, fun x => [.string x.Piece, .int .i64 x.Need], fun _ => rfl, fun x u hu => by simp only [List.mem_cons, List.mem_nil_iff, or_false] at hu; rcases hu with rfl | rfl <;> rfl, by decide⟩
theorem ty36 : TyF Tryz.prog 36 false 1 24 [.slice none 0 0] := TyF.mk' (z := .slice none 0 0) Tryz.underlying36 rfl (by kernel_rfl) rfl
theorem ty37 : TyF Tryz.prog 37 false 1 8 [.int .i64 0] := TyF.mk' (z := .int .i64 0) Tryz.underlying37 rfl (by kernel_rfl) rfl
def R37 : Rep Int := ⟨37, 1, 8, fun x => [.int .i64 x], fun _ => rfl, fun x u hu => by simp only [List.mem_cons, List.mem_nil_iff, or_false] at hu; rcases hu with rfl <;> rfl, by decide⟩
theorem ty45 : TyF Tryz.prog 45 true 3 48 [.string ByteArray.empty, .string ByteArray.empty, .string ByteArray.empty] := TyF.mk' (z := .agg #[.string ByteArray.empty, .string ByteArray.empty, .string ByteArray.empty]) Tryz.underlying45 rfl (by kernel_rfl) rfl
def R45 : Rep TSings := ⟨45, 3, 48, fun x => [.string x.Singer, .string x.Piece, .string x.Part], fun _ => rfl, fun x u hu => by simp only [List.mem_cons, List.mem_nil_iff, or_false] at hu; rcases hu with rfl | rfl | rfl <;> rfl, by decide⟩
theorem ty51 : TyF Tryz.prog 51 true 2 32 [.string ByteArray.empty, .string ByteArray.empty] := TyF.mk' (z := .agg #[.string ByteArray.empty, .string ByteArray.empty]) Tryz.underlying51 rfl (by kernel_rfl) rfl
def R51 : Rep TPair := ⟨51, 2, 32, fun x => [.string x.Name, .string x.Value], fun _ => rfl, fun x u hu => by simp only [List.mem_cons, List.mem_nil_iff, or_false] at hu; rcases hu with rfl | rfl <;> rfl, by decide⟩
theorem ty54 : TyF Tryz.prog 54 false 1 8 [.map none] := TyF.mk' (z := .map none) Tryz.underlying54 rfl (by kernel_rfl) rfl
theorem ty59 : TyF Tryz.prog 59 true 2 16 [.int .i64 0, .int .i64 0] := TyF.mk' (z := .agg #[.int .i64 0, .int .i64 0]) Tryz.underlying59 rfl (by kernel_rfl) rfl
def R59 : Rep TWindow := ⟨59, 2, 16, fun x => [.int .i64 x.From, .int .i64 x.To], fun _ => rfl, fun x u hu => by simp only [List.mem_cons, List.mem_nil_iff, or_false] at hu; rcases hu with rfl | rfl <;> rfl, by decide⟩
theorem ty61 : TyF Tryz.prog 61 true 6 88 [.string ByteArray.empty, .string ByteArray.empty, .string ByteArray.empty, .slice none 0 0, .int .i64 0, .int .i64 0] := TyF.mk' (z := .agg #[.string ByteArray.empty, .string ByteArray.empty, .string ByteArray.empty, .slice none 0 0, .int .i64 0, .int .i64 0]) Tryz.underlying61 rfl (by kernel_rfl) rfl
theorem ty79 : TyF Tryz.prog 79 true 2 24 [.string ByteArray.empty, .int .i64 0] := TyF.mk' (z := .agg #[.string ByteArray.empty, .int .i64 0]) Tryz.underlying79 rfl (by kernel_rfl) rfl
def R79 : Rep Trehearse_lacking := ⟨79, 2, 24, fun x => [.string x.piece, .int .i64 x.many], fun _ => rfl, fun x u hu => by simp only [List.mem_cons, List.mem_nil_iff, or_false] at hu; rcases hu with rfl | rfl <;> rfl, by decide⟩
theorem ty91 : TyF Tryz.prog 91 true 5 40 [.int .i64 0, .int .i64 0, .int .i64 0, .int .i64 0, .bool false] := TyF.mk' (z := .agg #[.int .i64 0, .int .i64 0, .int .i64 0, .int .i64 0, .bool false]) Tryz.underlying91 rfl (by kernel_rfl) rfl
def R91 : Rep TBar := ⟨91, 5, 40, fun x => [.int .i64 x.Beats, .int .i64 x.Unit, .int .i64 x.Close, .int .i64 x.Ending, .bool x.Open], fun _ => rfl, fun x u hu => by simp only [List.mem_cons, List.mem_nil_iff, or_false] at hu; rcases hu with rfl | rfl | rfl | rfl | rfl <;> rfl, by decide⟩
theorem ty96 : TyF Tryz.prog 96 true 3 24 [.int .i64 0, .int .i64 0, .int .i64 0] := TyF.mk' (z := .agg #[.int .i64 0, .int .i64 0, .int .i64 0]) Tryz.underlying96 rfl (by kernel_rfl) rfl
def R96 : Rep TChord := ⟨96, 3, 24, fun x => [.int .i64 x.Root, .int .i64 x.Kind, .int .i64 x.Turn], fun _ => rfl, fun x u hu => by simp only [List.mem_cons, List.mem_nil_iff, or_false] at hu; rcases hu with rfl | rfl | rfl <;> rfl, by decide⟩
theorem ty99 : TyF Tryz.prog 99 true 3 32 [.int .i64 0, .string ByteArray.empty, .bool false] := TyF.mk' (z := .agg #[.int .i64 0, .string ByteArray.empty, .bool false]) Tryz.underlying99 rfl (by kernel_rfl) rfl
def R99 : Rep TCame := ⟨99, 3, 32, fun x => [.int .i64 x.At, .string x.Singer, .bool x.Left], fun _ => rfl, fun x u hu => by simp only [List.mem_cons, List.mem_nil_iff, or_false] at hu; rcases hu with rfl | rfl | rfl <;> rfl, by decide⟩
theorem ty102 : TyF Tryz.prog 102 true 4 64 [.string ByteArray.empty, .string ByteArray.empty, .int .i64 0, .slice none 0 0] := TyF.mk' (z := .agg #[.string ByteArray.empty, .string ByteArray.empty, .int .i64 0, .slice none 0 0]) Tryz.underlying102 rfl (by kernel_rfl) rfl
theorem ty103 : TyF Tryz.prog 103 false 1 24 [.slice none 0 0] := TyF.mk' (z := .slice none 0 0) Tryz.underlying103 rfl (by kernel_rfl) rfl
theorem ty105 : TyF Tryz.prog 105 true 5 56 [.slice none 0 0, .int .i64 0, .int .i64 0, .int .i64 0, .int .i64 0] := TyF.mk' (z := .agg #[.slice none 0 0, .int .i64 0, .int .i64 0, .int .i64 0, .int .i64 0]) Tryz.underlying105 rfl (by kernel_rfl) rfl
theorem ty108 : TyF Tryz.prog 108 true 10 112 [.string ByteArray.empty, .int .i64 0, .int .i64 0, .int .i64 0, .string ByteArray.empty, .string ByteArray.empty, .int .i64 0, .bool false, .string ByteArray.empty, .int .i64 0] := TyF.mk' (z := .agg #[.string ByteArray.empty, .int .i64 0, .int .i64 0, .int .i64 0, .string ByteArray.empty, .string ByteArray.empty, .int .i64 0, .bool false, .string ByteArray.empty, .int .i64 0]) Tryz.underlying108 rfl (by kernel_rfl) rfl
def R108 : Rep TAct := ⟨108, 10, 112, fun x => [.string x.Site, .int .i64 x.No, .int .i64 x.At, .int .i64 x.Kind, .string x.Who, .string x.Motion, .int .i64 x.Cents, .bool x.Yes, .string x.Of, .int .i64 x.Other], fun _ => rfl, fun x u hu => by simp only [List.mem_cons, List.mem_nil_iff, or_false] at hu; rcases hu with rfl | rfl | rfl | rfl | rfl | rfl | rfl | rfl | rfl | rfl <;> rfl, by decide⟩
theorem ty109 : TyF Tryz.prog 109 false 1 24 [.slice none 0 0] := TyF.mk' (z := .slice none 0 0) Tryz.underlying109 rfl (by kernel_rfl) rfl
theorem ty118 : TyF Tryz.prog 118 false 1 8 [.map none] := TyF.mk' (z := .map none) Tryz.underlying118 rfl (by kernel_rfl) rfl
theorem ty121 : TyF Tryz.prog 121 true 3 56 [.slice none 0 0, .slice none 0 0, .map none] := TyF.mk' (z := .agg #[.slice none 0 0, .slice none 0 0, .map none]) Tryz.underlying121 rfl (by kernel_rfl) rfl
theorem ty136 : TyF Tryz.prog 136 false 1 8 [.map none] := TyF.mk' (z := .map none) Tryz.underlying136 rfl (by kernel_rfl) rfl
theorem ty202 : TyF Tryz.prog 202 false 1 8 [.map none] := TyF.mk' (z := .map none) Tryz.underlying202 rfl (by kernel_rfl) rfl
theorem ty204 : TyF Tryz.prog 204 false 1 8 [.map none] := TyF.mk' (z := .map none) Tryz.underlying204 rfl (by kernel_rfl) rfl
theorem ty206 : TyF Tryz.prog 206 true 5 56 [.int .i64 0, .map none, .map none, .map none, .slice none 0 0] := TyF.mk' (z := .agg #[.int .i64 0, .map none, .map none, .map none, .slice none 0 0]) Tryz.underlying206 rfl (by kernel_rfl) rfl
theorem ty231 : TyF Tryz.prog 231 true 3 24 [.int .i64 0, .int .i64 0, .int .i64 0] := TyF.mk' (z := .agg #[.int .i64 0, .int .i64 0, .int .i64 0]) Tryz.underlying231 rfl (by kernel_rfl) rfl
def R231 : Rep Tpiece_repeat := ⟨231, 3, 24, fun x => [.int .i64 x.from_, .int .i64 x.to_, .int .i64 x.times], fun _ => rfl, fun x u hu => by simp only [List.mem_cons, List.mem_nil_iff, or_false] at hu; rcases hu with rfl | rfl | rfl <;> rfl, by decide⟩
theorem ty244 : TyF Tryz.prog 244 true 3 24 [.int .i64 0, .int .i64 0, .int .i64 0] := TyF.mk' (z := .agg #[.int .i64 0, .int .i64 0, .int .i64 0]) Tryz.underlying244 rfl (by kernel_rfl) rfl
def R244 : Rep Tclub_stay := ⟨244, 3, 24, fun x => [.int .i64 x.since, .int .i64 x.till, .int .i64 x.cents], fun _ => rfl, fun x u hu => by simp only [List.mem_cons, List.mem_nil_iff, or_false] at hu; rcases hu with rfl | rfl | rfl <;> rfl, by decide⟩
theorem ty270 : TyF Tryz.prog 270 false 1 8 [.map none] := TyF.mk' (z := .map none) Tryz.underlying270 rfl (by kernel_rfl) rfl
theorem ty272 : TyF Tryz.prog 272 true 2 24 [.string ByteArray.empty, .int .i64 0] := TyF.mk' (z := .agg #[.string ByteArray.empty, .int .i64 0]) Tryz.underlying272 rfl (by kernel_rfl) rfl
def R272 : Rep Tclub_own := ⟨272, 2, 24, fun x => [.string x.site, .int .i64 x.no], fun _ => rfl, fun x u hu => by simp only [List.mem_cons, List.mem_nil_iff, or_false] at hu; rcases hu with rfl | rfl <;> rfl, by decide⟩
theorem ty279 : TyF Tryz.prog 279 true 3 40 [.bool false, .map none, .slice none 0 0] := TyF.mk' (z := .agg #[.bool false, .map none, .slice none 0 0]) Tryz.underlying279 rfl (by kernel_rfl) rfl
theorem ty292 : TyF Tryz.prog 292 true 5 5 [.bool false, .bool false, .bool false, .bool false, .bool false] := TyF.mk' (z := .agg #[.bool false, .bool false, .bool false, .bool false, .bool false]) Tryz.underlying292 rfl (by kernel_rfl) rfl
def R292 : Rep Tclub_uses := ⟨292, 5, 5, fun x => [.bool x.who, .bool x.motion, .bool x.cents, .bool x.yes, .bool x.undo], fun _ => rfl, fun x u hu => by simp only [List.mem_cons, List.mem_nil_iff, or_false] at hu; rcases hu with rfl | rfl | rfl | rfl | rfl <;> rfl, by decide⟩
def N22 : Nst (List Int) SV := ⟨⟨22, 1, 24, fun p => [p.2.v], fun _ => rfl, fun p u hu => by simp only [List.mem_cons, List.mem_nil_iff, or_false] at hu; rcases hu with rfl <;> rfl, by decide⟩, fun p w => RdS R3 (SV.v p.2) p.1 w⟩
def N30 : Nst (List TCame) SV := ⟨⟨30, 1, 24, fun p => [p.2.v], fun _ => rfl, fun p u hu => by simp only [List.mem_cons, List.mem_nil_iff, or_false] at hu; rcases hu with rfl <;> rfl, by decide⟩, fun p w => RdS R99 (SV.v p.2) p.1 w⟩
def N61 : Nst TSlot SV := ⟨⟨61, 6, 88, fun p => [.string p.1.Key, .string p.1.Room, .string p.1.Piece, p.2.v, .int .i64 p.1.Time.From, .int .i64 p.1.Time.To], fun _ => rfl, fun p u hu => by simp only [List.mem_cons, List.mem_nil_iff, or_false] at hu; rcases hu with rfl | rfl | rfl | rfl | rfl | rfl <;> rfl, by decide⟩, fun p w => RdS R9 (SV.v p.2) p.1.Parts w⟩
def N102 : Nst TItem SV := ⟨⟨102, 4, 64, fun p => [.string p.1.Key, .string p.1.Places, .int .i64 p.1.Long, p.2.v], fun _ => rfl, fun p u hu => by simp only [List.mem_cons, List.mem_nil_iff, or_false] at hu; rcases hu with rfl | rfl | rfl | rfl <;> rfl, by decide⟩, fun p w => RdS R9 (SV.v p.2) p.1.Parts w⟩
theorem eqst99_ (d : Nat) (x y : TCame) : EqV Tryz.prog (d + 2) 99 (.agg (R99.enc x).toArray) (.agg (R99.enc y).toArray) (decide (x = y)) := by
  have h : ((x.At == y.At) && ((x.Singer == y.Singer) && ((x.Left == y.Left) && true))) = decide (x = y) := by rw [Bool.eq_iff_iff]; cases x; cases y; simp [ba_beq]
  rw [← h]
  exact eqv_struct Tryz.underlying99 (by kernel_rfl) (eqf_cons (.int .i64 x.At) (.int .i64 y.At) (by decide) (fun _ => by kernel_rfl) (fun _ => by kernel_rfl) (eqv_int Tryz.underlying3 _ _) (eqf_cons (.string x.Singer) (.string y.Singer) (by decide) (fun _ => by kernel_rfl) (fun _ => by kernel_rfl) (eqv_str Tryz.underlying9 _ _) (eqf_cons (.bool x.Left) (.bool y.Left) (by decide) (fun _ => by kernel_rfl) (fun _ => by kernel_rfl) (eqv_bool Tryz.underlying4 _ _) eqf_nil)))
theorem eqst99 (x y : TCame) : EqV Tryz.prog 10000 99 (.agg (R99.enc x).toArray) (.agg (R99.enc y).toArray) (decide (x = y)) := eqst99_ 9998 x y
theorem eqst272_ (d : Nat) (x y : Tclub_own) : EqV Tryz.prog (d + 2) 272 (.agg (R272.enc x).toArray) (.agg (R272.enc y).toArray) (decide (x = y)) := by
  have h : ((x.site == y.site) && ((x.no == y.no) && true)) = decide (x = y) := by rw [Bool.eq_iff_iff]; cases x; cases y; simp [ba_beq]
  rw [← h]
  exact eqv_struct Tryz.underlying272 (by kernel_rfl) (eqf_cons (.string x.site) (.string y.site) (by decide) (fun _ => by kernel_rfl) (fun _ => by kernel_rfl) (eqv_str Tryz.underlying9 _ _) (eqf_cons (.int .i64 x.no) (.int .i64 y.no) (by decide) (fun _ => by kernel_rfl) (fun _ => by kernel_rfl) (eqv_int Tryz.underlying3 _ _) eqf_nil))
theorem eqst272 (x y : Tclub_own) : EqV Tryz.prog 10000 272 (.agg (R272.enc x).toArray) (.agg (R272.enc y).toArray) (decide (x = y)) := eqst272_ 9998 x y
@[reducible] def vv3 : Int → Value := fun x => .int .i64 x
@[reducible] def vv4 : Bool → Value := fun x => .bool x
@[reducible] def kv9 : ByteArray → Value := fun x => .string x
theorem keyF9 : KeyF Tryz.prog 9 kv9 := keyF_str Tryz.underlying9
@[reducible] def kv272 : Tclub_own → Value := fun x => .agg (R272.enc x).toArray
theorem keyF272 : KeyF Tryz.prog 272 kv272 := keyF_agg Tryz.underlying272 (fun _ _ _ => by kernel_rfl) eqst272 (fun k v hv => by simp only [R272, List.mem_cons, List.not_mem_nil, or_false] at hv; rcases hv with rfl | rfl <;> simp [Instr.sameBits, ba_dec])
@[reducible] def Fh277 : (Nat × Nat × Array MapEntry × Nat × SV) → Nat := fun q => q.1
def Fe277 : (Bool × (List (ByteArray × Bool)) × (List ByteArray)) → (Nat × Nat × Array MapEntry × Nat × SV) → List Ent := fun t q => [.box q.1 279 [.bool t.1, .map (some q.2.1), q.2.2.2.2.v], .obj (mapO kv9 q.2.1 (mpV vv4 t.2.1) q.2.2.1 q.2.2.2.1), .row R9 (SV.v q.2.2.2.2) t.2.2]
theorem fro277 : ∀ t q F, Ent.ro F ∉ Fe277 t q := by intro t q F h; simp [Fe277] at h
theorem fl25_0 : FldF Tryz.prog 25 0 0 := fun _ _ => by kernel_rfl
theorem fl25_1 : FldF Tryz.prog 25 1 1 := fun _ _ => by kernel_rfl
theorem fl34_0 : FldF Tryz.prog 34 0 0 := fun _ _ => by kernel_rfl
theorem fl34_1 : FldF Tryz.prog 34 1 1 := fun _ _ => by kernel_rfl
theorem fl45_0 : FldF Tryz.prog 45 0 0 := fun _ _ => by kernel_rfl
theorem fl45_1 : FldF Tryz.prog 45 1 1 := fun _ _ => by kernel_rfl
theorem fl45_2 : FldF Tryz.prog 45 2 2 := fun _ _ => by kernel_rfl
theorem fl51_1 : FldF Tryz.prog 51 1 1 := fun _ _ => by kernel_rfl
theorem fl59_0 : FldF Tryz.prog 59 0 0 := fun _ _ => by kernel_rfl
theorem fl59_1 : FldF Tryz.prog 59 1 1 := fun _ _ => by kernel_rfl
theorem fl61_0 : FldF Tryz.prog 61 0 0 := fun _ _ => by kernel_rfl
theorem fl61_1 : FldF Tryz.prog 61 1 1 := fun _ _ => by kernel_rfl
theorem fl61_2 : FldF Tryz.prog 61 2 2 := fun _ _ => by kernel_rfl
theorem fl61_3 : FldF Tryz.prog 61 3 3 := fun _ _ => by kernel_rfl
theorem fl61_4 : FldF Tryz.prog 61 4 4 := fun _ _ => by kernel_rfl
theorem fl79_0 : FldF Tryz.prog 79 0 0 := fun _ _ => by kernel_rfl
theorem fl79_1 : FldF Tryz.prog 79 1 1 := fun _ _ => by kernel_rfl
theorem fl91_0 : FldF Tryz.prog 91 0 0 := fun _ _ => by kernel_rfl
theorem fl91_1 : FldF Tryz.prog 91 1 1 := fun _ _ => by kernel_rfl
theorem fl91_2 : FldF Tryz.prog 91 2 2 := fun _ _ => by kernel_rfl
theorem fl91_3 : FldF Tryz.prog 91 3 3 := fun _ _ => by kernel_rfl
theorem fl91_4 : FldF Tryz.prog 91 4 4 := fun _ _ => by kernel_rfl
theorem fl96_0 : FldF Tryz.prog 96 0 0 := fun _ _ => by kernel_rfl
theorem fl96_1 : FldF Tryz.prog 96 1 1 := fun _ _ => by kernel_rfl
theorem fl96_2 : FldF Tryz.prog 96 2 2 := fun _ _ => by kernel_rfl
theorem fl99_0 : FldF Tryz.prog 99 0 0 := fun _ _ => by kernel_rfl
theorem fl99_1 : FldF Tryz.prog 99 1 1 := fun _ _ => by kernel_rfl
theorem fl99_2 : FldF Tryz.prog 99 2 2 := fun _ _ => by kernel_rfl
theorem fl102_0 : FldF Tryz.prog 102 0 0 := fun _ _ => by kernel_rfl
theorem fl102_1 : FldF Tryz.prog 102 1 1 := fun _ _ => by kernel_rfl
theorem fl102_2 : FldF Tryz.prog 102 2 2 := fun _ _ => by kernel_rfl
theorem fl102_3 : FldF Tryz.prog 102 3 3 := fun _ _ => by kernel_rfl
theorem fl105_0 : FldF Tryz.prog 105 0 0 := fun _ _ => by kernel_rfl
theorem fl105_1 : FldF Tryz.prog 105 1 1 := fun _ _ => by kernel_rfl
theorem fl105_2 : FldF Tryz.prog 105 2 2 := fun _ _ => by kernel_rfl
theorem fl105_3 : FldF Tryz.prog 105 3 3 := fun _ _ => by kernel_rfl
theorem fl105_4 : FldF Tryz.prog 105 4 4 := fun _ _ => by kernel_rfl
theorem fl108_0 : FldF Tryz.prog 108 0 0 := fun _ _ => by kernel_rfl
theorem fl108_1 : FldF Tryz.prog 108 1 1 := fun _ _ => by kernel_rfl
theorem fl108_2 : FldF Tryz.prog 108 2 2 := fun _ _ => by kernel_rfl
theorem fl108_3 : FldF Tryz.prog 108 3 3 := fun _ _ => by kernel_rfl
theorem fl108_4 : FldF Tryz.prog 108 4 4 := fun _ _ => by kernel_rfl
theorem fl108_5 : FldF Tryz.prog 108 5 5 := fun _ _ => by kernel_rfl
theorem fl108_6 : FldF Tryz.prog 108 6 6 := fun _ _ => by kernel_rfl
theorem fl108_7 : FldF Tryz.prog 108 7 7 := fun _ _ => by kernel_rfl
theorem fl108_8 : FldF Tryz.prog 108 8 8 := fun _ _ => by kernel_rfl
theorem fl108_9 : FldF Tryz.prog 108 9 9 := fun _ _ => by kernel_rfl
theorem fl121_0 : FldF Tryz.prog 121 0 0 := fun _ _ => by kernel_rfl
theorem fl121_2 : FldF Tryz.prog 121 2 2 := fun _ _ => by kernel_rfl
theorem fl206_1 : FldF Tryz.prog 206 1 1 := fun _ _ => by kernel_rfl
theorem fl206_2 : FldF Tryz.prog 206 2 2 := fun _ _ => by kernel_rfl
theorem fl206_3 : FldF Tryz.prog 206 3 3 := fun _ _ => by kernel_rfl
theorem fl206_4 : FldF Tryz.prog 206 4 4 := fun _ _ => by kernel_rfl
theorem fl231_0 : FldF Tryz.prog 231 0 0 := fun _ _ => by kernel_rfl
theorem fl231_1 : FldF Tryz.prog 231 1 1 := fun _ _ => by kernel_rfl
theorem fl231_2 : FldF Tryz.prog 231 2 2 := fun _ _ => by kernel_rfl
theorem fl244_1 : FldF Tryz.prog 244 1 1 := fun _ _ => by kernel_rfl
theorem fl279_0 : FldF Tryz.prog 279 0 0 := fun _ _ => by kernel_rfl
theorem fl279_1 : FldF Tryz.prog 279 1 1 := fun _ _ => by kernel_rfl
theorem fl279_2 : FldF Tryz.prog 279 2 2 := fun _ _ => by kernel_rfl
theorem fl292_0 : FldF Tryz.prog 292 0 0 := fun _ _ => by kernel_rfl
theorem fl292_1 : FldF Tryz.prog 292 1 1 := fun _ _ => by kernel_rfl
theorem fl292_2 : FldF Tryz.prog 292 2 2 := fun _ _ => by kernel_rfl
theorem fl292_3 : FldF Tryz.prog 292 3 3 := fun _ _ => by kernel_rfl
theorem fl292_4 : FldF Tryz.prog 292 4 4 := fun _ _ => by kernel_rfl
theorem cf4 : ∀ args w, (callFunc 4 args).run Tryz.prog w = .ok (.enter 4 args) w := fun _ _ => by kernel_rfl
theorem cf5 : ∀ args w, (callFunc 5 args).run Tryz.prog w = .ok (.enter 5 args) w := fun _ _ => by kernel_rfl
theorem cf6 : ∀ args w, (callFunc 6 args).run Tryz.prog w = .ok (.enter 6 args) w := fun _ _ => by kernel_rfl
theorem cf7 : ∀ args w, (callFunc 7 args).run Tryz.prog w = .ok (.enter 7 args) w := fun _ _ => by kernel_rfl
theorem cf8 : ∀ args w, (callFunc 8 args).run Tryz.prog w = .ok (.enter 8 args) w := fun _ _ => by kernel_rfl
theorem cf9 : ∀ args w, (callFunc 9 args).run Tryz.prog w = .ok (.enter 9 args) w := fun _ _ => by kernel_rfl
theorem cf10 : ∀ args w, (callFunc 10 args).run Tryz.prog w = .ok (.enter 10 args) w := fun _ _ => by kernel_rfl
theorem cf11 : ∀ args w, (callFunc 11 args).run Tryz.prog w = .ok (.enter 11 args) w := fun _ _ => by kernel_rfl
theorem cf12 : ∀ args w, (callFunc 12 args).run Tryz.prog w = .ok (.enter 12 args) w := fun _ _ => by kernel_rfl
theorem cf13 : ∀ args w, (callFunc 13 args).run Tryz.prog w = .ok (.enter 13 args) w := fun _ _ => by kernel_rfl
theorem cf14 : ∀ args w, (callFunc 14 args).run Tryz.prog w = .ok (.enter 14 args) w := fun _ _ => by kernel_rfl
theorem cf15 : ∀ args w, (callFunc 15 args).run Tryz.prog w = .ok (.enter 15 args) w := fun _ _ => by kernel_rfl
theorem cf16 : ∀ args w, (callFunc 16 args).run Tryz.prog w = .ok (.enter 16 args) w := fun _ _ => by kernel_rfl
theorem cf17 : ∀ args w, (callFunc 17 args).run Tryz.prog w = .ok (.enter 17 args) w := fun _ _ => by kernel_rfl
theorem cf18 : ∀ args w, (callFunc 18 args).run Tryz.prog w = .ok (.enter 18 args) w := fun _ _ => by kernel_rfl
theorem cf19 : ∀ args w, (callFunc 19 args).run Tryz.prog w = .ok (.enter 19 args) w := fun _ _ => by kernel_rfl
theorem cf20 : ∀ args w, (callFunc 20 args).run Tryz.prog w = .ok (.enter 20 args) w := fun _ _ => by kernel_rfl
theorem cf21 : ∀ args w, (callFunc 21 args).run Tryz.prog w = .ok (.enter 21 args) w := fun _ _ => by kernel_rfl
theorem cf22 : ∀ args w, (callFunc 22 args).run Tryz.prog w = .ok (.enter 22 args) w := fun _ _ => by kernel_rfl
theorem cf23 : ∀ args w, (callFunc 23 args).run Tryz.prog w = .ok (.enter 23 args) w := fun _ _ => by kernel_rfl
theorem cf24 : ∀ args w, (callFunc 24 args).run Tryz.prog w = .ok (.enter 24 args) w := fun _ _ => by kernel_rfl
theorem cf25 : ∀ args w, (callFunc 25 args).run Tryz.prog w = .ok (.enter 25 args) w := fun _ _ => by kernel_rfl
theorem cf26 : ∀ args w, (callFunc 26 args).run Tryz.prog w = .ok (.enter 26 args) w := fun _ _ => by kernel_rfl
theorem cf27 : ∀ args w, (callFunc 27 args).run Tryz.prog w = .ok (.enter 27 args) w := fun _ _ => by kernel_rfl
theorem cf28 : ∀ args w, (callFunc 28 args).run Tryz.prog w = .ok (.enter 28 args) w := fun _ _ => by kernel_rfl
theorem cf29 : ∀ args w, (callFunc 29 args).run Tryz.prog w = .ok (.enter 29 args) w := fun _ _ => by kernel_rfl
theorem cf30 : ∀ args w, (callFunc 30 args).run Tryz.prog w = .ok (.enter 30 args) w := fun _ _ => by kernel_rfl
theorem cf31 : ∀ args w, (callFunc 31 args).run Tryz.prog w = .ok (.enter 31 args) w := fun _ _ => by kernel_rfl
theorem cf32 : ∀ args w, (callFunc 32 args).run Tryz.prog w = .ok (.enter 32 args) w := fun _ _ => by kernel_rfl
theorem cf33 : ∀ args w, (callFunc 33 args).run Tryz.prog w = .ok (.enter 33 args) w := fun _ _ => by kernel_rfl
theorem cf34 : ∀ args w, (callFunc 34 args).run Tryz.prog w = .ok (.enter 34 args) w := fun _ _ => by kernel_rfl
theorem cf35 : ∀ args w, (callFunc 35 args).run Tryz.prog w = .ok (.enter 35 args) w := fun _ _ => by kernel_rfl
theorem cf36 : ∀ args w, (callFunc 36 args).run Tryz.prog w = .ok (.enter 36 args) w := fun _ _ => by kernel_rfl
theorem cf37 : ∀ args w, (callFunc 37 args).run Tryz.prog w = .ok (.enter 37 args) w := fun _ _ => by kernel_rfl
theorem cf38 : ∀ args w, (callFunc 38 args).run Tryz.prog w = .ok (.enter 38 args) w := fun _ _ => by kernel_rfl
theorem cf39 : ∀ args w, (callFunc 39 args).run Tryz.prog w = .ok (.enter 39 args) w := fun _ _ => by kernel_rfl
theorem cf40 : ∀ args w, (callFunc 40 args).run Tryz.prog w = .ok (.enter 40 args) w := fun _ _ => by kernel_rfl
theorem cf41 : ∀ args w, (callFunc 41 args).run Tryz.prog w = .ok (.enter 41 args) w := fun _ _ => by kernel_rfl
theorem cf42 : ∀ args w, (callFunc 42 args).run Tryz.prog w = .ok (.enter 42 args) w := fun _ _ => by kernel_rfl
theorem cf43 : ∀ args w, (callFunc 43 args).run Tryz.prog w = .ok (.enter 43 args) w := fun _ _ => by kernel_rfl
theorem cf44 : ∀ args w, (callFunc 44 args).run Tryz.prog w = .ok (.enter 44 args) w := fun _ _ => by kernel_rfl
theorem cf45 : ∀ args w, (callFunc 45 args).run Tryz.prog w = .ok (.enter 45 args) w := fun _ _ => by kernel_rfl
theorem cf46 : ∀ args w, (callFunc 46 args).run Tryz.prog w = .ok (.enter 46 args) w := fun _ _ => by kernel_rfl
theorem cf47 : ∀ args w, (callFunc 47 args).run Tryz.prog w = .ok (.enter 47 args) w := fun _ _ => by kernel_rfl
theorem cf48 : ∀ args w, (callFunc 48 args).run Tryz.prog w = .ok (.enter 48 args) w := fun _ _ => by kernel_rfl
theorem cf49 : ∀ args w, (callFunc 49 args).run Tryz.prog w = .ok (.enter 49 args) w := fun _ _ => by kernel_rfl
theorem cf50 : ∀ args w, (callFunc 50 args).run Tryz.prog w = .ok (.enter 50 args) w := fun _ _ => by kernel_rfl
theorem cf51 : ∀ args w, (callFunc 51 args).run Tryz.prog w = .ok (.enter 51 args) w := fun _ _ => by kernel_rfl
theorem cf52 : ∀ args w, (callFunc 52 args).run Tryz.prog w = .ok (.enter 52 args) w := fun _ _ => by kernel_rfl
theorem cf53 : ∀ args w, (callFunc 53 args).run Tryz.prog w = .ok (.enter 53 args) w := fun _ _ => by kernel_rfl
theorem cf54 : ∀ args w, (callFunc 54 args).run Tryz.prog w = .ok (.enter 54 args) w := fun _ _ => by kernel_rfl
theorem cf55 : ∀ args w, (callFunc 55 args).run Tryz.prog w = .ok (.enter 55 args) w := fun _ _ => by kernel_rfl
theorem cf56 : ∀ args w, (callFunc 56 args).run Tryz.prog w = .ok (.enter 56 args) w := fun _ _ => by kernel_rfl
theorem cf57 : ∀ args w, (callFunc 57 args).run Tryz.prog w = .ok (.enter 57 args) w := fun _ _ => by kernel_rfl
theorem cf58 : ∀ args w, (callFunc 58 args).run Tryz.prog w = .ok (.enter 58 args) w := fun _ _ => by kernel_rfl
theorem cf59 : ∀ args w, (callFunc 59 args).run Tryz.prog w = .ok (.enter 59 args) w := fun _ _ => by kernel_rfl
theorem cf60 : ∀ args w, (callFunc 60 args).run Tryz.prog w = .ok (.enter 60 args) w := fun _ _ => by kernel_rfl
theorem cf61 : ∀ args w, (callFunc 61 args).run Tryz.prog w = .ok (.enter 61 args) w := fun _ _ => by kernel_rfl
theorem cf62 : ∀ args w, (callFunc 62 args).run Tryz.prog w = .ok (.enter 62 args) w := fun _ _ => by kernel_rfl
theorem cf63 : ∀ args w, (callFunc 63 args).run Tryz.prog w = .ok (.enter 63 args) w := fun _ _ => by kernel_rfl
theorem cf64 : ∀ args w, (callFunc 64 args).run Tryz.prog w = .ok (.enter 64 args) w := fun _ _ => by kernel_rfl
theorem cf65 : ∀ args w, (callFunc 65 args).run Tryz.prog w = .ok (.enter 65 args) w := fun _ _ => by kernel_rfl
theorem cf66 : ∀ args w, (callFunc 66 args).run Tryz.prog w = .ok (.enter 66 args) w := fun _ _ => by kernel_rfl
theorem cf67 : ∀ args w, (callFunc 67 args).run Tryz.prog w = .ok (.enter 67 args) w := fun _ _ => by kernel_rfl
theorem cf68 : ∀ args w, (callFunc 68 args).run Tryz.prog w = .ok (.enter 68 args) w := fun _ _ => by kernel_rfl
theorem cf71 : ∀ args w, (callFunc 71 args).run Tryz.prog w = .ok (.enter 71 args) w := fun _ _ => by kernel_rfl
theorem cf72 : ∀ args w, (callFunc 72 args).run Tryz.prog w = .ok (.enter 72 args) w := fun _ _ => by kernel_rfl
theorem cf73 : ∀ args w, (callFunc 73 args).run Tryz.prog w = .ok (.enter 73 args) w := fun _ _ => by kernel_rfl
theorem cf74 : ∀ args w, (callFunc 74 args).run Tryz.prog w = .ok (.enter 74 args) w := fun _ _ => by kernel_rfl
theorem cf75 : ∀ args w, (callFunc 75 args).run Tryz.prog w = .ok (.enter 75 args) w := fun _ _ => by kernel_rfl
theorem cf76 : ∀ args w, (callFunc 76 args).run Tryz.prog w = .ok (.enter 76 args) w := fun _ _ => by kernel_rfl
theorem cf77 : ∀ args w, (callFunc 77 args).run Tryz.prog w = .ok (.enter 77 args) w := fun _ _ => by kernel_rfl
theorem cf78 : ∀ args w, (callFunc 78 args).run Tryz.prog w = .ok (.enter 78 args) w := fun _ _ => by kernel_rfl
theorem cf79 : ∀ args w, (callFunc 79 args).run Tryz.prog w = .ok (.enter 79 args) w := fun _ _ => by kernel_rfl
theorem cf80 : ∀ args w, (callFunc 80 args).run Tryz.prog w = .ok (.enter 80 args) w := fun _ _ => by kernel_rfl
theorem cf81 : ∀ args w, (callFunc 81 args).run Tryz.prog w = .ok (.enter 81 args) w := fun _ _ => by kernel_rfl
theorem cf82 : ∀ args w, (callFunc 82 args).run Tryz.prog w = .ok (.enter 82 args) w := fun _ _ => by kernel_rfl
theorem cf83 : ∀ args w, (callFunc 83 args).run Tryz.prog w = .ok (.enter 83 args) w := fun _ _ => by kernel_rfl
theorem cf84 : ∀ args w, (callFunc 84 args).run Tryz.prog w = .ok (.enter 84 args) w := fun _ _ => by kernel_rfl
theorem cf88 : ∀ args w, (callFunc 88 args).run Tryz.prog w = .ok (.enter 88 args) w := fun _ _ => by kernel_rfl
theorem cf97 : ∀ args w, (callFunc 97 args).run Tryz.prog w = .ok (.enter 97 args) w := fun _ _ => by kernel_rfl
theorem cf98 : ∀ args w, (callFunc 98 args).run Tryz.prog w = .ok (.enter 98 args) w := fun _ _ => by kernel_rfl
theorem cf99 : ∀ args w, (callFunc 99 args).run Tryz.prog w = .ok (.enter 99 args) w := fun _ _ => by kernel_rfl
theorem cf100 : ∀ args w, (callFunc 100 args).run Tryz.prog w = .ok (.enter 100 args) w := fun _ _ => by kernel_rfl
theorem cf101 : ∀ args w, (callFunc 101 args).run Tryz.prog w = .ok (.enter 101 args) w := fun _ _ => by kernel_rfl
theorem cf102 : ∀ args w, (callFunc 102 args).run Tryz.prog w = .ok (.enter 102 args) w := fun _ _ => by kernel_rfl
theorem cf103 : ∀ args w, (callFunc 103 args).run Tryz.prog w = .ok (.enter 103 args) w := fun _ _ => by kernel_rfl
theorem cf104 : ∀ args w, (callFunc 104 args).run Tryz.prog w = .ok (.enter 104 args) w := fun _ _ => by kernel_rfl
theorem cf105 : ∀ args w, (callFunc 105 args).run Tryz.prog w = .ok (.enter 105 args) w := fun _ _ => by kernel_rfl
theorem cf106 : ∀ args w, (callFunc 106 args).run Tryz.prog w = .ok (.enter 106 args) w := fun _ _ => by kernel_rfl
theorem cf107 : ∀ args w, (callFunc 107 args).run Tryz.prog w = .ok (.enter 107 args) w := fun _ _ => by kernel_rfl
theorem cf116 : ∀ args w, (callFunc 116 args).run Tryz.prog w = .ok (.enter 116 args) w := fun _ _ => by kernel_rfl
theorem cf126 : ∀ args w, (callFunc 126 args).run Tryz.prog w = .ok (.enter 126 args) w := fun _ _ => by kernel_rfl
theorem cf127 : ∀ args w, (callFunc 127 args).run Tryz.prog w = .ok (.enter 127 args) w := fun _ _ => by kernel_rfl
theorem cf128 : ∀ args w, (callFunc 128 args).run Tryz.prog w = .ok (.enter 128 args) w := fun _ _ => by kernel_rfl
theorem cf129 : ∀ args w, (callFunc 129 args).run Tryz.prog w = .ok (.enter 129 args) w := fun _ _ => by kernel_rfl
theorem cf130 : ∀ args w, (callFunc 130 args).run Tryz.prog w = .ok (.enter 130 args) w := fun _ _ => by kernel_rfl
theorem cf131 : ∀ args w, (callFunc 131 args).run Tryz.prog w = .ok (.enter 131 args) w := fun _ _ => by kernel_rfl
theorem cf132 : ∀ args w, (callFunc 132 args).run Tryz.prog w = .ok (.enter 132 args) w := fun _ _ => by kernel_rfl
theorem cf133 : ∀ args w, (callFunc 133 args).run Tryz.prog w = .ok (.enter 133 args) w := fun _ _ => by kernel_rfl
theorem cf134 : ∀ args w, (callFunc 134 args).run Tryz.prog w = .ok (.enter 134 args) w := fun _ _ => by kernel_rfl
theorem cf135 : ∀ args w, (callFunc 135 args).run Tryz.prog w = .ok (.enter 135 args) w := fun _ _ => by kernel_rfl
theorem cf136 : ∀ args w, (callFunc 136 args).run Tryz.prog w = .ok (.enter 136 args) w := fun _ _ => by kernel_rfl
theorem cf137 : ∀ args w, (callFunc 137 args).run Tryz.prog w = .ok (.enter 137 args) w := fun _ _ => by kernel_rfl
theorem cf138 : ∀ args w, (callFunc 138 args).run Tryz.prog w = .ok (.enter 138 args) w := fun _ _ => by kernel_rfl
theorem cf139 : ∀ args w, (callFunc 139 args).run Tryz.prog w = .ok (.enter 139 args) w := fun _ _ => by kernel_rfl
theorem cf140 : ∀ args w, (callFunc 140 args).run Tryz.prog w = .ok (.enter 140 args) w := fun _ _ => by kernel_rfl
theorem cf148 : ∀ args w, (callFunc 148 args).run Tryz.prog w = .ok (.enter 148 args) w := fun _ _ => by kernel_rfl
theorem cf149 : ∀ args w, (callFunc 149 args).run Tryz.prog w = .ok (.enter 149 args) w := fun _ _ => by kernel_rfl
theorem cf150 : ∀ args w, (callFunc 150 args).run Tryz.prog w = .ok (.enter 150 args) w := fun _ _ => by kernel_rfl
theorem cf151 : ∀ args w, (callFunc 151 args).run Tryz.prog w = .ok (.enter 151 args) w := fun _ _ => by kernel_rfl
theorem cf164 : ∀ args w, (callFunc 164 args).run Tryz.prog w = .ok (.enter 164 args) w := fun _ _ => by kernel_rfl
theorem cf165 : ∀ args w, (callFunc 165 args).run Tryz.prog w = .ok (.enter 165 args) w := fun _ _ => by kernel_rfl
theorem cf167 : ∀ args w, (callFunc 167 args).run Tryz.prog w = .ok (.enter 167 args) w := fun _ _ => by kernel_rfl
theorem cf168 : ∀ args w, (callFunc 168 args).run Tryz.prog w = .ok (.enter 168 args) w := fun _ _ => by kernel_rfl
theorem cf169 : ∀ args w, (callFunc 169 args).run Tryz.prog w = .ok (.enter 169 args) w := fun _ _ => by kernel_rfl
theorem cf170 : ∀ args w, (callFunc 170 args).run Tryz.prog w = .ok (.enter 170 args) w := fun _ _ => by kernel_rfl
theorem cf171 : ∀ args w, (callFunc 171 args).run Tryz.prog w = .ok (.enter 171 args) w := fun _ _ => by kernel_rfl
theorem cf172 : ∀ args w, (callFunc 172 args).run Tryz.prog w = .ok (.enter 172 args) w := fun _ _ => by kernel_rfl
theorem cf173 : ∀ args w, (callFunc 173 args).run Tryz.prog w = .ok (.enter 173 args) w := fun _ _ => by kernel_rfl
theorem cf174 : ∀ args w, (callFunc 174 args).run Tryz.prog w = .ok (.enter 174 args) w := fun _ _ => by kernel_rfl
theorem cf175 : ∀ args w, (callFunc 175 args).run Tryz.prog w = .ok (.enter 175 args) w := fun _ _ => by kernel_rfl
theorem cf179 : ∀ args w, (callFunc 179 args).run Tryz.prog w = .ok (.enter 179 args) w := fun _ _ => by kernel_rfl
theorem cf187 : ∀ args w, (callFunc 187 args).run Tryz.prog w = .ok (.enter 187 args) w := fun _ _ => by kernel_rfl
theorem cf188 : ∀ args w, (callFunc 188 args).run Tryz.prog w = .ok (.enter 188 args) w := fun _ _ => by kernel_rfl
theorem cf189 : ∀ args w, (callFunc 189 args).run Tryz.prog w = .ok (.enter 189 args) w := fun _ _ => by kernel_rfl
theorem cf190 : ∀ args w, (callFunc 190 args).run Tryz.prog w = .ok (.enter 190 args) w := fun _ _ => by kernel_rfl
theorem cf199 : ∀ args w, (callFunc 199 args).run Tryz.prog w = .ok (.enter 199 args) w := fun _ _ => by kernel_rfl
theorem cf209 : ∀ args w, (callFunc 209 args).run Tryz.prog w = .ok (.enter 209 args) w := fun _ _ => by kernel_rfl
theorem cf210 : ∀ args w, (callFunc 210 args).run Tryz.prog w = .ok (.enter 210 args) w := fun _ _ => by kernel_rfl
theorem cf211 : ∀ args w, (callFunc 211 args).run Tryz.prog w = .ok (.enter 211 args) w := fun _ _ => by kernel_rfl
theorem cf212 : ∀ args w, (callFunc 212 args).run Tryz.prog w = .ok (.enter 212 args) w := fun _ _ => by kernel_rfl
theorem cf213 : ∀ args w, (callFunc 213 args).run Tryz.prog w = .ok (.enter 213 args) w := fun _ _ => by kernel_rfl
theorem cf214 : ∀ args w, (callFunc 214 args).run Tryz.prog w = .ok (.enter 214 args) w := fun _ _ => by kernel_rfl
theorem cf218 : ∀ args w, (callFunc 218 args).run Tryz.prog w = .ok (.enter 218 args) w := fun _ _ => by kernel_rfl
theorem cf224 : ∀ args w, (callFunc 224 args).run Tryz.prog w = .ok (.enter 224 args) w := fun _ _ => by kernel_rfl
theorem cf228 : ∀ args w, (callFunc 228 args).run Tryz.prog w = .ok (.enter 228 args) w := fun _ _ => by kernel_rfl
theorem cf229 : ∀ args w, (callFunc 229 args).run Tryz.prog w = .ok (.enter 229 args) w := fun _ _ => by kernel_rfl
theorem cf231 : ∀ args w, (callFunc 231 args).run Tryz.prog w = .ok (.enter 231 args) w := fun _ _ => by kernel_rfl
end Go.Proofs.YtadlgemefhfejadGreatDoor
