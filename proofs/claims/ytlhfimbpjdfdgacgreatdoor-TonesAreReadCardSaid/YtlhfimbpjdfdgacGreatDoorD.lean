/- Facts of types that the walks use; no condition. -/
import Derived.Test.YtlhfimbpjdfdgacGreatDoorProg
import Derived.KernelRfl
import Derived.Test.YtlhfimbpjdfdgacGreatDoorM
namespace Go.Proofs.YtlhfimbpjdfdgacGreatDoor
open Go Go.J Go.G
set_option linter.unusedSimpArgs false
theorem ty3 : TyF Tryz.prog 3 false 1 8 [.int .i64 0] := TyF.mk' (z := .int .i64 0) Tryz.underlying3 rfl (by kernel_rfl) rfl
def R3 : Rep Int := ⟨3, 1, 8, fun x => [.int .i64 x], fun _ => rfl, fun x u hu => by simp only [List.mem_cons, List.mem_nil_iff, or_false] at hu; rcases hu with rfl <;> rfl, by decide⟩
theorem ty4 : TyF Tryz.prog 4 false 1 1 [.bool false] := TyF.mk' (z := .bool false) Tryz.underlying4 rfl (by kernel_rfl) rfl
def R4 : Rep Bool := ⟨4, 1, 1, fun x => [.bool x], fun _ => rfl, fun x u hu => by simp only [List.mem_cons, List.mem_nil_iff, or_false] at hu; rcases hu with rfl <;> rfl, by decide⟩
theorem ty9 : TyF Tryz.prog 9 false 1 16 [.string ByteArray.empty] := TyF.mk' (z := .string ByteArray.empty) Tryz.underlying9 rfl (by kernel_rfl) rfl
def R9 : Rep ByteArray := ⟨9, 1, 16, fun x => [.string x], fun _ => rfl, fun x u hu => by simp only [List.mem_cons, List.mem_nil_iff, or_false] at hu; rcases hu with rfl <;> rfl, by decide⟩
theorem ty22 : TyF Tryz.prog 22 false 1 24 [.slice none 0 0] := TyF.mk' (z := .slice none 0 0) Tryz.underlying22 rfl (by kernel_rfl) rfl
theorem ty23 : TyF Tryz.prog 23 false 1 8 [.pointer none] := TyF.mk' (z := .pointer none) Tryz.underlying23 rfl (by kernel_rfl) rfl
theorem ty25 : TyF Tryz.prog 25 true 2 32 [.slice none 0 0, .int .i64 0] := TyF.mk' (z := .agg #[.slice none 0 0, .int .i64 0]) Tryz.underlying25 rfl (by kernel_rfl) rfl
theorem ty28 : TyF Tryz.prog 28 false 1 24 [.slice none 0 0] := TyF.mk' (z := .slice none 0 0) Tryz.underlying28 rfl (by kernel_rfl) rfl
theorem ty30 : TyF Tryz.prog 30 false 1 8 [.int .i64 0] := TyF.mk' (z := .int .i64 0) Tryz.underlying30 rfl (by kernel_rfl) rfl
def R30 : Rep Int := ⟨30, 1, 8, fun x => [.int .i64 x], fun _ => rfl, fun x u hu => by simp only [List.mem_cons, List.mem_nil_iff, or_false] at hu; rcases hu with rfl <;> rfl, by decide⟩
theorem ty38 : TyF Tryz.prog 38 true 2 16 [.int .i64 0, .int .i64 0] := TyF.mk' (z := .agg #[.int .i64 0, .int .i64 0]) Tryz.underlying38 rfl (by kernel_rfl) rfl
def R38 : Rep TFraction := ⟨38, 2, 16, fun x => [.int .i64 x.Num, .int .i64 x.Den], fun _ => rfl, fun x u hu => by simp only [List.mem_cons, List.mem_nil_iff, or_false] at hu; rcases hu with rfl | rfl <;> rfl, by decide⟩
theorem ty40 : TyF Tryz.prog 40 true 5 48 [.int .i64 0, .int .i64 0, .int .i64 0, .string ByteArray.empty, .bool false] := TyF.mk' (z := .agg #[.int .i64 0, .int .i64 0, .int .i64 0, .string ByteArray.empty, .bool false]) Tryz.underlying40 rfl (by kernel_rfl) rfl
def R40 : Rep TTone := ⟨40, 5, 48, fun x => [.int .i64 x.Note, .int .i64 x.Long.Num, .int .i64 x.Long.Den, .string x.Text, .bool x.Tied], fun _ => rfl, fun x u hu => by simp only [List.mem_cons, List.mem_nil_iff, or_false] at hu; rcases hu with rfl | rfl | rfl | rfl | rfl <;> rfl, by decide⟩
theorem ty45 : TyF Tryz.prog 45 true 5 40 [.int .i64 0, .int .i64 0, .int .i64 0, .int .i64 0, .bool false] := TyF.mk' (z := .agg #[.int .i64 0, .int .i64 0, .int .i64 0, .int .i64 0, .bool false]) Tryz.underlying45 rfl (by kernel_rfl) rfl
def R45 : Rep TBar := ⟨45, 5, 40, fun x => [.int .i64 x.Beats, .int .i64 x.Unit, .int .i64 x.Close, .int .i64 x.Ending, .bool x.Open], fun _ => rfl, fun x u hu => by simp only [List.mem_cons, List.mem_nil_iff, or_false] at hu; rcases hu with rfl | rfl | rfl | rfl | rfl <;> rfl, by decide⟩
theorem ty56 : TyF Tryz.prog 56 true 2 32 [.pointer none, .slice none 0 0] := TyF.mk' (z := .agg #[.pointer none, .slice none 0 0]) Tryz.underlying56 rfl (by kernel_rfl) rfl
theorem ty59 : TyF Tryz.prog 59 false 1 24 [.slice none 0 0] := TyF.mk' (z := .slice none 0 0) Tryz.underlying59 rfl (by kernel_rfl) rfl
theorem ty80 : TyF Tryz.prog 80 true 3 24 [.int .i64 0, .int .i64 0, .int .i64 0] := TyF.mk' (z := .agg #[.int .i64 0, .int .i64 0, .int .i64 0]) Tryz.underlying80 rfl (by kernel_rfl) rfl
def R80 : Rep TChord := ⟨80, 3, 24, fun x => [.int .i64 x.Root, .int .i64 x.Kind, .int .i64 x.Turn], fun _ => rfl, fun x u hu => by simp only [List.mem_cons, List.mem_nil_iff, or_false] at hu; rcases hu with rfl | rfl | rfl <;> rfl, by decide⟩
theorem ty84 : TyF Tryz.prog 84 true 3 32 [.int .i64 0, .string ByteArray.empty, .bool false] := TyF.mk' (z := .agg #[.int .i64 0, .string ByteArray.empty, .bool false]) Tryz.underlying84 rfl (by kernel_rfl) rfl
def R84 : Rep TCame := ⟨84, 3, 32, fun x => [.int .i64 x.At, .string x.Singer, .bool x.Left], fun _ => rfl, fun x u hu => by simp only [List.mem_cons, List.mem_nil_iff, or_false] at hu; rcases hu with rfl | rfl | rfl <;> rfl, by decide⟩
theorem ty89 : TyF Tryz.prog 89 true 4 64 [.string ByteArray.empty, .string ByteArray.empty, .int .i64 0, .slice none 0 0] := TyF.mk' (z := .agg #[.string ByteArray.empty, .string ByteArray.empty, .int .i64 0, .slice none 0 0]) Tryz.underlying89 rfl (by kernel_rfl) rfl
theorem ty90 : TyF Tryz.prog 90 false 1 24 [.slice none 0 0] := TyF.mk' (z := .slice none 0 0) Tryz.underlying90 rfl (by kernel_rfl) rfl
theorem ty92 : TyF Tryz.prog 92 true 5 56 [.slice none 0 0, .int .i64 0, .int .i64 0, .int .i64 0, .int .i64 0] := TyF.mk' (z := .agg #[.slice none 0 0, .int .i64 0, .int .i64 0, .int .i64 0, .int .i64 0]) Tryz.underlying92 rfl (by kernel_rfl) rfl
theorem ty95 : TyF Tryz.prog 95 true 10 112 [.string ByteArray.empty, .int .i64 0, .int .i64 0, .int .i64 0, .string ByteArray.empty, .string ByteArray.empty, .int .i64 0, .bool false, .string ByteArray.empty, .int .i64 0] := TyF.mk' (z := .agg #[.string ByteArray.empty, .int .i64 0, .int .i64 0, .int .i64 0, .string ByteArray.empty, .string ByteArray.empty, .int .i64 0, .bool false, .string ByteArray.empty, .int .i64 0]) Tryz.underlying95 rfl (by kernel_rfl) rfl
def R95 : Rep TAct := ⟨95, 10, 112, fun x => [.string x.Site, .int .i64 x.No, .int .i64 x.At, .int .i64 x.Kind, .string x.Who, .string x.Motion, .int .i64 x.Cents, .bool x.Yes, .string x.Of, .int .i64 x.Other], fun _ => rfl, fun x u hu => by simp only [List.mem_cons, List.mem_nil_iff, or_false] at hu; rcases hu with rfl | rfl | rfl | rfl | rfl | rfl | rfl | rfl | rfl | rfl <;> rfl, by decide⟩
theorem ty96 : TyF Tryz.prog 96 false 1 24 [.slice none 0 0] := TyF.mk' (z := .slice none 0 0) Tryz.underlying96 rfl (by kernel_rfl) rfl
theorem ty123 : TyF Tryz.prog 123 false 1 8 [.map none] := TyF.mk' (z := .map none) Tryz.underlying123 rfl (by kernel_rfl) rfl
theorem ty129 : TyF Tryz.prog 129 true 2 16 [.int .i64 0, .int .i64 0] := TyF.mk' (z := .agg #[.int .i64 0, .int .i64 0]) Tryz.underlying129 rfl (by kernel_rfl) rfl
def R129 : Rep TWindow := ⟨129, 2, 16, fun x => [.int .i64 x.From, .int .i64 x.To], fun _ => rfl, fun x u hu => by simp only [List.mem_cons, List.mem_nil_iff, or_false] at hu; rcases hu with rfl | rfl <;> rfl, by decide⟩
theorem ty147 : TyF Tryz.prog 147 true 3 24 [.int .i64 0, .int .i64 0, .int .i64 0] := TyF.mk' (z := .agg #[.int .i64 0, .int .i64 0, .int .i64 0]) Tryz.underlying147 rfl (by kernel_rfl) rfl
def R147 : Rep Tpiece_repeat := ⟨147, 3, 24, fun x => [.int .i64 x.from_, .int .i64 x.to_, .int .i64 x.times], fun _ => rfl, fun x u hu => by simp only [List.mem_cons, List.mem_nil_iff, or_false] at hu; rcases hu with rfl | rfl | rfl <;> rfl, by decide⟩
theorem ty155 : TyF Tryz.prog 155 false 1 8 [.map none] := TyF.mk' (z := .map none) Tryz.underlying155 rfl (by kernel_rfl) rfl
theorem ty164 : TyF Tryz.prog 164 false 1 8 [.map none] := TyF.mk' (z := .map none) Tryz.underlying164 rfl (by kernel_rfl) rfl
theorem ty166 : TyF Tryz.prog 166 false 1 8 [.map none] := TyF.mk' (z := .map none) Tryz.underlying166 rfl (by kernel_rfl) rfl
theorem ty168 : TyF Tryz.prog 168 true 5 56 [.int .i64 0, .map none, .map none, .map none, .slice none 0 0] := TyF.mk' (z := .agg #[.int .i64 0, .map none, .map none, .map none, .slice none 0 0]) Tryz.underlying168 rfl (by kernel_rfl) rfl
theorem ty189 : TyF Tryz.prog 189 true 3 24 [.int .i64 0, .int .i64 0, .int .i64 0] := TyF.mk' (z := .agg #[.int .i64 0, .int .i64 0, .int .i64 0]) Tryz.underlying189 rfl (by kernel_rfl) rfl
def R189 : Rep Tclub_stay := ⟨189, 3, 24, fun x => [.int .i64 x.since, .int .i64 x.till, .int .i64 x.cents], fun _ => rfl, fun x u hu => by simp only [List.mem_cons, List.mem_nil_iff, or_false] at hu; rcases hu with rfl | rfl | rfl <;> rfl, by decide⟩
theorem ty225 : TyF Tryz.prog 225 false 1 8 [.map none] := TyF.mk' (z := .map none) Tryz.underlying225 rfl (by kernel_rfl) rfl
theorem ty227 : TyF Tryz.prog 227 true 2 24 [.string ByteArray.empty, .int .i64 0] := TyF.mk' (z := .agg #[.string ByteArray.empty, .int .i64 0]) Tryz.underlying227 rfl (by kernel_rfl) rfl
def R227 : Rep Tclub_own := ⟨227, 2, 24, fun x => [.string x.site, .int .i64 x.no], fun _ => rfl, fun x u hu => by simp only [List.mem_cons, List.mem_nil_iff, or_false] at hu; rcases hu with rfl | rfl <;> rfl, by decide⟩
theorem ty234 : TyF Tryz.prog 234 true 3 40 [.bool false, .map none, .slice none 0 0] := TyF.mk' (z := .agg #[.bool false, .map none, .slice none 0 0]) Tryz.underlying234 rfl (by kernel_rfl) rfl
theorem ty254 : TyF Tryz.prog 254 true 5 5 [.bool false, .bool false, .bool false, .bool false, .bool false] := TyF.mk' (z := .agg #[.bool false, .bool false, .bool false, .bool false, .bool false]) Tryz.underlying254 rfl (by kernel_rfl) rfl
def R254 : Rep Tclub_uses := ⟨254, 5, 5, fun x => [.bool x.who, .bool x.motion, .bool x.cents, .bool x.yes, .bool x.undo], fun _ => rfl, fun x u hu => by simp only [List.mem_cons, List.mem_nil_iff, or_false] at hu; rcases hu with rfl | rfl | rfl | rfl | rfl <;> rfl, by decide⟩
def N22 : Nst (List Int) SV := ⟨⟨22, 1, 24, fun p => [p.2.v], fun _ => rfl, fun p u hu => by simp only [List.mem_cons, List.mem_nil_iff, or_false] at hu; rcases hu with rfl <;> rfl, by decide⟩, fun p w => RdS R3 (SV.v p.2) p.1 w⟩
def N28 : Nst (List TTone) SV := ⟨⟨28, 1, 24, fun p => [p.2.v], fun _ => rfl, fun p u hu => by simp only [List.mem_cons, List.mem_nil_iff, or_false] at hu; rcases hu with rfl <;> rfl, by decide⟩, fun p w => RdS R40 (SV.v p.2) p.1 w⟩
def N89 : Nst TItem SV := ⟨⟨89, 4, 64, fun p => [.string p.1.Key, .string p.1.Places, .int .i64 p.1.Long, p.2.v], fun _ => rfl, fun p u hu => by simp only [List.mem_cons, List.mem_nil_iff, or_false] at hu; rcases hu with rfl | rfl | rfl | rfl <;> rfl, by decide⟩, fun p w => RdS R9 (SV.v p.2) p.1.Parts w⟩
theorem eqst38_ (d : Nat) (x y : TFraction) : EqV Tryz.prog (d + 2) 38 (.agg (R38.enc x).toArray) (.agg (R38.enc y).toArray) (decide (x = y)) := by
  have h : ((x.Num == y.Num) && ((x.Den == y.Den) && true)) = decide (x = y) := by rw [Bool.eq_iff_iff]; cases x; cases y; simp [ba_beq]
  rw [← h]
  exact eqv_struct Tryz.underlying38 (by kernel_rfl) (eqf_cons (.int .i64 x.Num) (.int .i64 y.Num) (by decide) (fun _ => by kernel_rfl) (fun _ => by kernel_rfl) (eqv_int Tryz.underlying3 _ _) (eqf_cons (.int .i64 x.Den) (.int .i64 y.Den) (by decide) (fun _ => by kernel_rfl) (fun _ => by kernel_rfl) (eqv_int Tryz.underlying3 _ _) eqf_nil))
theorem eqst38 (x y : TFraction) : EqV Tryz.prog 10000 38 (.agg (R38.enc x).toArray) (.agg (R38.enc y).toArray) (decide (x = y)) := eqst38_ 9998 x y
theorem eqst40_ (d : Nat) (x y : TTone) : EqV Tryz.prog (d + 3) 40 (.agg (R40.enc x).toArray) (.agg (R40.enc y).toArray) (decide (x = y)) := by
  have h : ((x.Note == y.Note) && ((decide (x.Long = y.Long)) && ((x.Text == y.Text) && ((x.Tied == y.Tied) && true)))) = decide (x = y) := by rw [Bool.eq_iff_iff]; cases x; cases y; simp [ba_beq]
  rw [← h]
  exact eqv_struct Tryz.underlying40 (by kernel_rfl) (eqf_cons (.int .i64 x.Note) (.int .i64 y.Note) (by decide) (fun _ => by kernel_rfl) (fun _ => by kernel_rfl) (eqv_int Tryz.underlying3 _ _) (eqf_cons (.agg (R38.enc x.Long).toArray) (.agg (R38.enc y.Long).toArray) (by decide) (fun _ => by kernel_rfl) (fun _ => by kernel_rfl) (eqst38_ _ x.Long y.Long) (eqf_cons (.string x.Text) (.string y.Text) (by decide) (fun _ => by kernel_rfl) (fun _ => by kernel_rfl) (eqv_str Tryz.underlying9 _ _) (eqf_cons (.bool x.Tied) (.bool y.Tied) (by decide) (fun _ => by kernel_rfl) (fun _ => by kernel_rfl) (eqv_bool Tryz.underlying4 _ _) eqf_nil))))
theorem eqst40 (x y : TTone) : EqV Tryz.prog 10000 40 (.agg (R40.enc x).toArray) (.agg (R40.enc y).toArray) (decide (x = y)) := eqst40_ 9997 x y
theorem eqst227_ (d : Nat) (x y : Tclub_own) : EqV Tryz.prog (d + 2) 227 (.agg (R227.enc x).toArray) (.agg (R227.enc y).toArray) (decide (x = y)) := by
  have h : ((x.site == y.site) && ((x.no == y.no) && true)) = decide (x = y) := by rw [Bool.eq_iff_iff]; cases x; cases y; simp [ba_beq]
  rw [← h]
  exact eqv_struct Tryz.underlying227 (by kernel_rfl) (eqf_cons (.string x.site) (.string y.site) (by decide) (fun _ => by kernel_rfl) (fun _ => by kernel_rfl) (eqv_str Tryz.underlying9 _ _) (eqf_cons (.int .i64 x.no) (.int .i64 y.no) (by decide) (fun _ => by kernel_rfl) (fun _ => by kernel_rfl) (eqv_int Tryz.underlying3 _ _) eqf_nil))
theorem eqst227 (x y : Tclub_own) : EqV Tryz.prog 10000 227 (.agg (R227.enc x).toArray) (.agg (R227.enc y).toArray) (decide (x = y)) := eqst227_ 9998 x y
@[reducible] def vv3 : Int → Value := fun x => .int .i64 x
@[reducible] def vv4 : Bool → Value := fun x => .bool x
@[reducible] def kv9 : ByteArray → Value := fun x => .string x
theorem keyF9 : KeyF Tryz.prog 9 kv9 := keyF_str Tryz.underlying9
@[reducible] def kv227 : Tclub_own → Value := fun x => .agg (R227.enc x).toArray
theorem keyF227 : KeyF Tryz.prog 227 kv227 := keyF_agg Tryz.underlying227 (fun _ _ _ => by kernel_rfl) eqst227 (fun k v hv => by simp only [R227, List.mem_cons, List.not_mem_nil, or_false] at hv; rcases hv with rfl | rfl <;> simp [Instr.sameBits, ba_dec])
@[reducible] def Fh232 : (Nat × Nat × Array MapEntry × Nat × SV) → Nat := fun q => q.1
def Fe232 : (Bool × (List (ByteArray × Bool)) × (List ByteArray)) → (Nat × Nat × Array MapEntry × Nat × SV) → List Ent := fun t q => [.box q.1 234 [.bool t.1, .map (some q.2.1), q.2.2.2.2.v], .obj (mapO kv9 q.2.1 (mpV vv4 t.2.1) q.2.2.1 q.2.2.2.1), .row R9 (SV.v q.2.2.2.2) t.2.2]
theorem fro232 : ∀ t q F, Ent.ro F ∉ Fe232 t q := by intro t q F h; simp [Fe232] at h
theorem fl25_0 : FldF Tryz.prog 25 0 0 := fun _ _ => by kernel_rfl
theorem fl25_1 : FldF Tryz.prog 25 1 1 := fun _ _ => by kernel_rfl
theorem fl38_0 : FldF Tryz.prog 38 0 0 := fun _ _ => by kernel_rfl
theorem fl38_1 : FldF Tryz.prog 38 1 1 := fun _ _ => by kernel_rfl
theorem fl40_0 : FldF Tryz.prog 40 0 0 := fun _ _ => by kernel_rfl
theorem fl40_1 : FldF Tryz.prog 40 1 1 := fun _ _ => by kernel_rfl
theorem fl40_2 : FldF Tryz.prog 40 2 3 := fun _ _ => by kernel_rfl
theorem fl40_3 : FldF Tryz.prog 40 3 4 := fun _ _ => by kernel_rfl
theorem fl45_0 : FldF Tryz.prog 45 0 0 := fun _ _ => by kernel_rfl
theorem fl45_1 : FldF Tryz.prog 45 1 1 := fun _ _ => by kernel_rfl
theorem fl45_2 : FldF Tryz.prog 45 2 2 := fun _ _ => by kernel_rfl
theorem fl45_3 : FldF Tryz.prog 45 3 3 := fun _ _ => by kernel_rfl
theorem fl45_4 : FldF Tryz.prog 45 4 4 := fun _ _ => by kernel_rfl
theorem fl80_0 : FldF Tryz.prog 80 0 0 := fun _ _ => by kernel_rfl
theorem fl80_1 : FldF Tryz.prog 80 1 1 := fun _ _ => by kernel_rfl
theorem fl80_2 : FldF Tryz.prog 80 2 2 := fun _ _ => by kernel_rfl
theorem fl84_0 : FldF Tryz.prog 84 0 0 := fun _ _ => by kernel_rfl
theorem fl84_1 : FldF Tryz.prog 84 1 1 := fun _ _ => by kernel_rfl
theorem fl84_2 : FldF Tryz.prog 84 2 2 := fun _ _ => by kernel_rfl
theorem fl89_0 : FldF Tryz.prog 89 0 0 := fun _ _ => by kernel_rfl
theorem fl89_1 : FldF Tryz.prog 89 1 1 := fun _ _ => by kernel_rfl
theorem fl89_2 : FldF Tryz.prog 89 2 2 := fun _ _ => by kernel_rfl
theorem fl89_3 : FldF Tryz.prog 89 3 3 := fun _ _ => by kernel_rfl
theorem fl92_0 : FldF Tryz.prog 92 0 0 := fun _ _ => by kernel_rfl
theorem fl92_1 : FldF Tryz.prog 92 1 1 := fun _ _ => by kernel_rfl
theorem fl92_2 : FldF Tryz.prog 92 2 2 := fun _ _ => by kernel_rfl
theorem fl92_3 : FldF Tryz.prog 92 3 3 := fun _ _ => by kernel_rfl
theorem fl92_4 : FldF Tryz.prog 92 4 4 := fun _ _ => by kernel_rfl
theorem fl95_0 : FldF Tryz.prog 95 0 0 := fun _ _ => by kernel_rfl
theorem fl95_1 : FldF Tryz.prog 95 1 1 := fun _ _ => by kernel_rfl
theorem fl95_2 : FldF Tryz.prog 95 2 2 := fun _ _ => by kernel_rfl
theorem fl95_3 : FldF Tryz.prog 95 3 3 := fun _ _ => by kernel_rfl
theorem fl95_4 : FldF Tryz.prog 95 4 4 := fun _ _ => by kernel_rfl
theorem fl95_5 : FldF Tryz.prog 95 5 5 := fun _ _ => by kernel_rfl
theorem fl95_6 : FldF Tryz.prog 95 6 6 := fun _ _ => by kernel_rfl
theorem fl95_7 : FldF Tryz.prog 95 7 7 := fun _ _ => by kernel_rfl
theorem fl95_8 : FldF Tryz.prog 95 8 8 := fun _ _ => by kernel_rfl
theorem fl95_9 : FldF Tryz.prog 95 9 9 := fun _ _ => by kernel_rfl
theorem fl129_0 : FldF Tryz.prog 129 0 0 := fun _ _ => by kernel_rfl
theorem fl129_1 : FldF Tryz.prog 129 1 1 := fun _ _ => by kernel_rfl
theorem fl147_0 : FldF Tryz.prog 147 0 0 := fun _ _ => by kernel_rfl
theorem fl147_1 : FldF Tryz.prog 147 1 1 := fun _ _ => by kernel_rfl
theorem fl147_2 : FldF Tryz.prog 147 2 2 := fun _ _ => by kernel_rfl
theorem fl168_1 : FldF Tryz.prog 168 1 1 := fun _ _ => by kernel_rfl
theorem fl168_2 : FldF Tryz.prog 168 2 2 := fun _ _ => by kernel_rfl
theorem fl168_3 : FldF Tryz.prog 168 3 3 := fun _ _ => by kernel_rfl
theorem fl168_4 : FldF Tryz.prog 168 4 4 := fun _ _ => by kernel_rfl
theorem fl189_1 : FldF Tryz.prog 189 1 1 := fun _ _ => by kernel_rfl
theorem fl234_0 : FldF Tryz.prog 234 0 0 := fun _ _ => by kernel_rfl
theorem fl234_1 : FldF Tryz.prog 234 1 1 := fun _ _ => by kernel_rfl
theorem fl234_2 : FldF Tryz.prog 234 2 2 := fun _ _ => by kernel_rfl
theorem fl254_0 : FldF Tryz.prog 254 0 0 := fun _ _ => by kernel_rfl
theorem fl254_1 : FldF Tryz.prog 254 1 1 := fun _ _ => by kernel_rfl
theorem fl254_2 : FldF Tryz.prog 254 2 2 := fun _ _ => by kernel_rfl
theorem fl254_3 : FldF Tryz.prog 254 3 3 := fun _ _ => by kernel_rfl
theorem fl254_4 : FldF Tryz.prog 254 4 4 := fun _ _ => by kernel_rfl
theorem cf4 : ∀ args w, (callFunc 4 args).run Tryz.prog w = .ok (.enter 4 args) w := fun _ _ => by kernel_rfl
theorem cf5 : ∀ args w, (callFunc 5 args).run Tryz.prog w = .ok (.enter 5 args) w := fun _ _ => by kernel_rfl
theorem cf6 : ∀ args w, (callFunc 6 args).run Tryz.prog w = .ok (.enter 6 args) w := fun _ _ => by kernel_rfl
theorem cf7 : ∀ args w, (callFunc 7 args).run Tryz.prog w = .ok (.enter 7 args) w := fun _ _ => by kernel_rfl
theorem cf8 : ∀ args w, (callFunc 8 args).run Tryz.prog w = .ok (.enter 8 args) w := fun _ _ => by kernel_rfl
theorem cf9 : ∀ args w, (callFunc 9 args).run Tryz.prog w = .ok (.enter 9 args) w := fun _ _ => by kernel_rfl
theorem cf10 : ∀ args w, (callFunc 10 args).run Tryz.prog w = .ok (.enter 10 args) w := fun _ _ => by kernel_rfl
theorem cf11 : ∀ args w, (callFunc 11 args).run Tryz.prog w = .ok (.enter 11 args) w := fun _ _ => by kernel_rfl
theorem cf12 : ∀ args w, (callFunc 12 args).run Tryz.prog w = .ok (.enter 12 args) w := fun _ _ => by kernel_rfl
theorem cf13 : ∀ args w, (callFunc 13 args).run Tryz.prog w = .ok (.enter 13 args) w := fun _ _ => by kernel_rfl
theorem cf14 : ∀ args w, (callFunc 14 args).run Tryz.prog w = .ok (.enter 14 args) w := fun _ _ => by kernel_rfl
theorem cf15 : ∀ args w, (callFunc 15 args).run Tryz.prog w = .ok (.enter 15 args) w := fun _ _ => by kernel_rfl
theorem cf16 : ∀ args w, (callFunc 16 args).run Tryz.prog w = .ok (.enter 16 args) w := fun _ _ => by kernel_rfl
theorem cf17 : ∀ args w, (callFunc 17 args).run Tryz.prog w = .ok (.enter 17 args) w := fun _ _ => by kernel_rfl
theorem cf18 : ∀ args w, (callFunc 18 args).run Tryz.prog w = .ok (.enter 18 args) w := fun _ _ => by kernel_rfl
theorem cf19 : ∀ args w, (callFunc 19 args).run Tryz.prog w = .ok (.enter 19 args) w := fun _ _ => by kernel_rfl
theorem cf20 : ∀ args w, (callFunc 20 args).run Tryz.prog w = .ok (.enter 20 args) w := fun _ _ => by kernel_rfl
theorem cf21 : ∀ args w, (callFunc 21 args).run Tryz.prog w = .ok (.enter 21 args) w := fun _ _ => by kernel_rfl
theorem cf22 : ∀ args w, (callFunc 22 args).run Tryz.prog w = .ok (.enter 22 args) w := fun _ _ => by kernel_rfl
theorem cf23 : ∀ args w, (callFunc 23 args).run Tryz.prog w = .ok (.enter 23 args) w := fun _ _ => by kernel_rfl
theorem cf24 : ∀ args w, (callFunc 24 args).run Tryz.prog w = .ok (.enter 24 args) w := fun _ _ => by kernel_rfl
theorem cf25 : ∀ args w, (callFunc 25 args).run Tryz.prog w = .ok (.enter 25 args) w := fun _ _ => by kernel_rfl
theorem cf26 : ∀ args w, (callFunc 26 args).run Tryz.prog w = .ok (.enter 26 args) w := fun _ _ => by kernel_rfl
theorem cf27 : ∀ args w, (callFunc 27 args).run Tryz.prog w = .ok (.enter 27 args) w := fun _ _ => by kernel_rfl
theorem cf28 : ∀ args w, (callFunc 28 args).run Tryz.prog w = .ok (.enter 28 args) w := fun _ _ => by kernel_rfl
theorem cf29 : ∀ args w, (callFunc 29 args).run Tryz.prog w = .ok (.enter 29 args) w := fun _ _ => by kernel_rfl
theorem cf30 : ∀ args w, (callFunc 30 args).run Tryz.prog w = .ok (.enter 30 args) w := fun _ _ => by kernel_rfl
theorem cf31 : ∀ args w, (callFunc 31 args).run Tryz.prog w = .ok (.enter 31 args) w := fun _ _ => by kernel_rfl
theorem cf32 : ∀ args w, (callFunc 32 args).run Tryz.prog w = .ok (.enter 32 args) w := fun _ _ => by kernel_rfl
theorem cf33 : ∀ args w, (callFunc 33 args).run Tryz.prog w = .ok (.enter 33 args) w := fun _ _ => by kernel_rfl
theorem cf34 : ∀ args w, (callFunc 34 args).run Tryz.prog w = .ok (.enter 34 args) w := fun _ _ => by kernel_rfl
theorem cf35 : ∀ args w, (callFunc 35 args).run Tryz.prog w = .ok (.enter 35 args) w := fun _ _ => by kernel_rfl
theorem cf36 : ∀ args w, (callFunc 36 args).run Tryz.prog w = .ok (.enter 36 args) w := fun _ _ => by kernel_rfl
theorem cf37 : ∀ args w, (callFunc 37 args).run Tryz.prog w = .ok (.enter 37 args) w := fun _ _ => by kernel_rfl
theorem cf38 : ∀ args w, (callFunc 38 args).run Tryz.prog w = .ok (.enter 38 args) w := fun _ _ => by kernel_rfl
theorem cf39 : ∀ args w, (callFunc 39 args).run Tryz.prog w = .ok (.enter 39 args) w := fun _ _ => by kernel_rfl
theorem cf40 : ∀ args w, (callFunc 40 args).run Tryz.prog w = .ok (.enter 40 args) w := fun _ _ => by kernel_rfl
theorem cf41 : ∀ args w, (callFunc 41 args).run Tryz.prog w = .ok (.enter 41 args) w := fun _ _ => by kernel_rfl
theorem cf42 : ∀ args w, (callFunc 42 args).run Tryz.prog w = .ok (.enter 42 args) w := fun _ _ => by kernel_rfl
theorem cf43 : ∀ args w, (callFunc 43 args).run Tryz.prog w = .ok (.enter 43 args) w := fun _ _ => by kernel_rfl
theorem cf45 : ∀ args w, (callFunc 45 args).run Tryz.prog w = .ok (.enter 45 args) w := fun _ _ => by kernel_rfl
theorem cf46 : ∀ args w, (callFunc 46 args).run Tryz.prog w = .ok (.enter 46 args) w := fun _ _ => by kernel_rfl
theorem cf47 : ∀ args w, (callFunc 47 args).run Tryz.prog w = .ok (.enter 47 args) w := fun _ _ => by kernel_rfl
theorem cf48 : ∀ args w, (callFunc 48 args).run Tryz.prog w = .ok (.enter 48 args) w := fun _ _ => by kernel_rfl
theorem cf49 : ∀ args w, (callFunc 49 args).run Tryz.prog w = .ok (.enter 49 args) w := fun _ _ => by kernel_rfl
theorem cf50 : ∀ args w, (callFunc 50 args).run Tryz.prog w = .ok (.enter 50 args) w := fun _ _ => by kernel_rfl
theorem cf51 : ∀ args w, (callFunc 51 args).run Tryz.prog w = .ok (.enter 51 args) w := fun _ _ => by kernel_rfl
theorem cf52 : ∀ args w, (callFunc 52 args).run Tryz.prog w = .ok (.enter 52 args) w := fun _ _ => by kernel_rfl
theorem cf53 : ∀ args w, (callFunc 53 args).run Tryz.prog w = .ok (.enter 53 args) w := fun _ _ => by kernel_rfl
theorem cf54 : ∀ args w, (callFunc 54 args).run Tryz.prog w = .ok (.enter 54 args) w := fun _ _ => by kernel_rfl
theorem cf55 : ∀ args w, (callFunc 55 args).run Tryz.prog w = .ok (.enter 55 args) w := fun _ _ => by kernel_rfl
theorem cf56 : ∀ args w, (callFunc 56 args).run Tryz.prog w = .ok (.enter 56 args) w := fun _ _ => by kernel_rfl
theorem cf57 : ∀ args w, (callFunc 57 args).run Tryz.prog w = .ok (.enter 57 args) w := fun _ _ => by kernel_rfl
theorem cf58 : ∀ args w, (callFunc 58 args).run Tryz.prog w = .ok (.enter 58 args) w := fun _ _ => by kernel_rfl
theorem cf59 : ∀ args w, (callFunc 59 args).run Tryz.prog w = .ok (.enter 59 args) w := fun _ _ => by kernel_rfl
theorem cf60 : ∀ args w, (callFunc 60 args).run Tryz.prog w = .ok (.enter 60 args) w := fun _ _ => by kernel_rfl
theorem cf61 : ∀ args w, (callFunc 61 args).run Tryz.prog w = .ok (.enter 61 args) w := fun _ _ => by kernel_rfl
theorem cf62 : ∀ args w, (callFunc 62 args).run Tryz.prog w = .ok (.enter 62 args) w := fun _ _ => by kernel_rfl
theorem cf63 : ∀ args w, (callFunc 63 args).run Tryz.prog w = .ok (.enter 63 args) w := fun _ _ => by kernel_rfl
theorem cf64 : ∀ args w, (callFunc 64 args).run Tryz.prog w = .ok (.enter 64 args) w := fun _ _ => by kernel_rfl
theorem cf65 : ∀ args w, (callFunc 65 args).run Tryz.prog w = .ok (.enter 65 args) w := fun _ _ => by kernel_rfl
theorem cf66 : ∀ args w, (callFunc 66 args).run Tryz.prog w = .ok (.enter 66 args) w := fun _ _ => by kernel_rfl
theorem cf67 : ∀ args w, (callFunc 67 args).run Tryz.prog w = .ok (.enter 67 args) w := fun _ _ => by kernel_rfl
theorem cf68 : ∀ args w, (callFunc 68 args).run Tryz.prog w = .ok (.enter 68 args) w := fun _ _ => by kernel_rfl
theorem cf69 : ∀ args w, (callFunc 69 args).run Tryz.prog w = .ok (.enter 69 args) w := fun _ _ => by kernel_rfl
theorem cf70 : ∀ args w, (callFunc 70 args).run Tryz.prog w = .ok (.enter 70 args) w := fun _ _ => by kernel_rfl
theorem cf71 : ∀ args w, (callFunc 71 args).run Tryz.prog w = .ok (.enter 71 args) w := fun _ _ => by kernel_rfl
theorem cf72 : ∀ args w, (callFunc 72 args).run Tryz.prog w = .ok (.enter 72 args) w := fun _ _ => by kernel_rfl
theorem cf73 : ∀ args w, (callFunc 73 args).run Tryz.prog w = .ok (.enter 73 args) w := fun _ _ => by kernel_rfl
theorem cf74 : ∀ args w, (callFunc 74 args).run Tryz.prog w = .ok (.enter 74 args) w := fun _ _ => by kernel_rfl
theorem cf75 : ∀ args w, (callFunc 75 args).run Tryz.prog w = .ok (.enter 75 args) w := fun _ _ => by kernel_rfl
theorem cf76 : ∀ args w, (callFunc 76 args).run Tryz.prog w = .ok (.enter 76 args) w := fun _ _ => by kernel_rfl
theorem cf80 : ∀ args w, (callFunc 80 args).run Tryz.prog w = .ok (.enter 80 args) w := fun _ _ => by kernel_rfl
theorem cf81 : ∀ args w, (callFunc 81 args).run Tryz.prog w = .ok (.enter 81 args) w := fun _ _ => by kernel_rfl
theorem cf83 : ∀ args w, (callFunc 83 args).run Tryz.prog w = .ok (.enter 83 args) w := fun _ _ => by kernel_rfl
theorem cf84 : ∀ args w, (callFunc 84 args).run Tryz.prog w = .ok (.enter 84 args) w := fun _ _ => by kernel_rfl
theorem cf85 : ∀ args w, (callFunc 85 args).run Tryz.prog w = .ok (.enter 85 args) w := fun _ _ => by kernel_rfl
theorem cf86 : ∀ args w, (callFunc 86 args).run Tryz.prog w = .ok (.enter 86 args) w := fun _ _ => by kernel_rfl
theorem cf87 : ∀ args w, (callFunc 87 args).run Tryz.prog w = .ok (.enter 87 args) w := fun _ _ => by kernel_rfl
theorem cf88 : ∀ args w, (callFunc 88 args).run Tryz.prog w = .ok (.enter 88 args) w := fun _ _ => by kernel_rfl
theorem cf89 : ∀ args w, (callFunc 89 args).run Tryz.prog w = .ok (.enter 89 args) w := fun _ _ => by kernel_rfl
theorem cf90 : ∀ args w, (callFunc 90 args).run Tryz.prog w = .ok (.enter 90 args) w := fun _ _ => by kernel_rfl
theorem cf91 : ∀ args w, (callFunc 91 args).run Tryz.prog w = .ok (.enter 91 args) w := fun _ _ => by kernel_rfl
theorem cf92 : ∀ args w, (callFunc 92 args).run Tryz.prog w = .ok (.enter 92 args) w := fun _ _ => by kernel_rfl
theorem cf93 : ∀ args w, (callFunc 93 args).run Tryz.prog w = .ok (.enter 93 args) w := fun _ _ => by kernel_rfl
theorem cf94 : ∀ args w, (callFunc 94 args).run Tryz.prog w = .ok (.enter 94 args) w := fun _ _ => by kernel_rfl
theorem cf95 : ∀ args w, (callFunc 95 args).run Tryz.prog w = .ok (.enter 95 args) w := fun _ _ => by kernel_rfl
theorem cf96 : ∀ args w, (callFunc 96 args).run Tryz.prog w = .ok (.enter 96 args) w := fun _ _ => by kernel_rfl
theorem cf97 : ∀ args w, (callFunc 97 args).run Tryz.prog w = .ok (.enter 97 args) w := fun _ _ => by kernel_rfl
theorem cf98 : ∀ args w, (callFunc 98 args).run Tryz.prog w = .ok (.enter 98 args) w := fun _ _ => by kernel_rfl
theorem cf99 : ∀ args w, (callFunc 99 args).run Tryz.prog w = .ok (.enter 99 args) w := fun _ _ => by kernel_rfl
theorem cf100 : ∀ args w, (callFunc 100 args).run Tryz.prog w = .ok (.enter 100 args) w := fun _ _ => by kernel_rfl
theorem cf101 : ∀ args w, (callFunc 101 args).run Tryz.prog w = .ok (.enter 101 args) w := fun _ _ => by kernel_rfl
theorem cf102 : ∀ args w, (callFunc 102 args).run Tryz.prog w = .ok (.enter 102 args) w := fun _ _ => by kernel_rfl
theorem cf103 : ∀ args w, (callFunc 103 args).run Tryz.prog w = .ok (.enter 103 args) w := fun _ _ => by kernel_rfl
theorem cf104 : ∀ args w, (callFunc 104 args).run Tryz.prog w = .ok (.enter 104 args) w := fun _ _ => by kernel_rfl
theorem cf105 : ∀ args w, (callFunc 105 args).run Tryz.prog w = .ok (.enter 105 args) w := fun _ _ => by kernel_rfl
theorem cf108 : ∀ args w, (callFunc 108 args).run Tryz.prog w = .ok (.enter 108 args) w := fun _ _ => by kernel_rfl
theorem cf109 : ∀ args w, (callFunc 109 args).run Tryz.prog w = .ok (.enter 109 args) w := fun _ _ => by kernel_rfl
theorem cf113 : ∀ args w, (callFunc 113 args).run Tryz.prog w = .ok (.enter 113 args) w := fun _ _ => by kernel_rfl
theorem cf114 : ∀ args w, (callFunc 114 args).run Tryz.prog w = .ok (.enter 114 args) w := fun _ _ => by kernel_rfl
theorem cf115 : ∀ args w, (callFunc 115 args).run Tryz.prog w = .ok (.enter 115 args) w := fun _ _ => by kernel_rfl
theorem cf116 : ∀ args w, (callFunc 116 args).run Tryz.prog w = .ok (.enter 116 args) w := fun _ _ => by kernel_rfl
theorem cf117 : ∀ args w, (callFunc 117 args).run Tryz.prog w = .ok (.enter 117 args) w := fun _ _ => by kernel_rfl
theorem cf118 : ∀ args w, (callFunc 118 args).run Tryz.prog w = .ok (.enter 118 args) w := fun _ _ => by kernel_rfl
theorem cf119 : ∀ args w, (callFunc 119 args).run Tryz.prog w = .ok (.enter 119 args) w := fun _ _ => by kernel_rfl
theorem cf120 : ∀ args w, (callFunc 120 args).run Tryz.prog w = .ok (.enter 120 args) w := fun _ _ => by kernel_rfl
theorem cf121 : ∀ args w, (callFunc 121 args).run Tryz.prog w = .ok (.enter 121 args) w := fun _ _ => by kernel_rfl
theorem cf122 : ∀ args w, (callFunc 122 args).run Tryz.prog w = .ok (.enter 122 args) w := fun _ _ => by kernel_rfl
theorem cf123 : ∀ args w, (callFunc 123 args).run Tryz.prog w = .ok (.enter 123 args) w := fun _ _ => by kernel_rfl
theorem cf126 : ∀ args w, (callFunc 126 args).run Tryz.prog w = .ok (.enter 126 args) w := fun _ _ => by kernel_rfl
theorem cf127 : ∀ args w, (callFunc 127 args).run Tryz.prog w = .ok (.enter 127 args) w := fun _ _ => by kernel_rfl
theorem cf128 : ∀ args w, (callFunc 128 args).run Tryz.prog w = .ok (.enter 128 args) w := fun _ _ => by kernel_rfl
theorem cf129 : ∀ args w, (callFunc 129 args).run Tryz.prog w = .ok (.enter 129 args) w := fun _ _ => by kernel_rfl
theorem cf130 : ∀ args w, (callFunc 130 args).run Tryz.prog w = .ok (.enter 130 args) w := fun _ _ => by kernel_rfl
theorem cf131 : ∀ args w, (callFunc 131 args).run Tryz.prog w = .ok (.enter 131 args) w := fun _ _ => by kernel_rfl
theorem cf132 : ∀ args w, (callFunc 132 args).run Tryz.prog w = .ok (.enter 132 args) w := fun _ _ => by kernel_rfl
theorem cf133 : ∀ args w, (callFunc 133 args).run Tryz.prog w = .ok (.enter 133 args) w := fun _ _ => by kernel_rfl
theorem cf134 : ∀ args w, (callFunc 134 args).run Tryz.prog w = .ok (.enter 134 args) w := fun _ _ => by kernel_rfl
theorem cf143 : ∀ args w, (callFunc 143 args).run Tryz.prog w = .ok (.enter 143 args) w := fun _ _ => by kernel_rfl
theorem cf147 : ∀ args w, (callFunc 147 args).run Tryz.prog w = .ok (.enter 147 args) w := fun _ _ => by kernel_rfl
theorem cf158 : ∀ args w, (callFunc 158 args).run Tryz.prog w = .ok (.enter 158 args) w := fun _ _ => by kernel_rfl
theorem cf171 : ∀ args w, (callFunc 171 args).run Tryz.prog w = .ok (.enter 171 args) w := fun _ _ => by kernel_rfl
theorem cf172 : ∀ args w, (callFunc 172 args).run Tryz.prog w = .ok (.enter 172 args) w := fun _ _ => by kernel_rfl
theorem cf173 : ∀ args w, (callFunc 173 args).run Tryz.prog w = .ok (.enter 173 args) w := fun _ _ => by kernel_rfl
theorem cf174 : ∀ args w, (callFunc 174 args).run Tryz.prog w = .ok (.enter 174 args) w := fun _ _ => by kernel_rfl
theorem cf175 : ∀ args w, (callFunc 175 args).run Tryz.prog w = .ok (.enter 175 args) w := fun _ _ => by kernel_rfl
theorem cf176 : ∀ args w, (callFunc 176 args).run Tryz.prog w = .ok (.enter 176 args) w := fun _ _ => by kernel_rfl
theorem cf184 : ∀ args w, (callFunc 184 args).run Tryz.prog w = .ok (.enter 184 args) w := fun _ _ => by kernel_rfl
theorem cf200 : ∀ args w, (callFunc 200 args).run Tryz.prog w = .ok (.enter 200 args) w := fun _ _ => by kernel_rfl
theorem cf201 : ∀ args w, (callFunc 201 args).run Tryz.prog w = .ok (.enter 201 args) w := fun _ _ => by kernel_rfl
end Go.Proofs.YtlhfimbpjdfdgacGreatDoor
