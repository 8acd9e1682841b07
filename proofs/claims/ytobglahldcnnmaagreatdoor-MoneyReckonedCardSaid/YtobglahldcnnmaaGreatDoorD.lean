/- Facts on the types and functions. Written by program. -/
import Derived.Test.YtobglahldcnnmaaGreatDoorProg
import Derived.KernelRfl
import Derived.Test.YtobglahldcnnmaaGreatDoorM
namespace Go.Proofs.YtobglahldcnnmaaGreatDoor
open Go Go.J Go.G
set_option linter.unusedSimpArgs false
theorem ty3 : TyF Tryz.prog 3 false 1 8 [.int .i64 0] := TyF.mk' (z := .int .i64 0) Tryz.underlying3 rfl (by kernel_rfl) rfl
def R3 : Rep Int := ⟨3, 1, 8, fun x => [.int .i64 x], fun _ => rfl, fun x u hu => by simp only [List.mem_cons, List.mem_nil_iff, or_false] at hu; rcases hu with rfl <;> rfl, by decide⟩
theorem ty4 : TyF Tryz.prog 4 false 1 1 [.bool false] := TyF.mk' (z := .bool false) Tryz.underlying4 rfl (by kernel_rfl) rfl
def R4 : Rep Bool := ⟨4, 1, 1, fun x => [.bool x], fun _ => rfl, fun x u hu => by simp only [List.mem_cons, List.mem_nil_iff, or_false] at hu; rcases hu with rfl <;> rfl, by decide⟩
theorem ty9 : TyF Tryz.prog 9 false 1 16 [.string ByteArray.empty] := TyF.mk' (z := .string ByteArray.empty) Tryz.underlying9 rfl (by kernel_rfl) rfl
def R9 : Rep ByteArray := ⟨9, 1, 16, fun x => [.string x], fun _ => rfl, fun x u hu => by simp only [List.mem_cons, List.mem_nil_iff, or_false] at hu; rcases hu with rfl <;> rfl, by decide⟩
theorem ty22 : TyF Tryz.prog 22 false 1 24 [.slice none 0 0] := TyF.mk' (z := .slice none 0 0) Tryz.underlying22 rfl (by kernel_rfl) rfl
theorem ty25 : TyF Tryz.prog 25 true 2 32 [.slice none 0 0, .int .i64 0] := TyF.mk' (z := .agg #[.slice none 0 0, .int .i64 0]) Tryz.underlying25 rfl (by kernel_rfl) rfl
theorem ty26 : TyF Tryz.prog 26 false 1 24 [.slice none 0 0] := TyF.mk' (z := .slice none 0 0) Tryz.underlying26 rfl (by kernel_rfl) rfl
theorem ty32 : TyF Tryz.prog 32 false 1 8 [.nilFunc] := TyF.mk' (z := .nilFunc) Tryz.underlying32 rfl (by kernel_rfl) rfl
theorem ty34 : TyF Tryz.prog 34 false 1 8 [.int .i64 0] := TyF.mk' (z := .int .i64 0) Tryz.underlying34 rfl (by kernel_rfl) rfl
def R34 : Rep Int := ⟨34, 1, 8, fun x => [.int .i64 x], fun _ => rfl, fun x u hu => by simp only [List.mem_cons, List.mem_nil_iff, or_false] at hu; rcases hu with rfl <;> rfl, by decide⟩
theorem ty49 : TyF Tryz.prog 49 true 2 32 [.string ByteArray.empty, .string ByteArray.empty] := TyF.mk' (z := .agg #[.string ByteArray.empty, .string ByteArray.empty]) Tryz.underlying49 rfl (by kernel_rfl) rfl
def R49 : Rep TPair := ⟨49, 2, 32, fun x => [.string x.Name, .string x.Value], fun _ => rfl, fun x u hu => by simp only [List.mem_cons, List.mem_nil_iff, or_false] at hu; rcases hu with rfl | rfl <;> rfl, by decide⟩
theorem ty52 : TyF Tryz.prog 52 false 1 8 [.map none] := TyF.mk' (z := .map none) Tryz.underlying52 rfl (by kernel_rfl) rfl
theorem ty54 : TyF Tryz.prog 54 true 10 112 [.string ByteArray.empty, .int .i64 0, .int .i64 0, .int .i64 0, .string ByteArray.empty, .string ByteArray.empty, .int .i64 0, .bool false, .string ByteArray.empty, .int .i64 0] := TyF.mk' (z := .agg #[.string ByteArray.empty, .int .i64 0, .int .i64 0, .int .i64 0, .string ByteArray.empty, .string ByteArray.empty, .int .i64 0, .bool false, .string ByteArray.empty, .int .i64 0]) Tryz.underlying54 rfl (by kernel_rfl) rfl
def R54 : Rep TAct := ⟨54, 10, 112, fun x => [.string x.Site, .int .i64 x.No, .int .i64 x.At, .int .i64 x.Kind, .string x.Who, .string x.Motion, .int .i64 x.Cents, .bool x.Yes, .string x.Of, .int .i64 x.Other], fun _ => rfl, fun x u hu => by simp only [List.mem_cons, List.mem_nil_iff, or_false] at hu; rcases hu with rfl | rfl | rfl | rfl | rfl | rfl | rfl | rfl | rfl | rfl <;> rfl, by decide⟩
theorem ty58 : TyF Tryz.prog 58 false 1 24 [.slice none 0 0] := TyF.mk' (z := .slice none 0 0) Tryz.underlying58 rfl (by kernel_rfl) rfl
theorem ty77 : TyF Tryz.prog 77 false 1 8 [.map none] := TyF.mk' (z := .map none) Tryz.underlying77 rfl (by kernel_rfl) rfl
theorem ty78 : TyF Tryz.prog 78 false 1 8 [.map none] := TyF.mk' (z := .map none) Tryz.underlying78 rfl (by kernel_rfl) rfl
theorem ty80 : TyF Tryz.prog 80 true 4 48 [.map none, .map none, .map none, .slice none 0 0] := TyF.mk' (z := .agg #[.map none, .map none, .map none, .slice none 0 0]) Tryz.underlying80 rfl (by kernel_rfl) rfl
theorem ty89 : TyF Tryz.prog 89 false 1 8 [.map none] := TyF.mk' (z := .map none) Tryz.underlying89 rfl (by kernel_rfl) rfl
theorem ty90 : TyF Tryz.prog 90 false 1 8 [.map none] := TyF.mk' (z := .map none) Tryz.underlying90 rfl (by kernel_rfl) rfl
theorem ty92 : TyF Tryz.prog 92 true 5 56 [.int .i64 0, .map none, .map none, .map none, .slice none 0 0] := TyF.mk' (z := .agg #[.int .i64 0, .map none, .map none, .map none, .slice none 0 0]) Tryz.underlying92 rfl (by kernel_rfl) rfl
theorem ty94 : TyF Tryz.prog 94 true 3 24 [.int .i64 0, .int .i64 0, .int .i64 0] := TyF.mk' (z := .agg #[.int .i64 0, .int .i64 0, .int .i64 0]) Tryz.underlying94 rfl (by kernel_rfl) rfl
def R94 : Rep Tclub_stay := ⟨94, 3, 24, fun x => [.int .i64 x.since, .int .i64 x.till, .int .i64 x.cents], fun _ => rfl, fun x u hu => by simp only [List.mem_cons, List.mem_nil_iff, or_false] at hu; rcases hu with rfl | rfl | rfl <;> rfl, by decide⟩
theorem ty98 : TyF Tryz.prog 98 true 2 24 [.string ByteArray.empty, .int .i64 0] := TyF.mk' (z := .agg #[.string ByteArray.empty, .int .i64 0]) Tryz.underlying98 rfl (by kernel_rfl) rfl
def R98 : Rep Tclub_debt := ⟨98, 2, 24, fun x => [.string x.who, .int .i64 x.cents], fun _ => rfl, fun x u hu => by simp only [List.mem_cons, List.mem_nil_iff, or_false] at hu; rcases hu with rfl | rfl <;> rfl, by decide⟩
theorem ty108 : TyF Tryz.prog 108 true 3 24 [.int .i64 0, .int .i64 0, .int .i64 0] := TyF.mk' (z := .agg #[.int .i64 0, .int .i64 0, .int .i64 0]) Tryz.underlying108 rfl (by kernel_rfl) rfl
def R108 : Rep Tgleeref2_stay := ⟨108, 3, 24, fun x => [.int .i64 x.from_, .int .i64 x.to_, .int .i64 x.cents], fun _ => rfl, fun x u hu => by simp only [List.mem_cons, List.mem_nil_iff, or_false] at hu; rcases hu with rfl | rfl | rfl <;> rfl, by decide⟩
theorem ty121 : TyF Tryz.prog 121 false 1 8 [.map none] := TyF.mk' (z := .map none) Tryz.underlying121 rfl (by kernel_rfl) rfl
theorem ty123 : TyF Tryz.prog 123 true 3 40 [.bool false, .slice none 0 0, .map none] := TyF.mk' (z := .agg #[.bool false, .slice none 0 0, .map none]) Tryz.underlying123 rfl (by kernel_rfl) rfl
theorem ty148 : TyF Tryz.prog 148 false 1 8 [.map none] := TyF.mk' (z := .map none) Tryz.underlying148 rfl (by kernel_rfl) rfl
theorem ty150 : TyF Tryz.prog 150 true 2 24 [.string ByteArray.empty, .int .i64 0] := TyF.mk' (z := .agg #[.string ByteArray.empty, .int .i64 0]) Tryz.underlying150 rfl (by kernel_rfl) rfl
def R150 : Rep Tclub_own := ⟨150, 2, 24, fun x => [.string x.site, .int .i64 x.no], fun _ => rfl, fun x u hu => by simp only [List.mem_cons, List.mem_nil_iff, or_false] at hu; rcases hu with rfl | rfl <;> rfl, by decide⟩
theorem ty157 : TyF Tryz.prog 157 true 3 40 [.bool false, .map none, .slice none 0 0] := TyF.mk' (z := .agg #[.bool false, .map none, .slice none 0 0]) Tryz.underlying157 rfl (by kernel_rfl) rfl
theorem ty180 : TyF Tryz.prog 180 true 5 5 [.bool false, .bool false, .bool false, .bool false, .bool false] := TyF.mk' (z := .agg #[.bool false, .bool false, .bool false, .bool false, .bool false]) Tryz.underlying180 rfl (by kernel_rfl) rfl
def R180 : Rep Tclub_uses := ⟨180, 5, 5, fun x => [.bool x.who, .bool x.motion, .bool x.cents, .bool x.yes, .bool x.undo], fun _ => rfl, fun x u hu => by simp only [List.mem_cons, List.mem_nil_iff, or_false] at hu; rcases hu with rfl | rfl | rfl | rfl | rfl <;> rfl, by decide⟩
theorem eqst49_ (d : Nat) (x y : TPair) : EqV Tryz.prog (d + 2) 49 (.agg (R49.enc x).toArray) (.agg (R49.enc y).toArray) (decide (x = y)) := by
  have h : ((x.Name == y.Name) && ((x.Value == y.Value) && true)) = decide (x = y) := by rw [Bool.eq_iff_iff]; cases x; cases y; simp [ba_beq]
  rw [← h]
  exact eqv_struct Tryz.underlying49 (by kernel_rfl) (eqf_cons (.string x.Name) (.string y.Name) (by decide) (fun _ => by kernel_rfl) (fun _ => by kernel_rfl) (eqv_str Tryz.underlying9 _ _) (eqf_cons (.string x.Value) (.string y.Value) (by decide) (fun _ => by kernel_rfl) (fun _ => by kernel_rfl) (eqv_str Tryz.underlying9 _ _) eqf_nil))
theorem eqst49 (x y : TPair) : EqV Tryz.prog 10000 49 (.agg (R49.enc x).toArray) (.agg (R49.enc y).toArray) (decide (x = y)) := eqst49_ 9998 x y
theorem eqst54_ (d : Nat) (x y : TAct) : EqV Tryz.prog (d + 2) 54 (.agg (R54.enc x).toArray) (.agg (R54.enc y).toArray) (decide (x = y)) := by
  have h : ((x.Site == y.Site) && ((x.No == y.No) && ((x.At == y.At) && ((x.Kind == y.Kind) && ((x.Who == y.Who) && ((x.Motion == y.Motion) && ((x.Cents == y.Cents) && ((x.Yes == y.Yes) && ((x.Of == y.Of) && ((x.Other == y.Other) && true)))))))))) = decide (x = y) := by rw [Bool.eq_iff_iff]; cases x; cases y; simp [ba_beq]
  rw [← h]
  exact eqv_struct Tryz.underlying54 (by kernel_rfl) (eqf_cons (.string x.Site) (.string y.Site) (by decide) (fun _ => by kernel_rfl) (fun _ => by kernel_rfl) (eqv_str Tryz.underlying9 _ _) (eqf_cons (.int .i64 x.No) (.int .i64 y.No) (by decide) (fun _ => by kernel_rfl) (fun _ => by kernel_rfl) (eqv_int Tryz.underlying3 _ _) (eqf_cons (.int .i64 x.At) (.int .i64 y.At) (by decide) (fun _ => by kernel_rfl) (fun _ => by kernel_rfl) (eqv_int Tryz.underlying3 _ _) (eqf_cons (.int .i64 x.Kind) (.int .i64 y.Kind) (by decide) (fun _ => by kernel_rfl) (fun _ => by kernel_rfl) (eqv_int Tryz.underlying3 _ _) (eqf_cons (.string x.Who) (.string y.Who) (by decide) (fun _ => by kernel_rfl) (fun _ => by kernel_rfl) (eqv_str Tryz.underlying9 _ _) (eqf_cons (.string x.Motion) (.string y.Motion) (by decide) (fun _ => by kernel_rfl) (fun _ => by kernel_rfl) (eqv_str Tryz.underlying9 _ _) (eqf_cons (.int .i64 x.Cents) (.int .i64 y.Cents) (by decide) (fun _ => by kernel_rfl) (fun _ => by kernel_rfl) (eqv_int Tryz.underlying3 _ _) (eqf_cons (.bool x.Yes) (.bool y.Yes) (by decide) (fun _ => by kernel_rfl) (fun _ => by kernel_rfl) (eqv_bool Tryz.underlying4 _ _) (eqf_cons (.string x.Of) (.string y.Of) (by decide) (fun _ => by kernel_rfl) (fun _ => by kernel_rfl) (eqv_str Tryz.underlying9 _ _) (eqf_cons (.int .i64 x.Other) (.int .i64 y.Other) (by decide) (fun _ => by kernel_rfl) (fun _ => by kernel_rfl) (eqv_int Tryz.underlying3 _ _) eqf_nil))))))))))
theorem eqst54 (x y : TAct) : EqV Tryz.prog 10000 54 (.agg (R54.enc x).toArray) (.agg (R54.enc y).toArray) (decide (x = y)) := eqst54_ 9998 x y
theorem eqst150_ (d : Nat) (x y : Tclub_own) : EqV Tryz.prog (d + 2) 150 (.agg (R150.enc x).toArray) (.agg (R150.enc y).toArray) (decide (x = y)) := by
  have h : ((x.site == y.site) && ((x.no == y.no) && true)) = decide (x = y) := by rw [Bool.eq_iff_iff]; cases x; cases y; simp [ba_beq]
  rw [← h]
  exact eqv_struct Tryz.underlying150 (by kernel_rfl) (eqf_cons (.string x.site) (.string y.site) (by decide) (fun _ => by kernel_rfl) (fun _ => by kernel_rfl) (eqv_str Tryz.underlying9 _ _) (eqf_cons (.int .i64 x.no) (.int .i64 y.no) (by decide) (fun _ => by kernel_rfl) (fun _ => by kernel_rfl) (eqv_int Tryz.underlying3 _ _) eqf_nil))
theorem eqst150 (x y : Tclub_own) : EqV Tryz.prog 10000 150 (.agg (R150.enc x).toArray) (.agg (R150.enc y).toArray) (decide (x = y)) := eqst150_ 9998 x y
@[reducible] def vv3 : Int → Value := fun x => .int .i64 x
@[reducible] def vv4 : Bool → Value := fun x => .bool x
@[reducible] def kv9 : ByteArray → Value := fun x => .string x
theorem keyF9 : KeyF Tryz.prog 9 kv9 := keyF_str Tryz.underlying9
@[reducible] def kv150 : Tclub_own → Value := fun x => .agg (R150.enc x).toArray
theorem keyF150 : KeyF Tryz.prog 150 kv150 := keyF_agg Tryz.underlying150 (fun _ _ _ => by kernel_rfl) eqst150 (fun k v hv => by simp only [R150, List.mem_cons, List.not_mem_nil, or_false] at hv; rcases hv with rfl | rfl <;> simp [Instr.sameBits, ba_dec])
@[reducible] def Fh120 : (Nat × SV × Nat × Array MapEntry × Nat) → Nat := fun q => q.1
def Fe120 : (Bool × (List ByteArray) × (List (ByteArray × Bool))) → (Nat × SV × Nat × Array MapEntry × Nat) → List Ent := fun t q => [.box q.1 123 [.bool t.1, q.2.1.v, .map (some q.2.2.1)], .row R9 (SV.v q.2.1) t.2.1, .obj (mapO kv9 q.2.2.1 (mpV vv4 t.2.2) q.2.2.2.1 q.2.2.2.2)]
theorem fro120 : ∀ t q F, Ent.ro F ∉ Fe120 t q := by intro t q F h; simp [Fe120] at h
@[reducible] def Fh155 : (Nat × Nat × Array MapEntry × Nat × SV) → Nat := fun q => q.1
def Fe155 : (Bool × (List (ByteArray × Bool)) × (List ByteArray)) → (Nat × Nat × Array MapEntry × Nat × SV) → List Ent := fun t q => [.box q.1 157 [.bool t.1, .map (some q.2.1), q.2.2.2.2.v], .obj (mapO kv9 q.2.1 (mpV vv4 t.2.1) q.2.2.1 q.2.2.2.1), .row R9 (SV.v q.2.2.2.2) t.2.2]
theorem fro155 : ∀ t q F, Ent.ro F ∉ Fe155 t q := by intro t q F h; simp [Fe155] at h
theorem fl25_0 : FldF Tryz.prog 25 0 0 := fun _ _ => by kernel_rfl
theorem fl25_1 : FldF Tryz.prog 25 1 1 := fun _ _ => by kernel_rfl
theorem fl54_0 : FldF Tryz.prog 54 0 0 := fun _ _ => by kernel_rfl
theorem fl54_1 : FldF Tryz.prog 54 1 1 := fun _ _ => by kernel_rfl
theorem fl54_2 : FldF Tryz.prog 54 2 2 := fun _ _ => by kernel_rfl
theorem fl54_3 : FldF Tryz.prog 54 3 3 := fun _ _ => by kernel_rfl
theorem fl54_4 : FldF Tryz.prog 54 4 4 := fun _ _ => by kernel_rfl
theorem fl54_5 : FldF Tryz.prog 54 5 5 := fun _ _ => by kernel_rfl
theorem fl54_6 : FldF Tryz.prog 54 6 6 := fun _ _ => by kernel_rfl
theorem fl54_7 : FldF Tryz.prog 54 7 7 := fun _ _ => by kernel_rfl
theorem fl54_8 : FldF Tryz.prog 54 8 8 := fun _ _ => by kernel_rfl
theorem fl54_9 : FldF Tryz.prog 54 9 9 := fun _ _ => by kernel_rfl
theorem fl80_0 : FldF Tryz.prog 80 0 0 := fun _ _ => by kernel_rfl
theorem fl80_1 : FldF Tryz.prog 80 1 1 := fun _ _ => by kernel_rfl
theorem fl80_2 : FldF Tryz.prog 80 2 2 := fun _ _ => by kernel_rfl
theorem fl80_3 : FldF Tryz.prog 80 3 3 := fun _ _ => by kernel_rfl
theorem fl92_0 : FldF Tryz.prog 92 0 0 := fun _ _ => by kernel_rfl
theorem fl92_1 : FldF Tryz.prog 92 1 1 := fun _ _ => by kernel_rfl
theorem fl92_2 : FldF Tryz.prog 92 2 2 := fun _ _ => by kernel_rfl
theorem fl92_3 : FldF Tryz.prog 92 3 3 := fun _ _ => by kernel_rfl
theorem fl92_4 : FldF Tryz.prog 92 4 4 := fun _ _ => by kernel_rfl
theorem fl94_0 : FldF Tryz.prog 94 0 0 := fun _ _ => by kernel_rfl
theorem fl94_1 : FldF Tryz.prog 94 1 1 := fun _ _ => by kernel_rfl
theorem fl94_2 : FldF Tryz.prog 94 2 2 := fun _ _ => by kernel_rfl
theorem fl98_0 : FldF Tryz.prog 98 0 0 := fun _ _ => by kernel_rfl
theorem fl98_1 : FldF Tryz.prog 98 1 1 := fun _ _ => by kernel_rfl
theorem fl108_0 : FldF Tryz.prog 108 0 0 := fun _ _ => by kernel_rfl
theorem fl108_1 : FldF Tryz.prog 108 1 1 := fun _ _ => by kernel_rfl
theorem fl108_2 : FldF Tryz.prog 108 2 2 := fun _ _ => by kernel_rfl
theorem fl123_0 : FldF Tryz.prog 123 0 0 := fun _ _ => by kernel_rfl
theorem fl123_1 : FldF Tryz.prog 123 1 1 := fun _ _ => by kernel_rfl
theorem fl123_2 : FldF Tryz.prog 123 2 2 := fun _ _ => by kernel_rfl
theorem fl157_0 : FldF Tryz.prog 157 0 0 := fun _ _ => by kernel_rfl
theorem fl157_1 : FldF Tryz.prog 157 1 1 := fun _ _ => by kernel_rfl
theorem fl157_2 : FldF Tryz.prog 157 2 2 := fun _ _ => by kernel_rfl
theorem fl180_0 : FldF Tryz.prog 180 0 0 := fun _ _ => by kernel_rfl
theorem fl180_1 : FldF Tryz.prog 180 1 1 := fun _ _ => by kernel_rfl
theorem fl180_2 : FldF Tryz.prog 180 2 2 := fun _ _ => by kernel_rfl
theorem fl180_3 : FldF Tryz.prog 180 3 3 := fun _ _ => by kernel_rfl
theorem fl180_4 : FldF Tryz.prog 180 4 4 := fun _ _ => by kernel_rfl
theorem cf4 : ∀ args w, (callFunc 4 args).run Tryz.prog w = .ok (.enter 4 args) w := fun _ _ => by kernel_rfl
theorem cf5 : ∀ args w, (callFunc 5 args).run Tryz.prog w = .ok (.enter 5 args) w := fun _ _ => by kernel_rfl
theorem cf6 : ∀ args w, (callFunc 6 args).run Tryz.prog w = .ok (.enter 6 args) w := fun _ _ => by kernel_rfl
theorem cf7 : ∀ args w, (callFunc 7 args).run Tryz.prog w = .ok (.enter 7 args) w := fun _ _ => by kernel_rfl
theorem cf8 : ∀ args w, (callFunc 8 args).run Tryz.prog w = .ok (.enter 8 args) w := fun _ _ => by kernel_rfl
theorem cf9 : ∀ args w, (callFunc 9 args).run Tryz.prog w = .ok (.enter 9 args) w := fun _ _ => by kernel_rfl
theorem cf10 : ∀ args w, (callFunc 10 args).run Tryz.prog w = .ok (.enter 10 args) w := fun _ _ => by kernel_rfl
theorem cf11 : ∀ args w, (callFunc 11 args).run Tryz.prog w = .ok (.enter 11 args) w := fun _ _ => by kernel_rfl
theorem cf12 : ∀ args w, (callFunc 12 args).run Tryz.prog w = .ok (.enter 12 args) w := fun _ _ => by kernel_rfl
theorem cf13 : ∀ args w, (callFunc 13 args).run Tryz.prog w = .ok (.enter 13 args) w := fun _ _ => by kernel_rfl
theorem cf14 : ∀ args w, (callFunc 14 args).run Tryz.prog w = .ok (.enter 14 args) w := fun _ _ => by kernel_rfl
theorem cf15 : ∀ args w, (callFunc 15 args).run Tryz.prog w = .ok (.enter 15 args) w := fun _ _ => by kernel_rfl
theorem cf16 : ∀ args w, (callFunc 16 args).run Tryz.prog w = .ok (.enter 16 args) w := fun _ _ => by kernel_rfl
theorem cf17 : ∀ args w, (callFunc 17 args).run Tryz.prog w = .ok (.enter 17 args) w := fun _ _ => by kernel_rfl
theorem cf18 : ∀ args w, (callFunc 18 args).run Tryz.prog w = .ok (.enter 18 args) w := fun _ _ => by kernel_rfl
theorem cf19 : ∀ args w, (callFunc 19 args).run Tryz.prog w = .ok (.enter 19 args) w := fun _ _ => by kernel_rfl
theorem cf20 : ∀ args w, (callFunc 20 args).run Tryz.prog w = .ok (.enter 20 args) w := fun _ _ => by kernel_rfl
theorem cf21 : ∀ args w, (callFunc 21 args).run Tryz.prog w = .ok (.enter 21 args) w := fun _ _ => by kernel_rfl
theorem cf22 : ∀ args w, (callFunc 22 args).run Tryz.prog w = .ok (.enter 22 args) w := fun _ _ => by kernel_rfl
theorem cf23 : ∀ args w, (callFunc 23 args).run Tryz.prog w = .ok (.enter 23 args) w := fun _ _ => by kernel_rfl
theorem cf24 : ∀ args w, (callFunc 24 args).run Tryz.prog w = .ok (.enter 24 args) w := fun _ _ => by kernel_rfl
theorem cf25 : ∀ args w, (callFunc 25 args).run Tryz.prog w = .ok (.enter 25 args) w := fun _ _ => by kernel_rfl
theorem cf26 : ∀ args w, (callFunc 26 args).run Tryz.prog w = .ok (.enter 26 args) w := fun _ _ => by kernel_rfl
theorem cf27 : ∀ args w, (callFunc 27 args).run Tryz.prog w = .ok (.enter 27 args) w := fun _ _ => by kernel_rfl
theorem cf28 : ∀ args w, (callFunc 28 args).run Tryz.prog w = .ok (.enter 28 args) w := fun _ _ => by kernel_rfl
theorem cf29 : ∀ args w, (callFunc 29 args).run Tryz.prog w = .ok (.enter 29 args) w := fun _ _ => by kernel_rfl
theorem cf30 : ∀ args w, (callFunc 30 args).run Tryz.prog w = .ok (.enter 30 args) w := fun _ _ => by kernel_rfl
theorem cf31 : ∀ args w, (callFunc 31 args).run Tryz.prog w = .ok (.enter 31 args) w := fun _ _ => by kernel_rfl
theorem cf32 : ∀ args w, (callFunc 32 args).run Tryz.prog w = .ok (.enter 32 args) w := fun _ _ => by kernel_rfl
theorem cf33 : ∀ args w, (callFunc 33 args).run Tryz.prog w = .ok (.enter 33 args) w := fun _ _ => by kernel_rfl
theorem cf34 : ∀ args w, (callFunc 34 args).run Tryz.prog w = .ok (.enter 34 args) w := fun _ _ => by kernel_rfl
theorem cf35 : ∀ args w, (callFunc 35 args).run Tryz.prog w = .ok (.enter 35 args) w := fun _ _ => by kernel_rfl
theorem cf36 : ∀ args w, (callFunc 36 args).run Tryz.prog w = .ok (.enter 36 args) w := fun _ _ => by kernel_rfl
theorem cf37 : ∀ args w, (callFunc 37 args).run Tryz.prog w = .ok (.enter 37 args) w := fun _ _ => by kernel_rfl
theorem cf38 : ∀ args w, (callFunc 38 args).run Tryz.prog w = .ok (.enter 38 args) w := fun _ _ => by kernel_rfl
theorem cf39 : ∀ args w, (callFunc 39 args).run Tryz.prog w = .ok (.enter 39 args) w := fun _ _ => by kernel_rfl
theorem cf40 : ∀ args w, (callFunc 40 args).run Tryz.prog w = .ok (.enter 40 args) w := fun _ _ => by kernel_rfl
theorem cf41 : ∀ args w, (callFunc 41 args).run Tryz.prog w = .ok (.enter 41 args) w := fun _ _ => by kernel_rfl
theorem cf42 : ∀ args w, (callFunc 42 args).run Tryz.prog w = .ok (.enter 42 args) w := fun _ _ => by kernel_rfl
theorem cf43 : ∀ args w, (callFunc 43 args).run Tryz.prog w = .ok (.enter 43 args) w := fun _ _ => by kernel_rfl
theorem cf44 : ∀ args w, (callFunc 44 args).run Tryz.prog w = .ok (.enter 44 args) w := fun _ _ => by kernel_rfl
theorem cf45 : ∀ args w, (callFunc 45 args).run Tryz.prog w = .ok (.enter 45 args) w := fun _ _ => by kernel_rfl
theorem cf46 : ∀ args w, (callFunc 46 args).run Tryz.prog w = .ok (.enter 46 args) w := fun _ _ => by kernel_rfl
theorem cf47 : ∀ args w, (callFunc 47 args).run Tryz.prog w = .ok (.enter 47 args) w := fun _ _ => by kernel_rfl
theorem cf48 : ∀ args w, (callFunc 48 args).run Tryz.prog w = .ok (.enter 48 args) w := fun _ _ => by kernel_rfl
theorem cf49 : ∀ args w, (callFunc 49 args).run Tryz.prog w = .ok (.enter 49 args) w := fun _ _ => by kernel_rfl
theorem cf50 : ∀ args w, (callFunc 50 args).run Tryz.prog w = .ok (.enter 50 args) w := fun _ _ => by kernel_rfl
theorem cf51 : ∀ args w, (callFunc 51 args).run Tryz.prog w = .ok (.enter 51 args) w := fun _ _ => by kernel_rfl
theorem cf52 : ∀ args w, (callFunc 52 args).run Tryz.prog w = .ok (.enter 52 args) w := fun _ _ => by kernel_rfl
theorem cf53 : ∀ args w, (callFunc 53 args).run Tryz.prog w = .ok (.enter 53 args) w := fun _ _ => by kernel_rfl
theorem cf54 : ∀ args w, (callFunc 54 args).run Tryz.prog w = .ok (.enter 54 args) w := fun _ _ => by kernel_rfl
theorem cf55 : ∀ args w, (callFunc 55 args).run Tryz.prog w = .ok (.enter 55 args) w := fun _ _ => by kernel_rfl
theorem cf56 : ∀ args w, (callFunc 56 args).run Tryz.prog w = .ok (.enter 56 args) w := fun _ _ => by kernel_rfl
theorem cf57 : ∀ args w, (callFunc 57 args).run Tryz.prog w = .ok (.enter 57 args) w := fun _ _ => by kernel_rfl
theorem cf58 : ∀ args w, (callFunc 58 args).run Tryz.prog w = .ok (.enter 58 args) w := fun _ _ => by kernel_rfl
theorem cf59 : ∀ args w, (callFunc 59 args).run Tryz.prog w = .ok (.enter 59 args) w := fun _ _ => by kernel_rfl
theorem cf60 : ∀ args w, (callFunc 60 args).run Tryz.prog w = .ok (.enter 60 args) w := fun _ _ => by kernel_rfl
theorem cf61 : ∀ args w, (callFunc 61 args).run Tryz.prog w = .ok (.enter 61 args) w := fun _ _ => by kernel_rfl
theorem cf62 : ∀ args w, (callFunc 62 args).run Tryz.prog w = .ok (.enter 62 args) w := fun _ _ => by kernel_rfl
theorem cf63 : ∀ args w, (callFunc 63 args).run Tryz.prog w = .ok (.enter 63 args) w := fun _ _ => by kernel_rfl
theorem cf64 : ∀ args w, (callFunc 64 args).run Tryz.prog w = .ok (.enter 64 args) w := fun _ _ => by kernel_rfl
theorem cf65 : ∀ args w, (callFunc 65 args).run Tryz.prog w = .ok (.enter 65 args) w := fun _ _ => by kernel_rfl
theorem cf66 : ∀ args w, (callFunc 66 args).run Tryz.prog w = .ok (.enter 66 args) w := fun _ _ => by kernel_rfl
theorem cf67 : ∀ args w, (callFunc 67 args).run Tryz.prog w = .ok (.enter 67 args) w := fun _ _ => by kernel_rfl
theorem cf68 : ∀ args w, (callFunc 68 args).run Tryz.prog w = .ok (.enter 68 args) w := fun _ _ => by kernel_rfl
theorem cf69 : ∀ args w, (callFunc 69 args).run Tryz.prog w = .ok (.enter 69 args) w := fun _ _ => by kernel_rfl
theorem cf70 : ∀ args w, (callFunc 70 args).run Tryz.prog w = .ok (.enter 70 args) w := fun _ _ => by kernel_rfl
theorem cf73 : ∀ args w, (callFunc 73 args).run Tryz.prog w = .ok (.enter 73 args) w := fun _ _ => by kernel_rfl
theorem cf74 : ∀ args w, (callFunc 74 args).run Tryz.prog w = .ok (.enter 74 args) w := fun _ _ => by kernel_rfl
theorem cf76 : ∀ args w, (callFunc 76 args).run Tryz.prog w = .ok (.enter 76 args) w := fun _ _ => by kernel_rfl
theorem cf77 : ∀ args w, (callFunc 77 args).run Tryz.prog w = .ok (.enter 77 args) w := fun _ _ => by kernel_rfl
theorem cf78 : ∀ args w, (callFunc 78 args).run Tryz.prog w = .ok (.enter 78 args) w := fun _ _ => by kernel_rfl
theorem cf79 : ∀ args w, (callFunc 79 args).run Tryz.prog w = .ok (.enter 79 args) w := fun _ _ => by kernel_rfl
theorem cf80 : ∀ args w, (callFunc 80 args).run Tryz.prog w = .ok (.enter 80 args) w := fun _ _ => by kernel_rfl
theorem cf81 : ∀ args w, (callFunc 81 args).run Tryz.prog w = .ok (.enter 81 args) w := fun _ _ => by kernel_rfl
theorem cf82 : ∀ args w, (callFunc 82 args).run Tryz.prog w = .ok (.enter 82 args) w := fun _ _ => by kernel_rfl
theorem cf83 : ∀ args w, (callFunc 83 args).run Tryz.prog w = .ok (.enter 83 args) w := fun _ _ => by kernel_rfl
theorem cf84 : ∀ args w, (callFunc 84 args).run Tryz.prog w = .ok (.enter 84 args) w := fun _ _ => by kernel_rfl
theorem cf85 : ∀ args w, (callFunc 85 args).run Tryz.prog w = .ok (.enter 85 args) w := fun _ _ => by kernel_rfl
theorem cf86 : ∀ args w, (callFunc 86 args).run Tryz.prog w = .ok (.enter 86 args) w := fun _ _ => by kernel_rfl
theorem cf87 : ∀ args w, (callFunc 87 args).run Tryz.prog w = .ok (.enter 87 args) w := fun _ _ => by kernel_rfl
theorem cf88 : ∀ args w, (callFunc 88 args).run Tryz.prog w = .ok (.enter 88 args) w := fun _ _ => by kernel_rfl
theorem cf89 : ∀ args w, (callFunc 89 args).run Tryz.prog w = .ok (.enter 89 args) w := fun _ _ => by kernel_rfl
theorem cf98 : ∀ args w, (callFunc 98 args).run Tryz.prog w = .ok (.enter 98 args) w := fun _ _ => by kernel_rfl
theorem cf101 : ∀ args w, (callFunc 101 args).run Tryz.prog w = .ok (.enter 101 args) w := fun _ _ => by kernel_rfl
theorem cf102 : ∀ args w, (callFunc 102 args).run Tryz.prog w = .ok (.enter 102 args) w := fun _ _ => by kernel_rfl
theorem cf103 : ∀ args w, (callFunc 103 args).run Tryz.prog w = .ok (.enter 103 args) w := fun _ _ => by kernel_rfl
theorem cf113 : ∀ args w, (callFunc 113 args).run Tryz.prog w = .ok (.enter 113 args) w := fun _ _ => by kernel_rfl
theorem cf114 : ∀ args w, (callFunc 114 args).run Tryz.prog w = .ok (.enter 114 args) w := fun _ _ => by kernel_rfl
theorem cf115 : ∀ args w, (callFunc 115 args).run Tryz.prog w = .ok (.enter 115 args) w := fun _ _ => by kernel_rfl
theorem cf116 : ∀ args w, (callFunc 116 args).run Tryz.prog w = .ok (.enter 116 args) w := fun _ _ => by kernel_rfl
theorem cf117 : ∀ args w, (callFunc 117 args).run Tryz.prog w = .ok (.enter 117 args) w := fun _ _ => by kernel_rfl
theorem cf118 : ∀ args w, (callFunc 118 args).run Tryz.prog w = .ok (.enter 118 args) w := fun _ _ => by kernel_rfl
theorem cf126 : ∀ args w, (callFunc 126 args).run Tryz.prog w = .ok (.enter 126 args) w := fun _ _ => by kernel_rfl
theorem cf136 : ∀ args w, (callFunc 136 args).run Tryz.prog w = .ok (.enter 136 args) w := fun _ _ => by kernel_rfl
theorem cf137 : ∀ args w, (callFunc 137 args).run Tryz.prog w = .ok (.enter 137 args) w := fun _ _ => by kernel_rfl
theorem cf144 : ∀ args w, (callFunc 144 args).run Tryz.prog w = .ok (.enter 144 args) w := fun _ _ => by kernel_rfl
theorem cf145 : ∀ args w, (callFunc 145 args).run Tryz.prog w = .ok (.enter 145 args) w := fun _ _ => by kernel_rfl
theorem cf155 : ∀ args w, (callFunc 155 args).run Tryz.prog w = .ok (.enter 155 args) w := fun _ _ => by kernel_rfl
end Go.Proofs.YtobglahldcnnmaaGreatDoor
