/- The walks. Written by program. -/
import Derived.Test.YtfgekmoffcobaaaGreatDoorW1
namespace Go.Proofs.YtfgekmoffcobaaaGreatDoor
open Go Go.J Go.G
set_option maxRecDepth 100000
set_option linter.unusedVariables false
theorem ok_slices_Sorted_string__maps_Keys_map_string_club_stay_string_club_stay_1_A (bx mb : Nat) (mes : Array MapEntry) (mcl : Nat) (L : List (ByteArray × SV)) (hl : L.length ≤ 1000000000) :
    Ctr Tryz.prog 70 [SV.v nilS, .func (.func 77) #[] [.pointer (some ⟨bx, 0, none⟩)].toArray].toArray [.row R9 (SV.v nilS) []] [BoxS bx 112 [.map (some mb)], MapAt kv9 mb (mpV SV.v L) mes mcl] (X := SV × {q : List ByteArray // q.Perm (L.map Prod.fst)}) (fun s => s.1.v) (fun s => [.row R9 (SV.v s.1) s.2.1]) := by
  refine ctr_mkM (vs := [(0, SV.v nilS), (1, .func (.func 77) #[] [.pointer (some ⟨bx, 0, none⟩)].toArray)]) Tryz.func70 rfl Tryz.ntmps70 rfl ⟨rfl, rfl, trivial⟩ (fun w0 A => ?_)
  refine cj_seq ?_
  refine cj_reg ?_
  refine r_bx (cs := [SV.v nilS]) rfl rfl rfl (fun b1 => ?_)
  refine lp rfl (p_as rfl) ?_
  refine lj_seq ?_
  refine cj_seq ?_
  refine cj_seq ?_
  refine cj_reg ?_
  refine lp rfl (p_mv rfl) ?_
  refine lj_seq ?_
  refine cj_keys (γ := SV) (fn := Tryz.f77) (vv := SV.v) (ρ := List ByteArray) Tryz.func77 rfl rfl rfl Tryz.underlying112 ty112 cf77 rfl rfl (by kernel_rfl) (by kernel_rfl) (appStep_all (by_ := 16) (by decide) (by rw [List.length_map]; omega)) (fun u g => [.box b1 39 [g.v], .ro (BoxS bx 112 [.map (some mb)]), .ro (MapAt kv9 mb (mpV SV.v L) mes mcl), .row R9 (SV.v g) u]) nilS (fun _ h => h.picks [0, 1, 1, 0] rfl) (fun _ _ => (.ro 1 rfl)) (fun _ _ => (.ro 2 rfl)) (fun u g D aft => ?_) (fun i x u g k hs o1 o2 o3 oi I I0 hend hmid => ?_)
  · refine nj_seq ?_
    refine cj_seq ?_
    refine cj_reg ?_
    refine lp rfl (p_lbs ty39 rfl (j := 1) rfl rfl) ?_
    refine lp rfl (p_as rfl) ?_
    refine lj_seq ?_
    exact cj_rtM 0 (g, ⟨u, KfP_brk aft⟩) [4] Tryz.results70 rfl (.tmp rfl .nil) rfl rfl
  · have hm := hs
    refine cj_reg ?_
    refine lp rfl (p_as rfl) ?_
    refine lj_nil ?_
    refine hmid _ _ [.obj oi, .box b1 39 [g.v], .ro (BoxS bx 112 [.map (some mb)]), .ro (MapAt kv9 mb (mpV SV.v L) mes mcl), .row R9 (SV.v g) u] (fun _ h => h.picks [0, 0, 0, 0, 0, 0, 0] rfl) ?_
    refine cj_blk ?_
    refine cj_reg ?_
    refine lp rfl (p_lbs ty39 rfl (j := 3) rfl rfl) ?_
    refine lp rfl (p_mv rfl) ?_
    refine r_bs R9 [x] rfl rfl rfl (fun _ => by kernel_rfl) rfl (fun s13 => ?_)
    obtain ⟨q, hq, hm⟩ := bindS hm
    refine r_app (k := 7) Tryz.underlying39 ty9 rfl rfl rfl rfl (.row 0 rfl) hq rfl (fun s15 => ?_)
    refine r_sb (vs := [s15.v]) (j := 4) ty39 rfl rfl rfl rfl rfl rfl rfl ?_
    refine lj_nil ?_
    refine nj_blk ?_
    exact hend _ _ q s15 (Option.some.inj hm).symm (fun _ h => h.picks [1, 1, 1, 1, 1, 1, 1] rfl)
theorem ok_slices_Sorted_string__maps_Keys_map_string_club_stay_string_club_stay_1_C (bx mb : Nat) (mes : Array MapEntry) (mcl : Nat) (L : List (ByteArray × SV)) (hl : L.length ≤ 1000000000) :
    Ctr Tryz.prog 53 [.func (.func 77) #[] [.pointer (some ⟨bx, 0, none⟩)].toArray].toArray ([] : List Ent) [BoxS bx 112 [.map (some mb)], MapAt kv9 mb (mpV SV.v L) mes mcl] (X := SV × {q : List ByteArray // q.Perm (L.map Prod.fst)}) (fun s => s.1.v) (fun s => [.row R9 (SV.v s.1) s.2.1]) := by
  refine ctr_mk (vs := [(0, .func (.func 77) #[] [.pointer (some ⟨bx, 0, none⟩)].toArray)]) Tryz.func53 rfl Tryz.ntmps53 rfl ⟨rfl, trivial⟩ (fun w0 A => ?_)
  refine cj_seq ?_
  refine cj_reg ?_
  refine lp rfl (p_as rfl) ?_
  refine lj_seq ?_
  refine cj_seq ?_
  refine cj_reg ?_
  refine lp rfl (p_mv rfl) ?_
  refine r_nil R9 ?_
  refine r_call [0] cf70 rfl rfl (ok_slices_Sorted_string__maps_Keys_map_string_club_stay_string_club_stay_1_A bx mb mes mcl L hl) rfl rfl (.cons (.ro 0 rfl) (.cons (.ro 1 rfl) .nil)) (fun _ => rfl) rfl (fun s3 => ?_)
  refine lp rfl (p_as rfl) ?_
  refine lj_seq ?_
  exact cj_rt s3 [0] Tryz.results53 (.tmp rfl .nil) rfl rfl
theorem ok_slices_Sorted_string__maps_Keys_map_string_club_stay_string_club_stay_1 (bx mb : Nat) (Z : List (ByteArray × SV)) (mes : Array MapEntry) (mcl : Nat) (L : List (ByteArray × List Tclub_stay)) {r : List ByteArray} (hm : m_slices_Sorted_string__maps_Keys_map_string_club_stay_string_club_stay_1 L = some r) :
    Ctr Tryz.prog 35 [.func (.func 77) #[] [.pointer (some ⟨bx, 0, none⟩)].toArray].toArray ([] : List Ent) [BoxS bx 112 [.map (some mb)], FamAt kv9 SV.v (rowE R137) mb L Z none mes mcl] (X := SV) (fun s => s.v) (fun s => [.row R9 (SV.v s) r]) := by
  unfold m_slices_Sorted_string__maps_Keys_map_string_club_stay_string_club_stay_1 at hm
  split at hm
  case isFalse => cases hm
  rename_i hl
  refine ctr_mk (vs := [(0, .func (.func 77) #[] [.pointer (some ⟨bx, 0, none⟩)].toArray)]) Tryz.func35 rfl Tryz.ntmps35 rfl ⟨rfl, trivial⟩ (fun w0 A => ?_)
  refine cj_pure (F := FamAt kv9 SV.v (rowE R137) mb L Z none mes mcl) (.ro 1 rfl) (fun _ h => h.kys) (fun hky => ?_)
  rw [hky] at hm
  have hl : Z.length ≤ 1000000000 := by have := congrArg List.length hky; simp at this; omega
  refine cj_seq ?_
  refine cj_reg ?_
  refine lp rfl (p_as rfl) ?_
  refine lj_seq ?_
  refine cj_seq ?_
  refine cj_reg ?_
  refine lp rfl (p_mv rfl) ?_
  refine r_call [] cf53 rfl rfl (ok_slices_Sorted_string__maps_Keys_map_string_club_stay_string_club_stay_1_C bx mb mes mcl Z hl) rfl rfl (.cons (.ro 0 rfl) (.cons (.imp (.ro 1 rfl) (fun _ h => h.map)) .nil)) (fun _ => rfl) rfl (fun s2 => ?_)
  obtain ⟨s2, q, hq⟩ := s2
  have hm := (m_Sort_perm hq).trans hm
  refine lp rfl (p_as rfl) ?_
  refine lj_seq ?_
  refine cj_seq ?_
  refine cj_reg ?_
  refine lp rfl (p_mv rfl) ?_
  refine r_call [0] cf54 rfl rfl (ok_slices_Sort_string_string s2 q hm) rfl rfl .nil (fun _ => rfl) rfl (fun _ => ?_)
  refine lj_seq ?_
  refine cj_seq ?_
  refine cj_reg ?_
  refine lp rfl (p_mv rfl) ?_
  refine lp rfl (p_as rfl) ?_
  refine lj_seq ?_
  exact cj_rt s2 [0] Tryz.results35 (.tmp rfl .nil) rfl rfl
theorem ok_club_books_members (b0_ : Nat) (a0_0 : Int) (b0_1_ : Nat) (Z0_1_ : List (ByteArray × SV)) (es0_1_ : Array MapEntry) (cl0_1_ : Nat) (a0_1 : (List (ByteArray × (List Tclub_stay)))) (b0_2_ : Nat) (es0_2_ : Array MapEntry) (cl0_2_ : Nat) (a0_2 : (List (ByteArray × Int))) (b0_3_ : Nat) (es0_3_ : Array MapEntry) (cl0_3_ : Nat) (a0_3 : (List (ByteArray × Unit))) (s0_4_ : SV) (a0_4 : (List Int)) {r : (List ByteArray)} (hm : m_club_books_members a0_0 a0_1 a0_2 a0_3 a0_4 = some r) :
    Ctr Tryz.prog 38 [.pointer (some ⟨b0_, 0, none⟩)].toArray [.box b0_ 116 [.int .i64 a0_0, .map (some b0_1_), .map (some b0_2_), .map (some b0_3_), s0_4_.v]] [FamAt kv9 SV.v (rowE R137) b0_1_ a0_1 Z0_1_ none es0_1_ cl0_1_, MapAt kv9 b0_2_ (mpV vv3 a0_2) es0_2_ cl0_2_, MapAt kv9 b0_3_ (mpV vv171 a0_3) es0_3_ cl0_3_, RdS R3 (SV.v s0_4_) a0_4] (X := SV) (fun s => s.v) (fun s => [.row R9 (SV.v s) r, .box b0_ 116 [.int .i64 a0_0, .map (some b0_1_), .map (some b0_2_), .map (some b0_3_), s0_4_.v]]) := by
  unfold m_club_books_members at hm
  refine ctr_mk (vs := [(0, .pointer (some ⟨b0_, 0, none⟩))]) Tryz.func38 rfl Tryz.ntmps38 rfl ⟨rfl, trivial⟩ (fun w0 A => ?_)
  refine cj_seq ?_
  refine cj_reg ?_
  refine lp rfl (p_as rfl) ?_
  refine lj_seq ?_
  refine cj_seq ?_
  refine cj_reg ?_
  refine lp rfl (p_as rfl) ?_
  refine lj_seq ?_
  refine cj_seq ?_
  refine cj_seq ?_
  refine cj_reg ?_
  refine lp rfl (p_mv rfl) ?_
  refine lp rfl (p_nc rfl) ?_
  refine lp rfl (p_fab fl116_1 rfl) ?_
  refine lp rfl (p_lbs ty112 rfl (j := 0) rfl rfl) ?_
  refine r_call [] cf58 rfl rfl (ok_maps_Keys_map_string_club_stay_string_club_stay b0_1_) rfl rfl .nil (fun _ => rfl) rfl (fun b1 => ?_)
  refine r_fzb 0 rfl ?_
  obtain ⟨y2, hy2, hm⟩ := bindS hm
  refine r_call [] cf35 rfl rfl (ok_slices_Sorted_string__maps_Keys_map_string_club_stay_string_club_stay_1 b1 b0_1_ Z0_1_ es0_1_ cl0_1_ a0_1 hy2) rfl rfl (.cons (.ro 0 rfl) (.cons (.ro 2 rfl) .nil)) (fun _ => rfl) rfl (fun s3 => ?_)
  refine lp rfl (p_len Tryz.underlying39 rfl (.row 0 rfl)) ?_
  refine lp rfl (p_mv rfl) ?_
  refine lj_seq ?_
  refine cj_nil R9 ?_
  obtain ⟨f11, hf11, hm⟩ := bindS hm
  refine cj_range (γ := SV) (m := (y2.length : Int)) hf11 nilS (fun u8 g9 => [(0, .pointer (some ⟨b0_, 0, none⟩)), (2, .slice none 0 0), (3, g9.v), (11, s3.v)]) (fun u8 g9 => Sat w0 (keys [.box b0_ 116 [.int .i64 a0_0, .map (some b0_1_), .map (some b0_2_), .map (some b0_3_), s0_4_.v]]) A [.row R9 (SV.v s3) y2, .box b0_ 116 [.int .i64 a0_0, .map (some b0_1_), .map (some b0_2_), .map (some b0_3_), s0_4_.v], .ro (FamAt kv9 SV.v (rowE R137) b0_1_ a0_1 Z0_1_ none es0_1_ cl0_1_), .ro (MapAt kv9 b0_2_ (mpV vv3 a0_2) es0_2_ cl0_2_), .ro (MapAt kv9 b0_3_ (mpV vv171 a0_3) es0_3_ cl0_3_), .ro (RdS R3 (SV.v s0_4_) a0_4), .row R9 (SV.v g9) u8]) ⟨rfl, rfl, rfl, rfl, rfl, rfl, trivial⟩ (fun _ h => h.picks [1, 2, 2, 2, 2, 2, 0] rfl) (nat_lt _) (fun _ h => (FactAt.get (F := RdS R9 (SV.v s3) y2) (.row 1 rfl) h).1) (fun _ _ => ⟨rfl, rfl, rfl, rfl⟩) ⟨rfl, rfl, rfl, rfl, rfl⟩ rfl rfl rfl (fun u8 g9 e => ?_) (fun aftk10 i4 x5 u8 g9 k10 hx6 hs J hJk10 hBk10 hX I cnk10 => ?_)
  · have hm := Flow.fin_b e hm
    refine nj_seq ?_
    refine cj_seq ?_
    refine cj_reg ?_
    refine lp rfl (p_mv rfl) ?_
    refine lp rfl (p_as rfl) ?_
    refine lj_seq ?_
    obtain rfl := Option.some.inj hm
    exact cj_rt g9 [6, 1] Tryz.results38 (.tmp rfl .nil) rfl rfl
  · have hRk10 : ∀ t, k10 = .ret t → some t = some r := fun t e => by rw [hX t e] at hm; exact hm
    have hm := hs
    refine cj_seq ?_
    refine cj_reg ?_
    refine lp rfl (p_idx Tryz.underlying39 ty9 rfl rfl (.row 0 rfl) (getI_nat.trans hx6)) ?_
    refine lp rfl (p_lde (o := 0) ty9 rfl rfl (.row 0 rfl) hx6 rfl) ?_
    refine lp rfl (p_as rfl) ?_
    refine lj_seq ?_
    refine cj_seq ?_
    refine cj_reg ?_
    refine lp rfl (p_mv rfl) ?_
    refine lp rfl (p_mv rfl) ?_
    obtain ⟨y13, hy13, hm⟩ := bindS hm
    refine r_call [1] cf59 rfl rfl (ok_club_books_isMember b0_ a0_0 b0_1_ Z0_1_ es0_1_ cl0_1_ a0_1 b0_2_ es0_2_ cl0_2_ a0_2 b0_3_ es0_3_ cl0_3_ a0_3 s0_4_ a0_4 x5 hy13) rfl rfl (.cons (.ro 1 rfl) (.cons (.ro 2 rfl) (.cons (.ro 3 rfl) (.cons (.ro 4 rfl) .nil)))) (fun _ => rfl) rfl (fun _ => ?_)
    refine lj_seq ?_
    refine cj_if (b := y13) rfl (fun hb => ?_) (fun hb => ?_)
    · have hm := ifB_t hb hm
      refine cj_reg ?_
      refine lp rfl (p_mv rfl) ?_
      refine lp rfl (p_mv rfl) ?_
      refine r_bs R9 [x5] rfl rfl rfl (fun _ => by kernel_rfl) rfl (fun s14 => ?_)
      obtain ⟨q15, hq15, hm⟩ := bindS hm
      refine r_app (k := 7) Tryz.underlying39 ty9 rfl rfl rfl rfl (.row 0 rfl) hq15 rfl (fun s16 => ?_)
      refine lp rfl (p_as rfl) ?_
      refine lj_nil ?_
      refine nj_blk ?_
      exact cnk10 _ _ q15 s16 (hJk10 _ (Option.some.inj hm).symm) ⟨rfl, rfl, rfl, rfl, rfl, rfl, trivial⟩ (fun _ h => h.picks [2, 1, 1, 1, 1, 1, 1] rfl)
    · have hm := ifB_f hb hm
      refine cj_skip ?_
      refine nj_blk ?_
      exact cnk10 _ _ u8 g9 (hJk10 _ (Option.some.inj hm).symm) ⟨rfl, rfl, rfl, rfl, rfl, rfl, trivial⟩ (fun _ h => h.picks [1, 0, 0, 0, 0, 0, 0] rfl)
theorem ok_club_books_act (b0_ : Nat) (a0_0 : Int) (b0_1_ : Nat) (Z0_1_ : List (ByteArray × SV)) (es0_1_ : Array MapEntry) (cl0_1_ : Nat) (a0_1 : (List (ByteArray × (List Tclub_stay)))) (b0_2_ : Nat) (es0_2_ : Array MapEntry) (cl0_2_ : Nat) (a0_2 : (List (ByteArray × Int))) (b0_3_ : Nat) (es0_3_ : Array MapEntry) (cl0_3_ : Nat) (a0_3 : (List (ByteArray × Unit))) (s0_4_ : SV) (a0_4 : (List Int)) (a1 : TAct) {r : (List (ByteArray × (List Tclub_stay))) × (List (ByteArray × Int))} (hm : m_club_books_act a0_0 a0_1 a0_2 a0_3 a0_4 a1 = some r) :
    Ctr Tryz.prog 76 [.pointer (some ⟨b0_, 0, none⟩), .agg (R63.enc a1).toArray].toArray [.box b0_ 116 [.int .i64 a0_0, .map (some b0_1_), .map (some b0_2_), .map (some b0_3_), s0_4_.v], .obj (famO kv9 SV.v (rowE R137) b0_1_ a0_1 Z0_1_ none es0_1_ cl0_1_), .obj (mapO kv9 b0_2_ (mpV vv3 a0_2) es0_2_ cl0_2_), .obj (mapO kv9 b0_3_ (mpV vv171 a0_3) es0_3_ cl0_3_)] [RdS R3 (SV.v s0_4_) a0_4] (X := (List (ByteArray × SV) × Array MapEntry × Nat × Array MapEntry × Nat)) (fun s => .tuple [].toArray) (fun s => [.box b0_ 116 [.int .i64 a0_0, .map (some b0_1_), .map (some b0_2_), .map (some b0_3_), s0_4_.v], .obj (famO kv9 SV.v (rowE R137) b0_1_ r.1 s.1 none s.2.1 s.2.2.1), .obj (mapO kv9 b0_2_ (mpV vv3 r.2) s.2.2.2.1 s.2.2.2.2), .obj (mapO kv9 b0_3_ (mpV vv171 a0_3) es0_3_ cl0_3_)]) := by
  unfold m_club_books_act at hm
  refine ctr_mk (vs := [(0, .pointer (some ⟨b0_, 0, none⟩)), (1, .agg (R63.enc a1).toArray)]) Tryz.func76 rfl Tryz.ntmps76 rfl ⟨rfl, rfl, trivial⟩ (fun w0 A => ?_)
  refine cj_seq ?_
  refine cj_reg ?_
  refine r_bx (cs := [.string a1.Site, .int .i64 a1.No, .int .i64 a1.At, .int .i64 a1.Kind, .string a1.Who, .string a1.Motion, .int .i64 a1.Cents, .bool a1.Yes, .string a1.Of, .int .i64 a1.Other]) rfl rfl rfl (fun b1 => ?_)
  refine lj_seq ?_
  refine cj_seq ?_
  refine cj_reg ?_
  refine lp rfl (p_fab fl63_3 rfl) ?_
  refine lp rfl (p_lbs ty3 rfl (j := 0) rfl rfl) ?_
  refine lj_seq ?_
  refine cj_blk ?_
  refine cj_seq ?_
  refine cj_reg ?_
  refine lp rfl (p_eql rfl rfl) ?_
  refine lp rfl (p_as rfl) ?_
  refine lj_seq ?_
  refine cj_if (b := a1.Kind == 1) rfl (fun hb => ?_) (fun hb => ?_)
  · have hm := ifB_t hb hm
    obtain ⟨q4, hq4, hm⟩ := bindS hm
    refine cj_anyT [0, 1, 2, 3, 4, 5, 6, 7, 8, 9, 10, 11, 12, 13, 14, 15, 16, 17] [19, 20] (Sat w0 (keys [.box b0_ 116 [.int .i64 a0_0, .map (some b0_1_), .map (some b0_2_), .map (some b0_3_), s0_4_.v], .obj (famO kv9 SV.v (rowE R137) b0_1_ a0_1 Z0_1_ none es0_1_ cl0_1_), .obj (mapO kv9 b0_2_ (mpV vv3 a0_2) es0_2_ cl0_2_), .obj (mapO kv9 b0_3_ (mpV vv171 a0_3) es0_3_ cl0_3_)]) A [.box b1 63 [.string a1.Site, .int .i64 a1.No, .int .i64 a1.At, .int .i64 a1.Kind, .string a1.Who, .string a1.Motion, .int .i64 a1.Cents, .bool a1.Yes, .string a1.Of, .int .i64 a1.Other], .box b0_ 116 [.int .i64 a0_0, .map (some b0_1_), .map (some b0_2_), .map (some b0_3_), s0_4_.v], .obj (famO kv9 SV.v (rowE R137) b0_1_ a0_1 Z0_1_ none es0_1_ cl0_1_), .obj (mapO kv9 b0_2_ (mpV vv3 a0_2) es0_2_ cl0_2_), .obj (mapO kv9 b0_3_ (mpV vv171 a0_3) es0_3_ cl0_3_), .ro (RdS R3 (SV.v s0_4_) a0_4)]) (Sat w0 (keys [.box b0_ 116 [.int .i64 a0_0, .map (some b0_1_), .map (some b0_2_), .map (some b0_3_), s0_4_.v], .obj (famO kv9 SV.v (rowE R137) b0_1_ a0_1 Z0_1_ none es0_1_ cl0_1_), .obj (mapO kv9 b0_2_ (mpV vv3 a0_2) es0_2_ cl0_2_), .obj (mapO kv9 b0_3_ (mpV vv171 a0_3) es0_3_ cl0_3_)]) A [.box b1 63 [.string a1.Site, .int .i64 a1.No, .int .i64 a1.At, .int .i64 a1.Kind, .string a1.Who, .string a1.Motion, .int .i64 a1.Cents, .bool a1.Yes, .string a1.Of, .int .i64 a1.Other], .box b0_ 116 [.int .i64 a0_0, .map (some b0_1_), .map (some b0_2_), .map (some b0_3_), s0_4_.v], .obj (mapO kv9 b0_2_ (mpV vv3 a0_2) es0_2_ cl0_2_), .obj (mapO kv9 b0_3_ (mpV vv171 a0_3) es0_3_ cl0_3_), .ro (RdS R3 (SV.v s0_4_) a0_4)]) (by kernel_rfl) ?_
    refine at_take2 0 rfl (by kernel_rfl) (by kernel_rfl) (by kernel_rfl) (fun _ h => h.picks [0, 0, 1, 1, 1] rfl) rfl rfl (p_mv rfl) (fun _ h => h.picks [0, 0, 1, 1, 1] rfl) ?_
    refine at_take2 1 rfl (by kernel_rfl) (by kernel_rfl) (by kernel_rfl) (fun _ h => h.picks [0, 0, 1, 1, 1] rfl) rfl rfl (p_nc rfl) (fun _ h => h.picks [0, 0, 1, 1, 1] rfl) ?_
    refine at_take2 2 rfl (by kernel_rfl) (by kernel_rfl) (by kernel_rfl) (fun _ h => h.picks [0, 0, 1, 1, 1] rfl) rfl rfl (p_fab fl116_1 rfl) (fun _ h => h.picks [0, 0, 1, 1, 1] rfl) ?_
    refine at_take2 3 rfl (by kernel_rfl) (by kernel_rfl) (by kernel_rfl) (fun _ h => h.picks [0, 0, 1, 1, 1] rfl) rfl rfl (p_lbs ty112 rfl (j := 1) rfl rfl) (fun _ h => h.picks [0, 0, 1, 1, 1] rfl) ?_
    refine at_take2 4 rfl (by kernel_rfl) (by kernel_rfl) (by kernel_rfl) (fun _ h => h.picks [0, 0, 1, 1, 1] rfl) rfl rfl (p_fab fl63_4 rfl) (fun _ h => h.picks [0, 0, 1, 1, 1] rfl) ?_
    refine at_take2 5 rfl (by kernel_rfl) (by kernel_rfl) (by kernel_rfl) (fun _ h => h.picks [0, 0, 1, 1, 1] rfl) rfl rfl (p_lbs ty9 rfl (j := 0) rfl rfl) (fun _ h => h.picks [0, 0, 1, 1, 1] rfl) ?_
    refine at_take2 6 rfl (by kernel_rfl) (by kernel_rfl) (by kernel_rfl) (fun _ h => h.picks [0, 0, 1, 1, 1] rfl) rfl rfl (p_mv rfl) (fun _ h => h.picks [0, 0, 1, 1, 1] rfl) ?_
    refine at_take2 7 rfl (by kernel_rfl) (by kernel_rfl) (by kernel_rfl) (fun _ h => h.picks [0, 0, 1, 1, 1] rfl) rfl rfl (p_nc rfl) (fun _ h => h.picks [0, 0, 1, 1, 1] rfl) ?_
    refine at_take2 8 rfl (by kernel_rfl) (by kernel_rfl) (by kernel_rfl) (fun _ h => h.picks [0, 0, 1, 1, 1] rfl) rfl rfl (p_fab fl116_1 rfl) (fun _ h => h.picks [0, 0, 1, 1, 1] rfl) ?_
    refine at_take2 9 rfl (by kernel_rfl) (by kernel_rfl) (by kernel_rfl) (fun _ h => h.picks [0, 0, 1, 1, 1] rfl) rfl rfl (p_lbs ty112 rfl (j := 1) rfl rfl) (fun _ h => h.picks [0, 0, 1, 1, 1] rfl) ?_
    refine at_take2 10 rfl (by kernel_rfl) (by kernel_rfl) (by kernel_rfl) (fun _ h => h.picks [0, 0, 1, 1, 1] rfl) rfl rfl (p_fab fl63_4 rfl) (fun _ h => h.picks [0, 0, 1, 1, 1] rfl) ?_
    refine at_take2 11 rfl (by kernel_rfl) (by kernel_rfl) (by kernel_rfl) (fun _ h => h.picks [0, 0, 1, 1, 1] rfl) rfl rfl (p_lbs ty9 rfl (j := 0) rfl rfl) (fun _ h => h.picks [0, 0, 1, 1, 1] rfl) ?_
    refine at_take1 12 rfl (by kernel_rfl) (by kernel_rfl) (by kernel_rfl) (by kernel_rfl) rfl rfl (p_lkm (vv := SV.v) (k := a1.Who) (z := nilS) Tryz.underlying112 (keyF9) (fun _ => by kernel_rfl) (.imp (.fam 2 rfl) (fun _ h => h.map)) rfl rfl) (fun _ h => h.picks [0, 0, 0, 0, 0, 0] rfl) ?_
    refine at_take2 13 rfl (by kernel_rfl) (by kernel_rfl) (by kernel_rfl) (fun _ h => h.picks [0, 0, 1, 1, 1] rfl) rfl rfl (p_fab fl63_2 rfl) (fun _ h => h.picks [0, 0, 1, 1, 1] rfl) ?_
    refine at_take2 14 rfl (by kernel_rfl) (by kernel_rfl) (by kernel_rfl) (fun _ h => h.picks [0, 0, 1, 1, 1] rfl) rfl rfl (p_lbs ty3 rfl (j := 0) rfl rfl) (fun _ h => h.picks [0, 0, 1, 1, 1] rfl) ?_
    refine at_take2 15 rfl (by kernel_rfl) (by kernel_rfl) (by kernel_rfl) (fun _ h => h.picks [0, 0, 1, 1, 1] rfl) rfl rfl (p_fab fl63_6 rfl) (fun _ h => h.picks [0, 0, 1, 1, 1] rfl) ?_
    refine at_take2 16 rfl (by kernel_rfl) (by kernel_rfl) (by kernel_rfl) (fun _ h => h.picks [0, 0, 1, 1, 1] rfl) rfl rfl (p_lbs ty3 rfl (j := 0) rfl rfl) (fun _ h => h.picks [0, 0, 1, 1, 1] rfl) ?_
    refine at_take2 17 rfl (by kernel_rfl) (by kernel_rfl) (by kernel_rfl) (fun _ h => h.picks [0, 0, 1, 1, 1] rfl) rfl rfl (p_bld [.int .i64 a1.At, .int .i64 (-1), .int .i64 a1.Cents] rfl (fun _ => by kernel_rfl)) (fun _ h => h.picks [0, 0, 1, 1, 1] rfl) ?_
    refine at_each (rs := [18]) (by kernel_rfl) (by decide) ?_
    refine (.cons rfl (fun I cnI => ?_) .nil)
    · refine r_bs R137 [(Tclub_stay.mk a1.At (-1) a1.Cents)] rfl rfl rfl (fun _ => by kernel_rfl) rfl (fun s8 => ?_)
      refine lj_nil ?_
      refine cnI _ _ (sof1 rfl rfl (fun _ h => h.picks [1, 1, 1, 1, 1, 1] rfl)) ?_
      refine at_each (rs := [19]) (by kernel_rfl) (by decide) ?_
      refine (.cons rfl (fun I cnI => ?_) .nil)
      · refine LJ.sat (fun _ h => h.takeR 3 rfl a1.Who) ?_
        refine r_app (k := 0) Tryz.underlying113 ty137 rfl rfl rfl rfl (.row 2 rfl) hq4 rfl (fun s10 => ?_)
        refine lj_nil ?_
        refine cnI _ _ (sof2 rfl rfl (fun _ h => h.picks [3, 3, 3, 3, 3] rfl)) ?_
        refine at_each (rs := [20]) (by kernel_rfl) (by decide) ?_
        refine (.cons rfl (fun I cnI => ?_) .nil)
        · refine r_mpuF (x1 := q4) (g1 := s10) (k := a1.Who) [1, 0] Tryz.underlying112 keyF9 rfl (.inr rfl) rfl rfl rfl (fun es11 cl12 => ?_)
          refine lj_nil ?_
          refine cnI _ _ (sof2 rfl rfl (fun _ h => h.picks [2, 2, 2, 2, 2] rfl)) ?_
          refine at_done (by kernel_rfl) ?_
          refine nj_blk ?_
          obtain rfl := Option.some.inj hm
          exact nj_rt ((putM Z0_1_ a1.Who s10), es11, cl12, es0_2_, cl0_2_) [3, 0, 2, 2] Tryz.results76 .nil rfl rfl
  · have hm := ifB_f hb hm
    refine cj_seq ?_
    refine cj_reg ?_
    refine lp rfl (p_eql rfl rfl) ?_
    refine lp rfl (p_as rfl) ?_
    refine lj_seq ?_
    refine cj_if (b := a1.Kind == 2) rfl (fun hb => ?_) (fun hb => ?_)
    · have hm := ifB_t hb hm
      refine cj_seq ?_
      refine cj_quiet (by kernel_rfl) (by kernel_rfl) ?_
      refine q_p rfl (p_mv rfl) ?_
      refine q_p rfl (p_nc rfl) ?_
      refine q_p rfl (p_fab fl116_1 rfl) ?_
      refine q_p rfl (p_lbs ty112 rfl (j := 1) rfl rfl) ?_
      refine q_p rfl (p_fab fl63_4 rfl) ?_
      refine q_p rfl (p_lbs ty9 rfl (j := 0) rfl rfl) ?_
      refine q_p rfl (p_lkm (vv := SV.v) (k := a1.Who) (z := nilS) Tryz.underlying112 (keyF9) (fun _ => by kernel_rfl) (.imp (.fam 2 rfl) (fun _ h => h.map)) rfl rfl) ?_
      refine q_p rfl (p_as rfl) ?_
      refine q_nil ?_
      refine nj_seq ?_
      refine cj_reg ?_
      refine lp rfl (p_mv rfl) ?_
      refine lp rfl (p_mv rfl) ?_
      refine lp rfl (p_len Tryz.underlying113 rfl (.imp (.fam 2 rfl) (fun _ h => h.look a1.Who))) ?_
      refine lp rfl (p_sub rfl rfl) ?_
      refine lp rfl (p_fab fl63_2 rfl) ?_
      refine lp rfl (p_lbs ty3 rfl (j := 0) rfl rfl) ?_
      obtain ⟨e13, he13, hm⟩ := bindS hm
      refine lp rfl (p_idx Tryz.underlying113 ty137 rfl rfl (.imp (.fam 2 rfl) (fun _ h => h.look a1.Who)) he13) ?_
      refine lp rfl (p_fae fl137_1 rfl (.imp (.fam 2 rfl) (fun _ h => h.look a1.Who)) (getI_spec he13).2) ?_
      refine LJ.sat (fun _ h => h.takeR 2 rfl a1.Who) ?_
      refine r_ste (k := 0) (o := 1) (vs := [.int .i64 a1.At]) ty3 rfl rfl rfl rfl rfl rfl rfl (getI_spec he13).2 (Tclub_stay.mk e13.since a1.At e13.cents) rfl rfl ?_
      refine LJ.sat (fun _ h => h.giveR [1, 0] rfl) ?_
      refine lj_nil ?_
      refine nj_blk ?_
      obtain rfl := Option.some.inj hm
      exact nj_rt (Z0_1_, es0_1_, cl0_1_, es0_2_, cl0_2_) [2, 0, 1, 1] Tryz.results76 .nil rfl rfl
    · have hm := ifB_f hb hm
      refine cj_seq ?_
      refine cj_reg ?_
      refine lp rfl (p_eql rfl rfl) ?_
      refine lp rfl (p_as rfl) ?_
      refine lj_seq ?_
      refine cj_if (b := a1.Kind == 3) rfl (fun hb => ?_) (fun hb => ?_)
      · have hm := ifB_t hb hm
        refine cj_tail 10 (by kernel_rfl) (by kernel_rfl) ?_
        refine s_p rfl (p_mv rfl) ?_
        refine s_p rfl (p_nc rfl) ?_
        refine s_p rfl (p_fab fl116_2 rfl) ?_
        refine s_p rfl (p_lbs ty104 rfl (j := 1) rfl rfl) ?_
        refine s_p rfl (p_fab fl63_4 rfl) ?_
        refine s_p rfl (p_lbs ty9 rfl (j := 0) rfl rfl) ?_
        refine s_p rfl (p_lkm (vv := vv3) (k := a1.Who) (z := 0) Tryz.underlying104 (keyF9) (fun _ => by kernel_rfl) (.map 3 rfl) rfl rfl) ?_
        refine s_p rfl (p_fab fl63_6 rfl) ?_
        refine s_p rfl (p_lbs ty3 rfl (j := 0) rfl rfl) ?_
        refine s_p rfl (p_add rfl rfl) ?_
        refine s_nil ?_
        refine r_mpu (j := 3) (vv := vv3) (k := a1.Who) (v := (w64 (((lkM a0_2 a1.Who).getD 0) + a1.Cents))) Tryz.underlying104 keyF9 rfl rfl rfl rfl (fun es15 cl16 => ?_)
        refine lj_nil ?_
        refine nj_blk ?_
        obtain rfl := Option.some.inj hm
        exact nj_rt (Z0_1_, es0_1_, cl0_1_, es15, cl16) [1, 1, 1, 1] Tryz.results76 .nil rfl rfl
      · have hm := ifB_f hb hm
        refine cj_seq ?_
        refine cj_reg ?_
        refine lp rfl (p_eql rfl rfl) ?_
        refine lp rfl (p_as rfl) ?_
        refine lj_seq ?_
        refine cj_if (b := a1.Kind == 4) rfl (fun hb => ?_) (fun hb => ?_)
        · have hm := ifB_t hb hm
          cases hm
        · have hm := ifB_f hb hm
          refine cj_seq ?_
          refine cj_reg ?_
          refine lp rfl (p_eql rfl rfl) ?_
          refine lp rfl (p_as rfl) ?_
          refine lj_seq ?_
          refine cj_if (b := a1.Kind == 5) rfl (fun hb => ?_) (fun hb => ?_)
          · have hm := ifB_t hb hm
            refine cj_tail 14 (by kernel_rfl) (by kernel_rfl) ?_
            refine s_p rfl (p_mv rfl) ?_
            refine s_p rfl (p_nc rfl) ?_
            refine s_p rfl (p_fab fl116_3 rfl) ?_
            refine s_p rfl (p_lbs ty114 rfl (j := 1) rfl rfl) ?_
            refine s_p rfl (p_fab fl63_5 rfl) ?_
            refine s_p rfl (p_lbs ty9 rfl (j := 0) rfl rfl) ?_
            refine s_p rfl (p_lkm (vv := vv171) (k := a1.Motion) (z := ()) Tryz.underlying114 (keyF9) (fun _ => by kernel_rfl) (.map 4 rfl) rfl rfl) ?_
            cases hm
          · have hm := ifB_f hb hm
            refine cj_seq ?_
            refine cj_reg ?_
            refine lp rfl (p_eql rfl rfl) ?_
            refine lp rfl (p_as rfl) ?_
            refine lj_seq ?_
            refine cj_if (b := a1.Kind == 6) rfl (fun hb => ?_) (fun hb => ?_)
            · have hm := ifB_t hb hm
              refine cj_seq ?_
              refine cj_quiet (by kernel_rfl) (by kernel_rfl) ?_
              refine q_p rfl (p_mv rfl) ?_
              refine q_p rfl (p_nc rfl) ?_
              refine q_p rfl (p_fab fl116_3 rfl) ?_
              refine q_p rfl (p_lbs ty114 rfl (j := 1) rfl rfl) ?_
              refine q_p rfl (p_fab fl63_5 rfl) ?_
              refine q_p rfl (p_lbs ty9 rfl (j := 0) rfl rfl) ?_
              refine q_p rfl (p_lkm (vv := vv171) (k := a1.Motion) (z := ()) Tryz.underlying114 (keyF9) (fun _ => by kernel_rfl) (.map 4 rfl) rfl rfl) ?_
              refine q_p rfl (p_as rfl) ?_
              refine q_nil ?_
              refine nj_seq ?_
              refine cj_reg ?_
              refine lp rfl (p_mv rfl) ?_
              refine lp rfl (p_mv rfl) ?_
              refine lp rfl (p_mv rfl) ?_
              obtain ⟨y19, hy19, hm⟩ := bindS hm
              refine r_call [1] cf38 rfl rfl (ok_club_books_members b0_ a0_0 b0_1_ Z0_1_ es0_1_ cl0_1_ a0_1 b0_2_ es0_2_ cl0_2_ a0_2 b0_3_ es0_3_ cl0_3_ a0_3 s0_4_ a0_4 hy19) rfl rfl (.cons (.fam 1 rfl) (.cons (.map 2 rfl) (.cons (.map 3 rfl) (.cons (.ro 4 rfl) .nil)))) (fun _ => rfl) rfl (fun s20 => ?_)
              cases hm
            · have hm := ifB_f hb hm
              refine cj_skip ?_
              refine nj_blk ?_
              obtain rfl := Option.some.inj hm
              exact nj_rt (Z0_1_, es0_1_, cl0_1_, es0_2_, cl0_2_) [1, 1, 1, 1] Tryz.results76 .nil rfl rfl
theorem ok_club_booksAt (s0_ : SV) (a0 : (List TAct)) (a1 : Int) {r : (Int × (List (ByteArray × (List Tclub_stay))) × (List (ByteArray × Int)) × (List (ByteArray × Unit)) × (List Int))} (hm : m_club_booksAt a0 a1 = some r) :
    Ctr Tryz.prog 57 [s0_.v, .int .i64 a1].toArray ([] : List Ent) [RdS R63 (SV.v s0_) a0] (X := (Nat × Nat × List (ByteArray × SV) × Array MapEntry × Nat × Nat × Array MapEntry × Nat × Nat × Array MapEntry × Nat × SV)) (fun s => .pointer (some ⟨s.1, 0, none⟩)) (fun s => [.box s.1 116 [.int .i64 r.1, .map (some s.2.1), .map (some s.2.2.2.2.2.1), .map (some s.2.2.2.2.2.2.2.2.1), s.2.2.2.2.2.2.2.2.2.2.2.v], .obj (famO kv9 SV.v (rowE R137) s.2.1 r.2.1 s.2.2.1 none s.2.2.2.1 s.2.2.2.2.1), .obj (mapO kv9 s.2.2.2.2.2.1 (mpV vv3 r.2.2.1) s.2.2.2.2.2.2.1 s.2.2.2.2.2.2.2.1), .obj (mapO kv9 s.2.2.2.2.2.2.2.2.1 (mpV vv171 r.2.2.2.1) s.2.2.2.2.2.2.2.2.2.1 s.2.2.2.2.2.2.2.2.2.2.1), .row R3 (SV.v s.2.2.2.2.2.2.2.2.2.2.2) r.2.2.2.2]) := by
  unfold m_club_booksAt at hm
  refine ctr_mk (vs := [(0, s0_.v), (1, .int .i64 a1)]) Tryz.func57 rfl Tryz.ntmps57 rfl ⟨rfl, rfl, trivial⟩ (fun w0 A => ?_)
  refine cj_seq ?_
  refine cj_reg ?_
  refine lp rfl (p_as rfl) ?_
  refine lj_seq ?_
  refine cj_seq ?_
  refine cj_reg ?_
  refine lp rfl (p_mv rfl) ?_
  refine r_mkmapF kv9 SV.v (rowE R137) rfl (fun b1 => ?_)
  refine r_mkmap kv9 vv3 rfl (fun b2 => ?_)
  refine r_mkmap kv9 vv171 rfl (fun b3 => ?_)
  refine lp rfl (p_bld [.int .i64 a1, .map (some b1), .map (some b2), .map (some b3), .slice none 0 0] rfl (fun _ => by kernel_rfl)) ?_
  refine r_bx (cs := [.int .i64 a1, .map (some b1), .map (some b2), .map (some b3), .slice none 0 0]) rfl rfl rfl (fun b4 => ?_)
  refine lp rfl (p_as rfl) ?_
  refine lj_seq ?_
  refine cj_seq ?_
  refine cj_seq ?_
  refine cj_reg ?_
  refine lp rfl (p_mv rfl) ?_
  refine lp rfl (p_mv rfl) ?_
  obtain ⟨y5, hy5, hm⟩ := bindS hm
  refine r_call [] cf74 rfl rfl (ok_club_counting s0_ a0 a1 hy5) rfl rfl (.cons (.ro 4 rfl) .nil) (fun _ => rfl) rfl (fun s6 => ?_)
  refine lp rfl (p_len Tryz.underlying22 rfl (.row 0 rfl)) ?_
  refine lp rfl (p_mv rfl) ?_
  refine lj_seq ?_
  refine cj_nil R3 ?_
  obtain ⟨f14, hf14, hm⟩ := bindS hm
  refine cj_range (γ := (Array MapEntry × Nat × List (ByteArray × SV) × Array MapEntry × Nat × SV)) (m := (y5.length : Int)) hf14 (#[], 0, [], #[], 0, nilS) (fun u11 g12 => [(0, s0_.v), (4, .pointer none), (5, .pointer (some ⟨b4, 0, none⟩)), (16, s6.v)]) (fun u11 g12 => Sat w0 (keys ([] : List Ent)) A [.row R3 (SV.v s6) y5, .box b4 116 [.int .i64 a1, .map (some b1), .map (some b2), .map (some b3), g12.2.2.2.2.2.v], .obj (mapO kv9 b3 (mpV vv171 []) (#[]) 0), .obj (mapO kv9 b2 (mpV vv3 u11.1) g12.1 g12.2.1), .obj (famO kv9 SV.v (rowE R137) b1 u11.2.1 g12.2.2.1 none g12.2.2.2.1 g12.2.2.2.2.1), .ro (RdS R63 (SV.v s0_) a0), .row R3 (SV.v g12.2.2.2.2.2) u11.2.2]) ⟨rfl, rfl, rfl, rfl, rfl, rfl, trivial⟩ (fun _ h => h.picks [1, 1, 1, 1, 1, 1, 0] rfl) (nat_lt _) (fun _ h => (FactAt.get (F := RdS R3 (SV.v s6) y5) (.row 1 rfl) h).1) (fun _ _ => ⟨rfl, rfl, rfl, rfl⟩) ⟨rfl, rfl, rfl, rfl, rfl⟩ rfl rfl rfl (fun u11 g12 e => ?_) (fun aftk13 i7 x8 u11 g12 k13 hx9 hs J hJk13 hBk13 hX I cnk13 => ?_)
  · have hm := Flow.fin_b e hm
    refine nj_seq ?_
    refine cj_seq ?_
    refine cj_reg ?_
    refine lp rfl (p_mv rfl) ?_
    refine lp rfl (p_as rfl) ?_
    refine lj_seq ?_
    obtain rfl := Option.some.inj hm
    exact cj_rt (b4, b1, g12.2.2.1, g12.2.2.2.1, g12.2.2.2.2.1, b2, g12.1, g12.2.1, b3, (#[]), 0, g12.2.2.2.2.2) [1, 3, 2, 1, 2] Tryz.results57 (.tmp rfl .nil) rfl rfl
  · have hRk13 : ∀ t, k13 = .ret t → some t = some r := fun t e => by rw [hX t e] at hm; exact hm
    have hm := hs
    refine cj_seq ?_
    refine cj_reg ?_
    refine lp rfl (p_idx Tryz.underlying22 ty3 rfl rfl (.row 0 rfl) (getI_nat.trans hx9)) ?_
    refine lp rfl (p_lde (o := 0) ty3 rfl rfl (.row 0 rfl) hx9 rfl) ?_
    refine lp rfl (p_as rfl) ?_
    refine lj_seq ?_
    refine cj_seq ?_
    refine cj_reg ?_
    refine lp rfl (p_mv rfl) ?_
    refine lp rfl (p_mv rfl) ?_
    refine lp rfl (p_mv rfl) ?_
    obtain ⟨e16, he16, hm⟩ := bindS hm
    refine lp rfl (p_idx Tryz.underlying64 ty63 rfl rfl (.ro 5 rfl) he16) ?_
    refine lp rfl (p_lea ty63 rfl (.ro 5 rfl) (getI_spec he16).2) ?_
    obtain ⟨y17, hy17, hm⟩ := bindS hm
    refine r_call [1] cf75 rfl rfl (ok_club_books_permits b4 a1 b1 g12.2.2.1 g12.2.2.2.1 g12.2.2.2.2.1 u11.2.1 b2 g12.1 g12.2.1 u11.1 b3 (#[]) 0 ([] : (List (ByteArray × Unit))) g12.2.2.2.2.2 u11.2.2 e16 hy17) rfl rfl (.cons (.fam 3 rfl) (.cons (.map 2 rfl) (.cons (.map 1 rfl) (.cons (.row 5 rfl) .nil)))) (fun _ => rfl) rfl (fun _ => ?_)
    refine lj_seq ?_
    refine cj_if (b := y17) rfl (fun hb => ?_) (fun hb => ?_)
    · have hm := ifB_t hb hm
      refine cj_reg ?_
      refine lp rfl (p_mv rfl) ?_
      refine lp rfl (p_mv rfl) ?_
      refine lp rfl (p_mv rfl) ?_
      obtain ⟨e18, he18, hm⟩ := bindS hm
      refine lp rfl (p_idx Tryz.underlying64 ty63 rfl rfl (.ro 5 rfl) he18) ?_
      refine lp rfl (p_lea ty63 rfl (.ro 5 rfl) (getI_spec he18).2) ?_
      obtain ⟨y19, hy19, hm⟩ := bindS hm
      refine r_call [0, 3, 2, 1] cf76 rfl rfl (ok_club_books_act b4 a1 b1 g12.2.2.1 g12.2.2.2.1 g12.2.2.2.2.1 u11.2.1 b2 g12.1 g12.2.1 u11.1 b3 (#[]) 0 ([] : (List (ByteArray × Unit))) g12.2.2.2.2.2 u11.2.2 e18 hy19) rfl rfl (.cons (.row 2 rfl) .nil) (fun _ => rfl) rfl (fun ⟨gz20, gz21, gz22, gz23, gz24⟩ => ?_)
      refine lj_nil ?_
      refine nj_blk ?_
      exact cnk13 _ _ (y19.2, y19.1, u11.2.2) (gz23, gz24, gz20, gz21, gz22, g12.2.2.2.2.2) (hJk13 _ (Option.some.inj hm).symm) ⟨rfl, rfl, rfl, rfl, rfl, rfl, trivial⟩ (fun _ h => h.picks [4, 0, 2, 1, 0, 0, 0] rfl)
    · have hm := ifB_f hb hm
      refine cj_reg ?_
      refine lp rfl (p_mv rfl) ?_
      refine lp rfl (p_mv rfl) ?_
      refine lp rfl (p_nc rfl) ?_
      refine lp rfl (p_fab fl116_4 rfl) ?_
      refine lp rfl (p_lbs ty22 rfl (j := 0) rfl rfl) ?_
      refine lp rfl (p_mv rfl) ?_
      refine r_bs R3 [x8] rfl rfl rfl (fun _ => by kernel_rfl) rfl (fun s25 => ?_)
      obtain ⟨q26, hq26, hm⟩ := bindS hm
      refine r_app (k := 7) Tryz.underlying22 ty3 rfl rfl rfl rfl (.row 0 rfl) hq26 rfl (fun s27 => ?_)
      refine lp rfl (p_nc rfl) ?_
      refine lp rfl (p_fab fl116_4 rfl) ?_
      refine r_sb (vs := [s27.v]) (j := 1) ty22 rfl rfl rfl rfl rfl rfl rfl ?_
      refine lj_nil ?_
      refine nj_blk ?_
      exact cnk13 _ _ (u11.1, u11.2.1, q26) (g12.1, g12.2.1, g12.2.2.1, g12.2.2.2.1, g12.2.2.2.2.1, s27) (hJk13 _ (Option.some.inj hm).symm) ⟨rfl, rfl, rfl, rfl, rfl, rfl, trivial⟩ (fun _ h => h.picks [2, 1, 1, 1, 1, 1, 1] rfl)
theorem ok_club_checkedAt (s0_ : SV) (a0 : (List TAct)) (a1 : Int) {r : (Option (Int × (List (ByteArray × (List Tclub_stay))) × (List (ByteArray × Int)) × (List (ByteArray × Unit)) × (List Int))) × Int} (hm : m_club_checkedAt a0 a1 = some r) :
    Ctr Tryz.prog 37 [s0_.v, .int .i64 a1].toArray ([] : List Ent) [RdS R63 (SV.v s0_) a0] (X := (Nat × Nat × List (ByteArray × SV) × Array MapEntry × Nat × Nat × Array MapEntry × Nat × Nat × Array MapEntry × Nat × SV)) (fun s => .tuple [optV r.1 (.pointer (some ⟨s.1, 0, none⟩)), .int .i64 r.2].toArray) (fun s => (optE r.1 (fun t_ => [.box s.1 116 [.int .i64 t_.1, .map (some s.2.1), .map (some s.2.2.2.2.2.1), .map (some s.2.2.2.2.2.2.2.2.1), s.2.2.2.2.2.2.2.2.2.2.2.v], .obj (famO kv9 SV.v (rowE R137) s.2.1 t_.2.1 s.2.2.1 none s.2.2.2.1 s.2.2.2.2.1), .obj (mapO kv9 s.2.2.2.2.2.1 (mpV vv3 t_.2.2.1) s.2.2.2.2.2.2.1 s.2.2.2.2.2.2.2.1), .obj (mapO kv9 s.2.2.2.2.2.2.2.2.1 (mpV vv171 t_.2.2.2.1) s.2.2.2.2.2.2.2.2.2.1 s.2.2.2.2.2.2.2.2.2.2.1), .row R3 (SV.v s.2.2.2.2.2.2.2.2.2.2.2) t_.2.2.2.2])) ++ []) := by
  unfold m_club_checkedAt at hm
  refine ctr_mk (vs := [(0, s0_.v), (1, .int .i64 a1)]) Tryz.func37 rfl Tryz.ntmps37 rfl ⟨rfl, rfl, trivial⟩ (fun w0 A => ?_)
  refine cj_seq ?_
  refine cj_reg ?_
  refine lp rfl (p_as rfl) ?_
  refine lp rfl (p_as rfl) ?_
  refine lj_seq ?_
  refine cj_seq ?_
  refine cj_seq ?_
  refine cj_reg ?_
  refine lp rfl (p_mv rfl) ?_
  refine lp rfl (p_mv rfl) ?_
  obtain ⟨y1, hy1, hm⟩ := bindS hm
  refine r_call [] cf56 rfl rfl (ok_club_askedFault s0_ a0 a1 hy1) rfl rfl (.cons (.ro 0 rfl) .nil) (fun _ => rfl) rfl (fun _ => ?_)
  refine lp rfl (p_as rfl) ?_
  refine lj_seq ?_
  refine cj_seq ?_
  refine cj_reg ?_
  refine lp rfl (p_mv rfl) ?_
  refine lp rfl (p_neq rfl rfl) ?_
  refine lj_seq ?_
  refine cj_if (b := y1 != 0) rfl (fun hb => ?_) (fun hb => ?_)
  · have hm := ifB_t hb hm
    refine cj_seq ?_
    refine cj_reg ?_
    refine lp rfl (p_mv rfl) ?_
    refine lp rfl (p_as rfl) ?_
    refine lp rfl (p_as rfl) ?_
    refine lj_seq ?_
    obtain rfl := Option.some.inj hm
    exact cj_rt (0, 0, [], #[], 0, 0, #[], 0, 0, #[], 0, nilS) [] Tryz.results37 (.tmp rfl (.tmp rfl .nil)) rfl rfl
  · have hm := ifB_f hb hm
    refine cj_skip ?_
    refine nj_seq ?_
    refine cj_seq ?_
    refine cj_reg ?_
    refine lp rfl (p_mv rfl) ?_
    refine lp rfl (p_mv rfl) ?_
    obtain ⟨y2, hy2, hm⟩ := bindS hm
    refine r_call [] cf57 rfl rfl (ok_club_booksAt s0_ a0 a1 hy2) rfl rfl (.cons (.ro 0 rfl) .nil) (fun _ => rfl) rfl (fun ⟨b3, b4, gz5, gz6, gz7, b8, gz9, gz10, b11, gz12, gz13, s14⟩ => ?_)
    refine lp rfl (p_as rfl) ?_
    refine lp rfl (p_as rfl) ?_
    refine lj_seq ?_
    obtain rfl := Option.some.inj hm
    exact cj_rt (b3, b4, gz5, gz6, gz7, b8, gz9, gz10, b11, gz12, gz13, s14) [0, 0, 0, 0, 0] Tryz.results37 (.tmp rfl (.tmp rfl .nil)) rfl rfl
theorem ok_club_Members (s0_ : SV) (a0 : (List TAct)) (a1 : Int) {r : (List ByteArray) × Int} (hm : m_club_Members a0 a1 = some r) :
    Ctr Tryz.prog 18 [s0_.v, .int .i64 a1].toArray ([] : List Ent) [RdS R63 (SV.v s0_) a0] (X := SV) (fun s => .tuple [s.v, .int .i64 r.2].toArray) (fun s => [.row R9 (SV.v s) r.1]) := by
  unfold m_club_Members at hm
  refine ctr_mk (vs := [(0, s0_.v), (1, .int .i64 a1)]) Tryz.func18 rfl Tryz.ntmps18 rfl ⟨rfl, rfl, trivial⟩ (fun w0 A => ?_)
  refine cj_seq ?_
  refine cj_reg ?_
  refine lp rfl (p_as rfl) ?_
  refine lp rfl (p_as rfl) ?_
  refine lj_seq ?_
  refine cj_seq ?_
  refine cj_reg ?_
  refine lp rfl (p_mv rfl) ?_
  refine lp rfl (p_mv rfl) ?_
  obtain ⟨y1, hy1, hm⟩ := bindS hm
  refine optB_cases hm (fun ho3 hm => ?_) (fun t2 ho3 hm => ?_)
  · have hc4 := (ok_club_checkedAt s0_ a0 a1 hy1)
    rw [ho3] at hc4
    simp only [optE_none, optE_some, optV_none, optV_some, List.nil_append, List.cons_append] at hc4
    refine r_call [] cf37 rfl rfl hc4 rfl rfl (.cons (.ro 0 rfl) .nil) (fun _ => rfl) rfl (fun ⟨b5, b6, gz7, gz8, gz9, b10, gz11, gz12, b13, gz14, gz15, s16⟩ => ?_)
    refine lp rfl (p_mv rfl) ?_
    refine lp rfl (p_ext rfl rfl) ?_
    refine lp rfl (p_ext rfl rfl) ?_
    refine lp rfl (p_as rfl) ?_
    refine lp rfl (p_as rfl) ?_
    refine lj_seq ?_
    refine cj_seq ?_
    refine cj_seq ?_
    refine cj_reg ?_
    refine lp rfl (p_mv rfl) ?_
    refine lp rfl (p_neq rfl rfl) ?_
    refine lj_seq ?_
    refine cj_if (b := y1.2 != 0) rfl (fun hb => ?_) (fun hb => ?_)
    · have hm := ifB_t hb hm
      refine cj_seq ?_
      refine cj_reg ?_
      refine lp rfl (p_mv rfl) ?_
      refine lp rfl (p_as rfl) ?_
      refine lp rfl (p_as rfl) ?_
      refine lj_seq ?_
      obtain rfl := Option.some.inj hm
      refine cj_nil R9 ?_
      exact cj_rt nilS [0] Tryz.results18 (.tmp rfl (.tmp rfl .nil)) rfl rfl
    · have hm := ifB_f hb hm
      refine cj_skip ?_
      refine nj_seq ?_
      refine cj_seq ?_
      refine cj_reg ?_
      refine lp rfl (p_mv rfl) ?_
      cases hm
  · have hc4 := (ok_club_checkedAt s0_ a0 a1 hy1)
    rw [ho3] at hc4
    simp only [optE_none, optE_some, optV_none, optV_some, List.nil_append, List.cons_append] at hc4
    refine r_call [] cf37 rfl rfl hc4 rfl rfl (.cons (.ro 0 rfl) .nil) (fun _ => rfl) rfl (fun ⟨b18, b19, gz20, gz21, gz22, b23, gz24, gz25, b26, gz27, gz28, s29⟩ => ?_)
    refine lp rfl (p_mv rfl) ?_
    refine lp rfl (p_ext rfl rfl) ?_
    refine lp rfl (p_ext rfl rfl) ?_
    refine lp rfl (p_as rfl) ?_
    refine lp rfl (p_as rfl) ?_
    refine lj_seq ?_
    refine cj_seq ?_
    refine cj_seq ?_
    refine cj_reg ?_
    refine lp rfl (p_mv rfl) ?_
    refine lp rfl (p_neq rfl rfl) ?_
    refine lj_seq ?_
    refine cj_if (b := y1.2 != 0) rfl (fun hb => ?_) (fun hb => ?_)
    · have hm := ifB_t hb hm
      refine cj_seq ?_
      refine cj_reg ?_
      refine lp rfl (p_mv rfl) ?_
      refine lp rfl (p_as rfl) ?_
      refine lp rfl (p_as rfl) ?_
      refine lj_seq ?_
      obtain rfl := Option.some.inj hm
      refine cj_nil R9 ?_
      exact cj_rt nilS [0] Tryz.results18 (.tmp rfl (.tmp rfl .nil)) rfl rfl
    · have hm := ifB_f hb hm
      refine cj_skip ?_
      refine nj_seq ?_
      refine cj_seq ?_
      refine cj_reg ?_
      refine lp rfl (p_mv rfl) ?_
      obtain ⟨y31, hy31, hm⟩ := bindS hm
      refine r_call [0] cf38 rfl rfl (ok_club_books_members b18 t2.1 b19 gz20 gz21 gz22 t2.2.1 b23 gz24 gz25 t2.2.2.1 b26 gz27 gz28 t2.2.2.2.1 s29 t2.2.2.2.2 hy31) rfl rfl (.cons (.fam 0 rfl) (.cons (.map 1 rfl) (.cons (.map 2 rfl) (.cons (.row 3 rfl) .nil)))) (fun _ => rfl) rfl (fun s32 => ?_)
      refine lp rfl (p_as rfl) ?_
      refine lp rfl (p_as rfl) ?_
      refine lj_seq ?_
      obtain rfl := Option.some.inj hm
      exact cj_rt s32 [0] Tryz.results18 (.tmp rfl (.tmp rfl .nil)) rfl rfl
theorem ok_gleekeep2_errs (s0_ : SV) (a0 : (List Int)) {r : Int} (hm : m_gleekeep2_errs a0 = some r) :
    Ctr Tryz.prog 8 [s0_.v].toArray ([] : List Ent) [RdS R30 (SV.v s0_) a0] (X := Unit) (fun _ => .int .i64 r) (fun _ => []) := by
  unfold m_gleekeep2_errs at hm
  refine ctr_mk (vs := [(0, s0_.v)]) Tryz.func8 rfl Tryz.ntmps8 rfl ⟨rfl, trivial⟩ (fun w0 A => ?_)
  refine cj_seq ?_
  refine cj_reg ?_
  refine lp rfl (p_as rfl) ?_
  refine lj_seq ?_
  refine cj_seq ?_
  refine cj_seq ?_
  refine cj_reg ?_
  refine lp rfl (p_mv rfl) ?_
  refine lp rfl (p_len Tryz.underlying67 rfl (.ro 0 rfl)) ?_
  refine lp rfl (p_mv rfl) ?_
  refine lj_seq ?_
  obtain ⟨f7, hf7, hm⟩ := bindS hm
  refine cj_range (γ := Unit) (m := (a0.length : Int)) hf7 () (fun u4 g5 => [(2, .int .i64 0), (5, s0_.v)]) (fun u4 g5 => Sat w0 (keys ([] : List Ent)) A [.ro (RdS R30 (SV.v s0_) a0)]) ⟨rfl, rfl, rfl, rfl, trivial⟩ (fun _ h => h.picks [0] rfl) (nat_lt _) (fun _ h => (FactAt.get (F := RdS R30 (SV.v s0_) a0) (.ro 0 rfl) h).1) (fun _ _ => ⟨rfl, rfl, rfl, rfl⟩) ⟨rfl, rfl, rfl, rfl, rfl⟩ rfl rfl rfl (fun u4 g5 e => ?_) (fun aftk6 i1 x2 u4 g5 k6 hx3 hs J hJk6 hBk6 hX I cnk6 => ?_)
  · have hm := Flow.fin_b e hm
    refine nj_seq ?_
    refine cj_seq ?_
    refine cj_reg ?_
    refine lp rfl (p_as rfl) ?_
    refine lj_seq ?_
    obtain rfl := Option.some.inj hm
    exact cj_rt () [] Tryz.results8 (.tmp rfl .nil) rfl rfl
  · have hRk6 : ∀ t, k6 = .ret t → some t = some r := fun t e => by rw [hX t e] at hm; exact hm
    have hm := hs
    refine cj_seq ?_
    refine cj_reg ?_
    refine lp rfl (p_idx Tryz.underlying67 ty30 rfl rfl (.ro 0 rfl) (getI_nat.trans hx3)) ?_
    refine lp rfl (p_lde (o := 0) ty30 rfl rfl (.ro 0 rfl) hx3 rfl) ?_
    refine lp rfl (p_as rfl) ?_
    refine lj_seq ?_
    refine cj_seq ?_
    refine cj_reg ?_
    refine lp rfl (p_mv rfl) ?_
    refine lp rfl (p_neq rfl rfl) ?_
    refine lj_seq ?_
    refine cj_if (b := x2 != 0) rfl (fun hb => ?_) (fun hb => ?_)
    · have hm := ifB_t hb hm
      refine cj_seq ?_
      refine cj_reg ?_
      refine lp rfl (p_mv rfl) ?_
      refine lp rfl (p_as rfl) ?_
      refine lj_seq ?_
      have hm := hRk6 _ (Option.some.inj hm).symm
      obtain rfl := Option.some.inj hm
      exact cj_rt () [] Tryz.results8 (.tmp rfl .nil) rfl rfl
    · have hm := ifB_f hb hm
      refine cj_skip ?_
      refine nj_blk ?_
      exact cnk6 _ _ () () (hJk6 _ (Option.some.inj hm).symm) ⟨rfl, rfl, rfl, rfl, trivial⟩ (fun _ h => h.picks [0] rfl)
theorem ok_gleekeep2_ready  {r : Bool} (hm : m_gleekeep2_ready  = some r) :
    Ctr Tryz.prog 6 [].toArray ([] : List Ent) [PowT] (X := Unit) (fun _ => .bool r) (fun _ => []) := by
  unfold m_gleekeep2_ready at hm
  refine ctr_mk (vs := []) Tryz.func6 rfl Tryz.ntmps6 rfl trivial (fun w0 A => ?_)
  refine cj_seq ?_
  refine cj_reg ?_
  refine lp rfl (p_as rfl) ?_
  refine lj_seq ?_
  refine cj_seq ?_
  refine cj_reg ?_
  refine lp rfl (p_bld [.int .i64 1, .int .i64 4, .int .i64 2, .int .i64 0, .bool true] rfl (fun _ => by kernel_rfl)) ?_
  refine r_bs R50 [(TBar.mk 1 4 2 0 true)] rfl rfl rfl (fun _ => by kernel_rfl) rfl (fun s1 => ?_)
  obtain ⟨y2, hy2, hm⟩ := bindS hm
  refine r_call [] cf15 rfl rfl (ok_piece_Order s1 [(TBar.mk 1 4 2 0 true)] hy2) rfl rfl (.cons (.row 0 rfl) .nil) (fun _ => rfl) rfl (fun s3 => ?_)
  refine lp rfl (p_mv rfl) ?_
  refine lp rfl (p_ext rfl rfl) ?_
  refine lp rfl (p_ext rfl rfl) ?_
  refine lp rfl (p_as rfl) ?_
  refine lp rfl (p_as rfl) ?_
  refine lj_seq ?_
  refine cj_seq ?_
  refine cj_reg ?_
  refine lp rfl (p_bld [.int .i64 1, .int .i64 2, .int .i64 1] rfl (fun _ => by kernel_rfl)) ?_
  obtain ⟨y4, hy4, hm⟩ := bindS hm
  refine r_call [] cf16 rfl rfl (ok_chord_Name (TChord.mk 1 2 1) hy4) rfl rfl (.cons (.ro 2 rfl) .nil) (fun _ => rfl) rfl (fun _ => ?_)
  refine lp rfl (p_mv rfl) ?_
  refine lp rfl (p_ext rfl rfl) ?_
  refine lp rfl (p_ext rfl rfl) ?_
  refine lp rfl (p_as rfl) ?_
  refine lp rfl (p_as rfl) ?_
  refine lj_seq ?_
  refine cj_seq ?_
  refine cj_reg ?_
  refine lp rfl (p_bld [.int .i64 5, .string (ByteArray.mk [97, 110, 110].toArray), .bool false] rfl (fun _ => by kernel_rfl)) ?_
  refine r_bs R59 [(TCame.mk 5 (ByteArray.mk [97, 110, 110].toArray) false)] rfl rfl rfl (fun _ => by kernel_rfl) rfl (fun s5 => ?_)
  obtain ⟨y6, hy6, hm⟩ := bindS hm
  refine r_call [] cf17 rfl rfl (ok_rehearse_There s5 [(TCame.mk 5 (ByteArray.mk [97, 110, 110].toArray) false)] 6 hy6) rfl rfl (.cons (.row 0 rfl) .nil) (fun _ => rfl) rfl (fun s7 => ?_)
  refine lp rfl (p_mv rfl) ?_
  refine lp rfl (p_ext rfl rfl) ?_
  refine lp rfl (p_ext rfl rfl) ?_
  refine lp rfl (p_as rfl) ?_
  refine lp rfl (p_as rfl) ?_
  refine lj_seq ?_
  refine cj_seq ?_
  refine cj_reg ?_
  refine r_bs R9 [(ByteArray.mk [97, 108, 116, 111].toArray)] rfl rfl rfl (fun _ => by kernel_rfl) rfl (fun s8 => ?_)
  refine lp rfl (p_bld [.string (ByteArray.mk [97].toArray), .string (ByteArray.mk [112].toArray), .int .i64 7, s8.v] rfl (fun _ => by kernel_rfl)) ?_
  refine r_fz 0 rfl ?_
  refine r_fact (F := Lk N43 [(TItem.mk (ByteArray.mk [97].toArray) (ByteArray.mk [112].toArray) 7 [(ByteArray.mk [97, 108, 116, 111].toArray)])] [((TItem.mk (ByteArray.mk [97].toArray) (ByteArray.mk [112].toArray) 7 [(ByteArray.mk [97, 108, 116, 111].toArray)]), s8)]) (.imp (.and (.ro 0 rfl) (.nilL N43)) (fun _ h => Lk.cons h.1 h.2)) ?_
  have hLs9 : (([((TItem.mk (ByteArray.mk [97].toArray) (ByteArray.mk [112].toArray) 7 [(ByteArray.mk [97, 108, 116, 111].toArray)]), s8)] : List (TItem × SV)).map Prod.fst) = ([(TItem.mk (ByteArray.mk [97].toArray) (ByteArray.mk [112].toArray) 7 [(ByteArray.mk [97, 108, 116, 111].toArray)])] : List TItem) := rfl
  refine r_bs N43.R [((TItem.mk (ByteArray.mk [97].toArray) (ByteArray.mk [112].toArray) 7 [(ByteArray.mk [97, 108, 116, 111].toArray)]), s8)] rfl rfl rfl (fun _ => by kernel_rfl) rfl (fun s9 => ?_)
  refine lp rfl (p_bld [s9.v, .int .i64 0, .int .i64 0, .int .i64 0, .int .i64 (-1)] rfl (fun _ => by kernel_rfl)) ?_
  obtain ⟨y10, hy10, hm⟩ := bindS hm
  refine r_call [] cf7 rfl rfl (ok_concert_Long (TProgram.mk [(TItem.mk (ByteArray.mk [97].toArray) (ByteArray.mk [112].toArray) 7 [(ByteArray.mk [97, 108, 116, 111].toArray)])] 0 0 0 (-1)) s9 [((TItem.mk (ByteArray.mk [97].toArray) (ByteArray.mk [112].toArray) 7 [(ByteArray.mk [97, 108, 116, 111].toArray)]), s8)] hy10) rfl rfl (.cons (.ro 1 rfl) (.cons (.row 0 rfl) .nil)) (fun _ => rfl) rfl (fun _ => ?_)
  refine lp rfl (p_mv rfl) ?_
  refine lp rfl (p_ext rfl rfl) ?_
  refine lp rfl (p_ext rfl rfl) ?_
  refine lp rfl (p_as rfl) ?_
  refine lp rfl (p_as rfl) ?_
  refine lj_seq ?_
  refine cj_seq ?_
  refine cj_reg ?_
  refine lp rfl (p_bld [.string (ByteArray.mk [97].toArray), .int .i64 1, .int .i64 0, .int .i64 1, .string (ByteArray.mk [97, 110, 110].toArray), .string ByteArray.empty, .int .i64 0, .bool false, .string ByteArray.empty, .int .i64 0] rfl (fun _ => by kernel_rfl)) ?_
  refine r_bs R63 [(TAct.mk (ByteArray.mk [97].toArray) 1 0 1 (ByteArray.mk [97, 110, 110].toArray) ByteArray.empty 0 false ByteArray.empty 0)] rfl rfl rfl (fun _ => by kernel_rfl) rfl (fun s11 => ?_)
  obtain ⟨y12, hy12, hm⟩ := bindS hm
  refine r_call [] cf18 rfl rfl (ok_club_Members s11 [(TAct.mk (ByteArray.mk [97].toArray) 1 0 1 (ByteArray.mk [97, 110, 110].toArray) ByteArray.empty 0 false ByteArray.empty 0)] 0 hy12) rfl rfl (.cons (.row 0 rfl) .nil) (fun _ => rfl) rfl (fun s13 => ?_)
  refine lp rfl (p_mv rfl) ?_
  refine lp rfl (p_ext rfl rfl) ?_
  refine lp rfl (p_ext rfl rfl) ?_
  refine lp rfl (p_as rfl) ?_
  refine lp rfl (p_as rfl) ?_
  refine lj_seq ?_
  refine cj_seq ?_
  refine cj_reg ?_
  refine lp rfl (p_mv rfl) ?_
  refine lp rfl (p_mv rfl) ?_
  refine lp rfl (p_mv rfl) ?_
  refine lp rfl (p_mv rfl) ?_
  refine lp rfl (p_mv rfl) ?_
  refine r_bs R30 [y2.2, y4.2, y6.2, y10.2, y12.2] rfl rfl rfl (fun _ => by kernel_rfl) rfl (fun s14 => ?_)
  obtain ⟨y15, hy15, hm⟩ := bindS hm
  refine r_call [] cf8 rfl rfl (ok_gleekeep2_errs s14 [y2.2, y4.2, y6.2, y10.2, y12.2] hy15) rfl rfl (.cons (.row 0 rfl) .nil) (fun _ => rfl) rfl (fun _ => ?_)
  refine lp rfl (p_eql rfl rfl) ?_
  refine lp rfl (p_mv rfl) ?_
  refine lcase (i := 50) (y15 == 0) rfl (fun hb => ?_) (fun hb => ?_)
  · have hm := ifB_t hb hm
    refine lg true rfl rfl rfl ?_
    refine lp rfl (p_mv rfl) ?_
    refine lg true rfl rfl rfl ?_
    refine lp rfl (p_len Tryz.underlying22 rfl (.row 8 rfl)) ?_
    refine lg true rfl rfl rfl ?_
    refine lp rfl (p_eql rfl rfl) ?_
    refine lp rfl (p_pkt rfl rfl) ?_
    refine lp rfl (p_mv rfl) ?_
    refine lcase (i := 55) ((y2.1.length : Int) == 2) rfl (fun hb => ?_) (fun hb => ?_)
    · have hm := ifB_t hb hm
      refine lg true rfl rfl rfl ?_
      refine lp rfl (p_mv rfl) ?_
      refine lg true rfl rfl rfl ?_
      refine lp rfl (p_eqs rfl rfl) ?_
      refine lp rfl (p_pkt rfl rfl) ?_
      refine lp rfl (p_mv rfl) ?_
      refine lcase (i := 59) (y4.1.toList == (ByteArray.mk [99, 35, 32, 109, 105, 110, 47, 49].toArray).toList) rfl (fun hb => ?_) (fun hb => ?_)
      · have hm := ifB_t hb hm
        refine lg true rfl rfl rfl ?_
        refine lp rfl (p_mv rfl) ?_
        refine lg true rfl rfl rfl ?_
        refine lp rfl (p_len Tryz.underlying39 rfl (.row 6 rfl)) ?_
        refine lg true rfl rfl rfl ?_
        refine lp rfl (p_eql rfl rfl) ?_
        refine lp rfl (p_pkt rfl rfl) ?_
        refine lp rfl (p_mv rfl) ?_
        refine lcase (i := 64) ((y6.1.length : Int) == 1) rfl (fun hb => ?_) (fun hb => ?_)
        · have hm := ifB_t hb hm
          refine lg true rfl rfl rfl ?_
          refine lp rfl (p_mv rfl) ?_
          refine lg true rfl rfl rfl ?_
          refine lp rfl (p_eql rfl rfl) ?_
          refine lp rfl (p_pkt rfl rfl) ?_
          refine lp rfl (p_mv rfl) ?_
          refine lcase (i := 68) (y10.1 == 7) rfl (fun hb => ?_) (fun hb => ?_)
          · have hm := ifB_t hb hm
            refine lg true rfl rfl rfl ?_
            refine lp rfl (p_mv rfl) ?_
            refine lg true rfl rfl rfl ?_
            refine lp rfl (p_len Tryz.underlying39 rfl (.row 1 rfl)) ?_
            refine lg true rfl rfl rfl ?_
            refine lp rfl (p_eql rfl rfl) ?_
            refine lp rfl (p_pkt rfl rfl) ?_
            refine lp rfl (p_as rfl) ?_
            refine lj_seq ?_
            obtain rfl := Option.some.inj hm
            exact cj_rt () [] Tryz.results6 (.tmp rfl .nil) rfl rfl
          · have hm := ifB_f hb hm
            refine ls true rfl rfl rfl rfl ?_
            refine ls true rfl rfl rfl rfl ?_
            refine ls true rfl rfl rfl rfl ?_
            refine lp rfl (p_pkf rfl rfl) ?_
            refine lp rfl (p_as rfl) ?_
            refine lj_seq ?_
            obtain rfl := Option.some.inj hm
            exact cj_rt () [] Tryz.results6 (.tmp rfl .nil) rfl rfl
        · have hm := ifB_f hb hm
          refine ls true rfl rfl rfl rfl ?_
          refine ls true rfl rfl rfl rfl ?_
          refine lp rfl (p_pkf rfl rfl) ?_
          refine lp rfl (p_mv rfl) ?_
          refine ls true rfl rfl rfl rfl ?_
          refine ls true rfl rfl rfl rfl ?_
          refine ls true rfl rfl rfl rfl ?_
          refine lp rfl (p_pkf rfl rfl) ?_
          refine lp rfl (p_as rfl) ?_
          refine lj_seq ?_
          obtain rfl := Option.some.inj hm
          exact cj_rt () [] Tryz.results6 (.tmp rfl .nil) rfl rfl
      · have hm := ifB_f hb hm
        refine ls true rfl rfl rfl rfl ?_
        refine ls true rfl rfl rfl rfl ?_
        refine ls true rfl rfl rfl rfl ?_
        refine lp rfl (p_pkf rfl rfl) ?_
        refine lp rfl (p_mv rfl) ?_
        refine ls true rfl rfl rfl rfl ?_
        refine ls true rfl rfl rfl rfl ?_
        refine lp rfl (p_pkf rfl rfl) ?_
        refine lp rfl (p_mv rfl) ?_
        refine ls true rfl rfl rfl rfl ?_
        refine ls true rfl rfl rfl rfl ?_
        refine ls true rfl rfl rfl rfl ?_
        refine lp rfl (p_pkf rfl rfl) ?_
        refine lp rfl (p_as rfl) ?_
        refine lj_seq ?_
        obtain rfl := Option.some.inj hm
        exact cj_rt () [] Tryz.results6 (.tmp rfl .nil) rfl rfl
    · have hm := ifB_f hb hm
      refine ls true rfl rfl rfl rfl ?_
      refine ls true rfl rfl rfl rfl ?_
      refine lp rfl (p_pkf rfl rfl) ?_
      refine lp rfl (p_mv rfl) ?_
      refine ls true rfl rfl rfl rfl ?_
      refine ls true rfl rfl rfl rfl ?_
      refine ls true rfl rfl rfl rfl ?_
      refine lp rfl (p_pkf rfl rfl) ?_
      refine lp rfl (p_mv rfl) ?_
      refine ls true rfl rfl rfl rfl ?_
      refine ls true rfl rfl rfl rfl ?_
      refine lp rfl (p_pkf rfl rfl) ?_
      refine lp rfl (p_mv rfl) ?_
      refine ls true rfl rfl rfl rfl ?_
      refine ls true rfl rfl rfl rfl ?_
      refine ls true rfl rfl rfl rfl ?_
      refine lp rfl (p_pkf rfl rfl) ?_
      refine lp rfl (p_as rfl) ?_
      refine lj_seq ?_
      obtain rfl := Option.some.inj hm
      exact cj_rt () [] Tryz.results6 (.tmp rfl .nil) rfl rfl
  · have hm := ifB_f hb hm
    refine ls true rfl rfl rfl rfl ?_
    refine ls true rfl rfl rfl rfl ?_
    refine ls true rfl rfl rfl rfl ?_
    refine lp rfl (p_pkf rfl rfl) ?_
    refine lp rfl (p_mv rfl) ?_
    refine ls true rfl rfl rfl rfl ?_
    refine ls true rfl rfl rfl rfl ?_
    refine lp rfl (p_pkf rfl rfl) ?_
    refine lp rfl (p_mv rfl) ?_
    refine ls true rfl rfl rfl rfl ?_
    refine ls true rfl rfl rfl rfl ?_
    refine ls true rfl rfl rfl rfl ?_
    refine lp rfl (p_pkf rfl rfl) ?_
    refine lp rfl (p_mv rfl) ?_
    refine ls true rfl rfl rfl rfl ?_
    refine ls true rfl rfl rfl rfl ?_
    refine lp rfl (p_pkf rfl rfl) ?_
    refine lp rfl (p_mv rfl) ?_
    refine ls true rfl rfl rfl rfl ?_
    refine ls true rfl rfl rfl rfl ?_
    refine ls true rfl rfl rfl rfl ?_
    refine lp rfl (p_pkf rfl rfl) ?_
    refine lp rfl (p_as rfl) ?_
    refine lj_seq ?_
    obtain rfl := Option.some.inj hm
    exact cj_rt () [] Tryz.results6 (.tmp rfl .nil) rfl rfl
theorem ok_gleekeep2_HalvesAreEven (s0_ : SV) (a0 : (List Int)) {r : Bool} (hm : m_gleekeep2_HalvesAreEven a0 = some r) :
    Ctr Tryz.prog 3 [s0_.v].toArray ([] : List Ent) [RdS R3 (SV.v s0_) a0, PowT] (X := Unit) (fun _ => .bool r) (fun _ => []) := by
  unfold m_gleekeep2_HalvesAreEven at hm
  refine ctr_mk (vs := [(0, s0_.v)]) Tryz.func3 rfl Tryz.ntmps3 rfl ⟨rfl, trivial⟩ (fun w0 A => ?_)
  refine cj_seq ?_
  refine cj_reg ?_
  refine lp rfl (p_as rfl) ?_
  refine lj_seq ?_
  refine cj_seq ?_
  refine cj_reg ?_
  refine lp rfl (p_mv rfl) ?_
  refine lp rfl (p_bld [s0_.v, .int .i64 0] rfl (fun _ => by kernel_rfl)) ?_
  refine r_bx (cs := [s0_.v, .int .i64 0]) rfl rfl rfl (fun b1 => ?_)
  refine lp rfl (p_as rfl) ?_
  refine lj_seq ?_
  refine cj_seq ?_
  refine cj_reg ?_
  refine lp rfl (p_mv rfl) ?_
  obtain ⟨y2, hy2, hm⟩ := bindS hm
  refine r_callN [0] cf4 rfl rfl (ok_gleemake_Stream_RightProgram b1 s0_ a0 0 5 hy2) rfl rfl (.cons (.ro 0 rfl) .nil) rfl (fun ⟨s3, xg4⟩ => ?_)
  refine r_pure (F := Lk N43 y2.1.Items xg4) (.ro 1 rfl) (fun _ h => h.1) (fun hLs3 => ?_)
  refine r_al ty28 rfl (fun b5 => ?_)
  refine r_sb (vs := [s3.v, .int .i64 y2.1.Change, .int .i64 y2.1.Clap, .int .i64 y2.1.Break, .int .i64 y2.1.Half]) (j := 0) ty28 rfl rfl rfl rfl rfl rfl rfl ?_
  refine lj_seq ?_
  refine cj_seq ?_
  refine cj_reg ?_
  refine lp rfl (p_lbw ty28 rfl (j := 0) rfl rfl) ?_
  obtain ⟨y6, hy6, hm⟩ := bindS hm
  refine r_call [] cf5 rfl rfl (ok_concert_Half y2.1 s3 xg4 hy6) rfl rfl (.cons (.ro 2 rfl) (.cons (.row 1 rfl) .nil)) (fun _ => rfl) rfl (fun _ => ?_)
  refine lp rfl (p_mv rfl) ?_
  refine lp rfl (p_ext rfl rfl) ?_
  refine lp rfl (p_ext rfl rfl) ?_
  refine lp rfl (p_ext rfl rfl) ?_
  refine lp rfl (p_as rfl) ?_
  refine lp rfl (p_as rfl) ?_
  refine lp rfl (p_as rfl) ?_
  refine lj_seq ?_
  refine cj_seq ?_
  refine cj_seq ?_
  refine cj_reg ?_
  refine lp rfl (p_fab fl28_0 rfl) ?_
  refine lp rfl (p_lbs ty26 rfl (j := 0) rfl rfl) ?_
  refine lp rfl (p_lenG hLs3 Tryz.underlying26 rfl (.row 1 rfl)) ?_
  refine lp rfl (p_lss rfl rfl) ?_
  refine lj_seq ?_
  refine cj_if (b := decide ((y2.1.Items.length : Int) < 2)) rfl (fun hb => ?_) (fun hb => ?_)
  · have hm := ifB_t hb hm
    refine cj_seq ?_
    refine cj_reg ?_
    obtain ⟨k9, hk9, hm⟩ := bindS hm
    have hRk9 : ∀ t, k9 = .inr t → some t = some r := fun t e => by rw [e] at hm; exact hm
    refine lj_join (σ := Bool) (γ := Unit) (fun u7 => k9 = .inl u7) (fun u7 g8 => [(2, .bool u7), (4, .pointer (some ⟨b5, 0, none⟩)), (5, .int .i64 y6.1), (6, .int .i64 y6.2.1), (7, .int .i64 y6.2.2)]) (fun u7 g8 => Sat w0 (keys ([] : List Ent)) A [.box b5 28 [s3.v, .int .i64 y2.1.Change, .int .i64 y2.1.Clap, .int .i64 y2.1.Break, .int .i64 y2.1.Half], .row N43.R (SV.v s3) xg4, .ro (Lk N43 y2.1.Items xg4), .ro PowT]) (fun u7 g8 hq => ?_) (fun J cnk9 => ?_)
    · have hm := Sum.fin_l hq hm
      obtain rfl := Option.some.inj hm
      exact cj_rt () [] Tryz.results3 (.tmp rfl .nil) rfl rfl
    · have hm := hk9
      refine lp rfl (p_mv rfl) ?_
      refine lp rfl (p_eql rfl rfl) ?_
      refine lp rfl (p_mv rfl) ?_
      refine lcase (i := 33) (y6.2.2 == 8) rfl (fun hb => ?_) (fun hb => ?_)
      · have hm := ifB_t hb hm
        refine lg true rfl rfl rfl ?_
        obtain ⟨y10, hy10, hm⟩ := bindS hm
        refine r_call [] cf6 rfl rfl (ok_gleekeep2_ready  hy10) rfl rfl (.cons (.ro 5 rfl) .nil) (fun _ => rfl) rfl (fun _ => ?_)
        refine lp rfl (p_pkt rfl rfl) ?_
        refine lp rfl (p_as rfl) ?_
        refine lj_nil ?_
        exact cnk9 _ _ y10 () (Option.some.inj hm).symm ⟨rfl, rfl, rfl, rfl, rfl, trivial⟩ (fun _ h => h.picks [0, 0, 0, 2] rfl)
      · have hm := ifB_f hb hm
        refine ls true rfl rfl rfl rfl ?_
        refine lp rfl (p_pkf rfl rfl) ?_
        refine lp rfl (p_as rfl) ?_
        refine lj_nil ?_
        exact cnk9 _ _ false () (Option.some.inj hm).symm ⟨rfl, rfl, rfl, rfl, rfl, trivial⟩ (fun _ h => h.picks [0, 0, 0, 2] rfl)
  · have hm := ifB_f hb hm
    refine cj_skip ?_
    refine nj_seq ?_
    refine cj_seq ?_
    refine cj_seq ?_
    refine cj_reg ?_
    obtain ⟨k13, hk13, hm⟩ := bindS hm
    have hRk13 : ∀ t, k13 = .inr t → some t = some r := fun t e => by rw [e] at hm; exact hm
    refine lj_join (σ := Bool) (γ := Unit) (fun u11 => k13 = .inl u11) (fun u11 g12 => [(2, .bool false), (4, .pointer (some ⟨b5, 0, none⟩)), (5, .int .i64 y6.1), (6, .int .i64 y6.2.1), (49, .bool u11)]) (fun u11 g12 => Sat w0 (keys ([] : List Ent)) A [.box b5 28 [s3.v, .int .i64 y2.1.Change, .int .i64 y2.1.Clap, .int .i64 y2.1.Break, .int .i64 y2.1.Half], .row N43.R (SV.v s3) xg4, .ro (Lk N43 y2.1.Items xg4), .ro PowT]) (fun u11 g12 hq => ?_) (fun J cnk13 => ?_)
    · have hm := Sum.fin_l hq hm
      refine cj_if (b := u11) rfl (fun hb => ?_) (fun hb => ?_)
      · have hm := ifB_t hb hm
        refine cj_seq ?_
        refine cj_reg ?_
        refine lp rfl (p_as rfl) ?_
        refine lj_seq ?_
        obtain rfl := Option.some.inj hm
        exact cj_rt () [] Tryz.results3 (.tmp rfl .nil) rfl rfl
      · have hm := ifB_f hb hm
        refine cj_skip ?_
        refine nj_seq ?_
        refine cj_seq ?_
        refine cj_seq ?_
        refine cj_reg ?_
        refine lp rfl (p_as rfl) ?_
        refine lj_seq ?_
        obtain ⟨f17, hf17, hm⟩ := bindS hm
        refine cj_whileA (γ := Unit) hf17 () (fun u14 g15 => [(2, .bool false), (4, .pointer (some ⟨b5, 0, none⟩)), (5, .int .i64 y6.1), (6, .int .i64 y6.2.1), (8, .int .i64 u14)]) (fun u14 g15 => Sat w0 (keys ([] : List Ent)) A [.box b5 28 [s3.v, .int .i64 y2.1.Change, .int .i64 y2.1.Clap, .int .i64 y2.1.Break, .int .i64 y2.1.Half], .row N43.R (SV.v s3) xg4, .ro (Lk N43 y2.1.Items xg4), .ro PowT]) ⟨rfl, rfl, rfl, rfl, rfl, trivial⟩ (fun _ h => h.picks [0, 0, 0, 0] rfl) (fun u14 g15 e => ?_) (fun aftk16 u14 g15 k16 hs J hJk16 hBk16 hX I cnk16 => ?_)
        · have hm := Flow.fin_b e hm
          refine nj_seq ?_
          refine cj_seq ?_
          refine cj_reg ?_
          obtain ⟨y45, hy45, hm⟩ := bindS hm
          refine r_call [] cf6 rfl rfl (ok_gleekeep2_ready  hy45) rfl rfl (.cons (.ro 3 rfl) .nil) (fun _ => rfl) rfl (fun _ => ?_)
          refine lp rfl (p_as rfl) ?_
          refine lj_seq ?_
          obtain rfl := Option.some.inj hm
          exact cj_rt () [] Tryz.results3 (.tmp rfl .nil) rfl rfl
        · have hRk16 : ∀ t, k16 = .ret t → some t = some r := fun t e => by rw [hX t e] at hm; exact hm
          have hm := hs
          refine cj_seq ?_
          refine cj_seq ?_
          refine cj_reg ?_
          refine lp rfl (p_mv rfl) ?_
          refine lp rfl (p_add rfl rfl) ?_
          refine lp rfl (p_fab fl28_0 rfl) ?_
          refine lp rfl (p_lbs ty26 rfl (j := 0) rfl rfl) ?_
          refine lp rfl (p_lenG hLs3 Tryz.underlying26 rfl (.row 1 rfl)) ?_
          refine lp rfl (p_lss rfl rfl) ?_
          refine lj_seq ?_
          refine cj_if (b := decide ((w64 (u14 + 1)) < (y2.1.Items.length : Int))) rfl (fun hb => ?_) (fun hb => ?_)
          · have hm := ifB_t hb hm
            refine cj_skip ?_
            refine nj_seq ?_
            refine cj_seq ?_
            refine cj_blk ?_
            refine cj_seq ?_
            obtain ⟨k22, hk22, hm⟩ := bindS hm
            have hRk22 : ∀ t, k22 = .inr t → some t = some k16 := fun t e => by rw [e] at hm; exact hm
            refine cj_joinK (σ := Unit) (γ := (Nat × Nat)) (fun u18 => k22 = .inl u18) (fun u18 g19 => [(2, .bool false), (4, .pointer (some ⟨b5, 0, none⟩)), (5, .int .i64 y6.1), (6, .int .i64 y6.2.1), (8, .int .i64 u14), (9, .pointer (some ⟨g19.1, 0, none⟩)), (10, .pointer (some ⟨g19.2, 0, none⟩))]) (fun u18 g19 => Sat w0 (keys ([] : List Ent)) A [.box b5 28 [s3.v, .int .i64 y2.1.Change, .int .i64 y2.1.Clap, .int .i64 y2.1.Break, .int .i64 y2.1.Half], .row N43.R (SV.v s3) xg4, .ro (Lk N43 y2.1.Items xg4), .ro PowT, .box g19.1 28 [s3.v, .int .i64 y2.1.Change, .int .i64 y2.1.Clap, .int .i64 y2.1.Break, .int .i64 y2.1.Half], .box g19.2 28 [s3.v, .int .i64 y2.1.Change, .int .i64 y2.1.Clap, .int .i64 y2.1.Break, .int .i64 y2.1.Half]]) (fun u18 g19 hq => ?_) (fun J cnk22 => ?_)
            · have hm := Sum.fin_l hq hm
              refine cj_seq ?_
              obtain ⟨q29, hq29, hm⟩ := bindS hm
              obtain ⟨q29G, hq29G, hLq29, hsq29⟩ := lk_cut hLs3 hq29
              obtain ⟨q30, hq30, hm⟩ := bindS hm
              obtain ⟨q30G, hq30G, hLq30, hsq30⟩ := lk_cut hLs3 hq30
              refine cj_anyT [0, 1, 2, 3, 4, 5, 6, 7, 8, 9, 10, 11, 12, 14, 16, 18] [13, 14, 15, 16, 17, 18, 19] (Sat w0 (keys ([] : List Ent)) A [.box b5 28 [s3.v, .int .i64 y2.1.Change, .int .i64 y2.1.Clap, .int .i64 y2.1.Break, .int .i64 y2.1.Half], .row N43.R (SV.v s3) xg4, .ro (Lk N43 y2.1.Items xg4), .ro PowT, .box g19.1 28 [s3.v, .int .i64 y2.1.Change, .int .i64 y2.1.Clap, .int .i64 y2.1.Break, .int .i64 y2.1.Half], .box g19.2 28 [s3.v, .int .i64 y2.1.Change, .int .i64 y2.1.Clap, .int .i64 y2.1.Break, .int .i64 y2.1.Half]]) (Sat w0 (keys ([] : List Ent)) A [.box b5 28 [s3.v, .int .i64 y2.1.Change, .int .i64 y2.1.Clap, .int .i64 y2.1.Break, .int .i64 y2.1.Half], .row N43.R (SV.v s3) xg4, .ro (Lk N43 y2.1.Items xg4), .ro PowT]) (by kernel_rfl) ?_
              refine at_take2 0 rfl (by kernel_rfl) (by kernel_rfl) (by kernel_rfl) (fun _ h => h.picks [0, 0, 0, 0] rfl) rfl rfl (p_fab fl28_0 rfl) (fun _ h => h.picks [0, 0, 0, 0] rfl) ?_
              refine at_take2 1 rfl (by kernel_rfl) (by kernel_rfl) (by kernel_rfl) (fun _ h => h.picks [0, 0, 0, 0] rfl) rfl rfl (p_lbs ty26 rfl (j := 0) rfl rfl) (fun _ h => h.picks [0, 0, 0, 0] rfl) ?_
              refine at_take2 2 rfl (by kernel_rfl) (by kernel_rfl) (by kernel_rfl) (fun _ h => h.picks [0, 0, 0, 0] rfl) rfl rfl (p_mv rfl) (fun _ h => h.picks [0, 0, 0, 0] rfl) ?_
              refine at_take2 3 rfl (by kernel_rfl) (by kernel_rfl) (by kernel_rfl) (fun _ h => h.picks [0, 0, 0, 0] rfl) rfl rfl (p_add rfl rfl) (fun _ h => h.picks [0, 0, 0, 0] rfl) ?_
              refine at_take2 4 rfl (by kernel_rfl) (by kernel_rfl) (by kernel_rfl) (fun _ h => h.picks [0, 0, 0, 0] rfl) rfl rfl (p_mv rfl) (fun _ h => h.picks [0, 0, 0, 0] rfl) ?_
              refine at_take2 5 rfl (by kernel_rfl) (by kernel_rfl) (by kernel_rfl) (fun _ h => h.picks [0, 0, 0, 0] rfl) rfl rfl (p_add rfl rfl) (fun _ h => h.picks [0, 0, 0, 0] rfl) ?_
              refine at_take2 6 rfl (by kernel_rfl) (by kernel_rfl) (by kernel_rfl) (fun _ h => h.picks [0, 0, 0, 0] rfl) rfl rfl (p_cutB Tryz.underlying26 ty43 rfl rfl rfl rfl rfl (.row 1 rfl) rfl hq29G) (fun _ h => h.picks [0, 0, 0, 0] rfl) ?_
              refine at_take2 7 rfl (by kernel_rfl) (by kernel_rfl) (by kernel_rfl) (fun _ h => h.picks [0, 0, 0, 0] rfl) rfl rfl (p_fab fl28_0 rfl) (fun _ h => h.picks [0, 0, 0, 0] rfl) ?_
              refine at_take2 8 rfl (by kernel_rfl) (by kernel_rfl) (by kernel_rfl) (fun _ h => h.picks [0, 0, 0, 0] rfl) rfl rfl (p_lbs ty26 rfl (j := 0) rfl rfl) (fun _ h => h.picks [0, 0, 0, 0] rfl) ?_
              refine at_take2 9 rfl (by kernel_rfl) (by kernel_rfl) (by kernel_rfl) (fun _ h => h.picks [0, 0, 0, 0] rfl) rfl rfl (p_mv rfl) (fun _ h => h.picks [0, 0, 0, 0] rfl) ?_
              refine at_take2 10 rfl (by kernel_rfl) (by kernel_rfl) (by kernel_rfl) (fun _ h => h.picks [0, 0, 0, 0] rfl) rfl rfl (p_add rfl rfl) (fun _ h => h.picks [0, 0, 0, 0] rfl) ?_
              refine at_take2 11 rfl (by kernel_rfl) (by kernel_rfl) (by kernel_rfl) (fun _ h => h.picks [0, 0, 0, 0] rfl) rfl rfl (p_cut Tryz.underlying26 ty43 rfl rfl rfl rfl rfl (.row 1 rfl) rfl (congrArg Int.ofNat (lk_len hLs3)) hq30G) (fun _ h => h.picks [0, 0, 0, 0] rfl) ?_
              refine at_take2 12 rfl (by kernel_rfl) (by kernel_rfl) (by kernel_rfl) (fun _ h => h.picks [0, 0, 0, 0] rfl) rfl rfl (p_fab fl28_0 rfl) (fun _ h => h.picks [0, 0, 0, 0] rfl) ?_
              refine at_each (rs := [13]) (by kernel_rfl) (by decide) ?_
              refine (.cons rfl (fun I cnI => ?_) .nil)
              · refine r_sb (vs := [((s3.lim (w64 (u14 + 1)).toNat).sub N43.R.sz (0 : Int).toNat (w64 (u14 + 1)).toNat).v]) (j := 4) ty26 rfl rfl rfl rfl rfl rfl rfl ?_
                refine lj_nil ?_
                refine cnI _ _ (sof2 rfl rfl (fun _ h => h.picks [0, 0, 0, 0] rfl)) ?_
                refine at_take2 14 rfl (by kernel_rfl) (by kernel_rfl) (by kernel_rfl) (fun _ h => h.picks [0, 0, 0, 0] rfl) rfl rfl (p_fab fl28_0 rfl) (fun _ h => h.picks [0, 0, 0, 0] rfl) ?_
                refine at_each (rs := [15]) (by kernel_rfl) (by decide) ?_
                refine (.cons rfl (fun I cnI => ?_) .nil)
                · refine r_sb (vs := [(s3.sub N43.R.sz (w64 (u14 + 1)).toNat (y2.1.Items.length : Int).toNat).v]) (j := 5) ty26 rfl rfl rfl rfl rfl rfl rfl ?_
                  refine lj_nil ?_
                  refine cnI _ _ (sof2 rfl rfl (fun _ h => h.picks [0, 0, 0, 0] rfl)) ?_
                  refine at_take2 16 rfl (by kernel_rfl) (by kernel_rfl) (by kernel_rfl) (fun _ h => h.picks [0, 0, 0, 0] rfl) rfl rfl (p_fab fl28_4 rfl) (fun _ h => h.picks [0, 0, 0, 0] rfl) ?_
                  refine at_each (rs := [17]) (by kernel_rfl) (by decide) ?_
                  refine (.cons rfl (fun I cnI => ?_) .nil)
                  · refine r_sb (vs := [.int .i64 (-1)]) (j := 4) ty3 rfl rfl rfl rfl rfl rfl rfl ?_
                    refine lj_nil ?_
                    refine cnI _ _ (sof2 rfl rfl (fun _ h => h.picks [0, 0, 0, 0] rfl)) ?_
                    refine at_take2 18 rfl (by kernel_rfl) (by kernel_rfl) (by kernel_rfl) (fun _ h => h.picks [0, 0, 0, 0] rfl) rfl rfl (p_fab fl28_4 rfl) (fun _ h => h.picks [0, 0, 0, 0] rfl) ?_
                    refine at_each (rs := [19]) (by kernel_rfl) (by decide) ?_
                    refine (.cons rfl (fun I cnI => ?_) .nil)
                    · refine r_sb (vs := [.int .i64 (-1)]) (j := 5) ty3 rfl rfl rfl rfl rfl rfl rfl ?_
                      refine lj_nil ?_
                      refine cnI _ _ (sof2 rfl rfl (fun _ h => h.picks [0, 0, 0, 0] rfl)) ?_
                      refine at_done (by kernel_rfl) ?_
                      refine nj_seq ?_
                      refine cj_seq ?_
                      refine cj_reg ?_
                      refine lp rfl (p_lbw ty28 rfl (j := 4) rfl rfl) ?_
                      obtain ⟨y38, hy38, hm⟩ := bindS hm
                      refine r_call [] cf7 rfl rfl (ok_concert_Long (TProgram.mk q29 y2.1.Change y2.1.Clap y2.1.Break (-1)) ((s3.lim (w64 (u14 + 1)).toNat).sub N43.R.sz (0 : Int).toNat (w64 (u14 + 1)).toNat) q29G hy38) rfl rfl (.cons (.imp (.ro 2 rfl) (fun _ h => Lk.sub h hLq29 hsq29)) (.cons (.imp (.row 1 rfl) (fun _ h => h.cutB hq29G)) .nil)) (fun _ => rfl) rfl (fun _ => ?_)
                      refine lp rfl (p_mv rfl) ?_
                      refine lp rfl (p_ext rfl rfl) ?_
                      refine lp rfl (p_ext rfl rfl) ?_
                      refine lp rfl (p_as rfl) ?_
                      refine lp rfl (p_as rfl) ?_
                      refine lj_seq ?_
                      refine cj_seq ?_
                      refine cj_reg ?_
                      refine lp rfl (p_lbw ty28 rfl (j := 5) rfl rfl) ?_
                      obtain ⟨y39, hy39, hm⟩ := bindS hm
                      refine r_call [] cf7 rfl rfl (ok_concert_Long (TProgram.mk q30 y2.1.Change y2.1.Clap y2.1.Break (-1)) (s3.sub N43.R.sz (w64 (u14 + 1)).toNat (y2.1.Items.length : Int).toNat) q30G hy39) rfl rfl (.cons (.imp (.ro 2 rfl) (fun _ h => Lk.sub h hLq30 hsq30)) (.cons (.imp (.row 1 rfl) (fun _ h => h.cut hq30G)) .nil)) (fun _ => rfl) rfl (fun _ => ?_)
                      refine lp rfl (p_mv rfl) ?_
                      refine lp rfl (p_ext rfl rfl) ?_
                      refine lp rfl (p_ext rfl rfl) ?_
                      refine lp rfl (p_as rfl) ?_
                      refine lp rfl (p_as rfl) ?_
                      refine lj_seq ?_
                      refine cj_seq ?_
                      refine cj_reg ?_
                      refine lp rfl (p_mv rfl) ?_
                      refine lp rfl (p_mv rfl) ?_
                      refine lp rfl (p_sub rfl rfl) ?_
                      refine lp rfl (p_mv rfl) ?_
                      refine lp rfl (p_mv rfl) ?_
                      refine lp rfl (p_sub rfl rfl) ?_
                      refine lp rfl (p_max rfl rfl) ?_
                      refine lp rfl (p_as rfl) ?_
                      refine lj_seq ?_
                      refine cj_seq ?_
                      refine cj_reg ?_
                      obtain ⟨k42, hk42, hm⟩ := bindS hm
                      have hRk42 : ∀ t, k42 = .inr t → some t = some k16 := fun t e => by rw [e] at hm; exact hm
                      refine lj_join (σ := Bool) (γ := Unit) (fun u40 => k42 = .inl u40) (fun u40 g41 => [(2, .bool false), (4, .pointer (some ⟨b5, 0, none⟩)), (5, .int .i64 y6.1), (6, .int .i64 y6.2.1), (8, .int .i64 u14), (122, .bool u40)]) (fun u40 g41 => Sat w0 (keys ([] : List Ent)) A [.box b5 28 [s3.v, .int .i64 y2.1.Change, .int .i64 y2.1.Clap, .int .i64 y2.1.Break, .int .i64 y2.1.Half], .row N43.R (SV.v s3) xg4, .ro (Lk N43 y2.1.Items xg4), .ro PowT]) (fun u40 g41 hq => ?_) (fun J cnk42 => ?_)
                      · have hm := Sum.fin_l hq hm
                        refine cj_if (b := u40) rfl (fun hb => ?_) (fun hb => ?_)
                        · have hm := ifB_t hb hm
                          refine cj_seq ?_
                          refine cj_reg ?_
                          refine lp rfl (p_as rfl) ?_
                          refine lj_seq ?_
                          have hm := hRk16 _ (Option.some.inj hm).symm
                          obtain rfl := Option.some.inj hm
                          exact cj_rt () [] Tryz.results3 (.tmp rfl .nil) rfl rfl
                        · have hm := ifB_f hb hm
                          refine cj_skip ?_
                          refine nj_blk ?_
                          refine nj_seq ?_
                          refine cj_reg ?_
                          refine lp rfl (p_mv rfl) ?_
                          refine lp rfl (p_add rfl rfl) ?_
                          refine lp rfl (p_as rfl) ?_
                          refine lj_nil ?_
                          exact cnk16 _ _ (w64 (u14 + 1)) () (hJk16 _ (Option.some.inj hm).symm) ⟨rfl, rfl, rfl, rfl, rfl, trivial⟩ (fun _ h => h.picks [0, 0, 0, 0] rfl)
                      · have hm := hk42
                        refine lp rfl (p_mv rfl) ?_
                        refine lp rfl (p_mv rfl) ?_
                        refine r_bs R30 [y38.2, y39.2] rfl rfl rfl (fun _ => by kernel_rfl) rfl (fun s43 => ?_)
                        obtain ⟨y44, hy44, hm⟩ := bindS hm
                        refine r_call [] cf8 rfl rfl (ok_gleekeep2_errs s43 [y38.2, y39.2] hy44) rfl rfl (.cons (.row 0 rfl) .nil) (fun _ => rfl) rfl (fun _ => ?_)
                        refine lp rfl (p_neq rfl rfl) ?_
                        refine lp rfl (p_mv rfl) ?_
                        refine lcase (i := 98) (y44 != 0) rfl (fun hb => ?_) (fun hb => ?_)
                        · have hm := ifB_t hb hm
                          refine ls false rfl rfl rfl rfl ?_
                          refine ls false rfl rfl rfl rfl ?_
                          refine ls false rfl rfl rfl rfl ?_
                          refine lp rfl (p_pkt rfl rfl) ?_
                          refine lp rfl (p_mv rfl) ?_
                          refine ls false rfl rfl rfl rfl ?_
                          refine ls false rfl rfl rfl rfl ?_
                          refine ls false rfl rfl rfl rfl ?_
                          refine ls false rfl rfl rfl rfl ?_
                          refine lsu rfl rfl rfl rfl ?_
                          refine lsu rfl rfl rfl rfl ?_
                          refine lsu rfl rfl rfl rfl ?_
                          refine ls false rfl rfl rfl rfl ?_
                          refine lp rfl (p_pkt rfl rfl) ?_
                          refine lp rfl (p_mv rfl) ?_
                          refine ls false rfl rfl rfl rfl ?_
                          refine ls false rfl rfl rfl rfl ?_
                          refine ls false rfl rfl rfl rfl ?_
                          refine ls false rfl rfl rfl rfl ?_
                          refine lsu rfl rfl rfl rfl ?_
                          refine lsu rfl rfl rfl rfl ?_
                          refine lsu rfl rfl rfl rfl ?_
                          refine ls false rfl rfl rfl rfl ?_
                          refine lp rfl (p_pkt rfl rfl) ?_
                          refine lj_nil ?_
                          exact cnk42 _ _ true () (Option.some.inj hm).symm ⟨rfl, rfl, rfl, rfl, rfl, rfl, trivial⟩ (fun _ h => h.picks [1, 1, 1, 1] rfl)
                        · have hm := ifB_f hb hm
                          refine lg false rfl rfl rfl ?_
                          refine lp rfl (p_mv rfl) ?_
                          refine lg false rfl rfl rfl ?_
                          refine lp rfl (p_mv rfl) ?_
                          refine lg false rfl rfl rfl ?_
                          refine lp rfl (p_lss rfl rfl) ?_
                          refine lp rfl (p_pkf rfl rfl) ?_
                          refine lp rfl (p_mv rfl) ?_
                          refine lcase (i := 103) (decide ((max (w64 (y38.1 - y39.1)) (w64 (y39.1 - y38.1))) < y6.2.1)) rfl (fun hb => ?_) (fun hb => ?_)
                          · have hm := ifB_t hb hm
                            refine ls false rfl rfl rfl rfl ?_
                            refine ls false rfl rfl rfl rfl ?_
                            refine ls false rfl rfl rfl rfl ?_
                            refine ls false rfl rfl rfl rfl ?_
                            refine lsu rfl rfl rfl rfl ?_
                            refine lsu rfl rfl rfl rfl ?_
                            refine lsu rfl rfl rfl rfl ?_
                            refine ls false rfl rfl rfl rfl ?_
                            refine lp rfl (p_pkt rfl rfl) ?_
                            refine lp rfl (p_mv rfl) ?_
                            refine ls false rfl rfl rfl rfl ?_
                            refine ls false rfl rfl rfl rfl ?_
                            refine ls false rfl rfl rfl rfl ?_
                            refine ls false rfl rfl rfl rfl ?_
                            refine lsu rfl rfl rfl rfl ?_
                            refine lsu rfl rfl rfl rfl ?_
                            refine lsu rfl rfl rfl rfl ?_
                            refine ls false rfl rfl rfl rfl ?_
                            refine lp rfl (p_pkt rfl rfl) ?_
                            refine lj_nil ?_
                            exact cnk42 _ _ true () (Option.some.inj hm).symm ⟨rfl, rfl, rfl, rfl, rfl, rfl, trivial⟩ (fun _ h => h.picks [1, 1, 1, 1] rfl)
                          · have hm := ifB_f hb hm
                            refine lg false rfl rfl rfl ?_
                            refine lp rfl (p_mv rfl) ?_
                            refine lg false rfl rfl rfl ?_
                            refine lp rfl (p_mv rfl) ?_
                            refine lg false rfl rfl rfl ?_
                            refine lp rfl (p_eql rfl rfl) ?_
                            refine lg false rfl rfl rfl ?_
                            refine lp rfl (p_mv rfl) ?_
                            refine lcase (i := 107) (u14 == y6.1) rfl (fun hb => ?_) (fun hb => ?_)
                            · have hm := ifB_t hb hm
                              refine lg true rfl rfl rfl ?_
                              refine lp rfl (p_mv rfl) ?_
                              refine lg true rfl rfl rfl ?_
                              refine lp rfl (p_mv rfl) ?_
                              refine lg true rfl rfl rfl ?_
                              refine lp rfl (p_neq rfl rfl) ?_
                              refine lg false rfl rfl rfl ?_
                              refine lp rfl (p_pkt rfl rfl) ?_
                              refine lp rfl (p_pkf rfl rfl) ?_
                              refine lp rfl (p_mv rfl) ?_
                              refine lcase (i := 113) ((max (w64 (y38.1 - y39.1)) (w64 (y39.1 - y38.1))) != y6.2.1) rfl (fun hb => ?_) (fun hb => ?_)
                              · have hm := ifB_t hb hm
                                refine ls false rfl rfl rfl rfl ?_
                                refine ls false rfl rfl rfl rfl ?_
                                refine ls false rfl rfl rfl rfl ?_
                                refine ls false rfl rfl rfl rfl ?_
                                refine lsu rfl rfl rfl rfl ?_
                                refine lsu rfl rfl rfl rfl ?_
                                refine lsu rfl rfl rfl rfl ?_
                                refine ls false rfl rfl rfl rfl ?_
                                refine lp rfl (p_pkt rfl rfl) ?_
                                refine lj_nil ?_
                                exact cnk42 _ _ true () (Option.some.inj hm).symm ⟨rfl, rfl, rfl, rfl, rfl, rfl, trivial⟩ (fun _ h => h.picks [1, 1, 1, 1] rfl)
                              · have hm := ifB_f hb hm
                                refine lg false rfl rfl rfl ?_
                                refine lp rfl (p_mv rfl) ?_
                                refine lg false rfl rfl rfl ?_
                                refine lp rfl (p_mv rfl) ?_
                                refine lg false rfl rfl rfl ?_
                                refine lp rfl (p_lss rfl rfl) ?_
                                refine lg false rfl rfl rfl ?_
                                refine lp rfl (p_mv rfl) ?_
                                refine lcase (i := 117) (decide (u14 < y6.1)) rfl (fun hb => ?_) (fun hb => ?_)
                                · have hm := ifB_t hb hm
                                  refine lg true rfl rfl rfl ?_
                                  refine lp rfl (p_mv rfl) ?_
                                  refine lg true rfl rfl rfl ?_
                                  refine lp rfl (p_mv rfl) ?_
                                  refine lg true rfl rfl rfl ?_
                                  refine lp rfl (p_eql rfl rfl) ?_
                                  refine lg false rfl rfl rfl ?_
                                  refine lp rfl (p_pkt rfl rfl) ?_
                                  refine lp rfl (p_pkf rfl rfl) ?_
                                  refine lj_nil ?_
                                  exact cnk42 _ _ ((max (w64 (y38.1 - y39.1)) (w64 (y39.1 - y38.1))) == y6.2.1) () (Option.some.inj hm).symm ⟨rfl, rfl, rfl, rfl, rfl, rfl, trivial⟩ (fun _ h => h.picks [1, 1, 1, 1] rfl)
                                · have hm := ifB_f hb hm
                                  refine ls true rfl rfl rfl rfl ?_
                                  refine ls true rfl rfl rfl rfl ?_
                                  refine ls true rfl rfl rfl rfl ?_
                                  refine lg false rfl rfl rfl ?_
                                  refine lp rfl (p_pkf rfl rfl) ?_
                                  refine lp rfl (p_pkf rfl rfl) ?_
                                  refine lj_nil ?_
                                  exact cnk42 _ _ false () (Option.some.inj hm).symm ⟨rfl, rfl, rfl, rfl, rfl, rfl, trivial⟩ (fun _ h => h.picks [1, 1, 1, 1] rfl)
                            · have hm := ifB_f hb hm
                              refine ls true rfl rfl rfl rfl ?_
                              refine ls true rfl rfl rfl rfl ?_
                              refine ls true rfl rfl rfl rfl ?_
                              refine lg false rfl rfl rfl ?_
                              refine lp rfl (p_pkf rfl rfl) ?_
                              refine lp rfl (p_pkf rfl rfl) ?_
                              refine lp rfl (p_mv rfl) ?_
                              refine lg false rfl rfl rfl ?_
                              refine lp rfl (p_mv rfl) ?_
                              refine lg false rfl rfl rfl ?_
                              refine lp rfl (p_mv rfl) ?_
                              refine lg false rfl rfl rfl ?_
                              refine lp rfl (p_lss rfl rfl) ?_
                              refine lg false rfl rfl rfl ?_
                              refine lp rfl (p_mv rfl) ?_
                              refine lcase (i := 117) (decide (u14 < y6.1)) rfl (fun hb => ?_) (fun hb => ?_)
                              · have hm := ifB_t hb hm
                                refine lg true rfl rfl rfl ?_
                                refine lp rfl (p_mv rfl) ?_
                                refine lg true rfl rfl rfl ?_
                                refine lp rfl (p_mv rfl) ?_
                                refine lg true rfl rfl rfl ?_
                                refine lp rfl (p_eql rfl rfl) ?_
                                refine lg false rfl rfl rfl ?_
                                refine lp rfl (p_pkt rfl rfl) ?_
                                refine lp rfl (p_pkf rfl rfl) ?_
                                refine lj_nil ?_
                                exact cnk42 _ _ ((max (w64 (y38.1 - y39.1)) (w64 (y39.1 - y38.1))) == y6.2.1) () (Option.some.inj hm).symm ⟨rfl, rfl, rfl, rfl, rfl, rfl, trivial⟩ (fun _ h => h.picks [1, 1, 1, 1] rfl)
                              · have hm := ifB_f hb hm
                                refine ls true rfl rfl rfl rfl ?_
                                refine ls true rfl rfl rfl rfl ?_
                                refine ls true rfl rfl rfl rfl ?_
                                refine lg false rfl rfl rfl ?_
                                refine lp rfl (p_pkf rfl rfl) ?_
                                refine lp rfl (p_pkf rfl rfl) ?_
                                refine lj_nil ?_
                                exact cnk42 _ _ false () (Option.some.inj hm).symm ⟨rfl, rfl, rfl, rfl, rfl, rfl, trivial⟩ (fun _ h => h.picks [1, 1, 1, 1] rfl)
            · have hm := hk22
              refine cj_anyT [0, 1] [4, 5] (Sat w0 (keys ([] : List Ent)) A [.box b5 28 [s3.v, .int .i64 y2.1.Change, .int .i64 y2.1.Clap, .int .i64 y2.1.Break, .int .i64 y2.1.Half], .row N43.R (SV.v s3) xg4, .ro (Lk N43 y2.1.Items xg4), .ro PowT]) (Sat w0 (keys ([] : List Ent)) A [.box b5 28 [s3.v, .int .i64 y2.1.Change, .int .i64 y2.1.Clap, .int .i64 y2.1.Break, .int .i64 y2.1.Half], .row N43.R (SV.v s3) xg4, .ro (Lk N43 y2.1.Items xg4), .ro PowT]) (by kernel_rfl) ?_
              refine at_take2 0 rfl (by kernel_rfl) (by kernel_rfl) (by kernel_rfl) (fun _ h => h.picks [0, 0, 0, 0] rfl) rfl rfl (p_lbw ty28 rfl (j := 0) rfl rfl) (fun _ h => h.picks [0, 0, 0, 0] rfl) ?_
              refine at_take2 1 rfl (by kernel_rfl) (by kernel_rfl) (by kernel_rfl) (fun _ h => h.picks [0, 0, 0, 0] rfl) rfl rfl (p_lbw ty28 rfl (j := 0) rfl rfl) (fun _ h => h.picks [0, 0, 0, 0] rfl) ?_
              refine at_each (rs := [2, 3]) (by kernel_rfl) (by decide) ?_
              refine (.cons rfl (fun I cnI => ?_) (.cons rfl (fun I cnI => ?_) .nil))
              · refine r_al ty28 rfl (fun b25 => ?_)
                refine lj_nil ?_
                refine cnI _ _ (sof1 rfl rfl (fun _ h => h.picks [1, 1, 1, 1] rfl)) ?_
                refine at_each (rs := [3]) (by kernel_rfl) (by decide) ?_
                refine (.cons rfl (fun I cnI => ?_) .nil)
                · refine r_al ty28 rfl (fun b26 => ?_)
                  refine lj_nil ?_
                  refine cnI _ _ (sof1 rfl rfl (fun _ h => h.picks [2, 2, 2, 2] rfl)) ?_
                  refine at_each (rs := [4]) (by kernel_rfl) (by decide) ?_
                  refine (.cons rfl (fun I cnI => ?_) .nil)
                  · refine r_sb (vs := [s3.v, .int .i64 y2.1.Change, .int .i64 y2.1.Clap, .int .i64 y2.1.Break, .int .i64 y2.1.Half]) (j := 1) ty28 rfl rfl rfl rfl rfl rfl rfl ?_
                    refine lj_nil ?_
                    refine cnI _ _ (sof2 rfl rfl (fun _ h => h.picks [2, 2, 2, 2] rfl)) ?_
                    refine at_each (rs := [5]) (by kernel_rfl) (by decide) ?_
                    refine (.cons rfl (fun I cnI => ?_) .nil)
                    · refine r_sb (vs := [s3.v, .int .i64 y2.1.Change, .int .i64 y2.1.Clap, .int .i64 y2.1.Break, .int .i64 y2.1.Half]) (j := 0) ty28 rfl rfl rfl rfl rfl rfl rfl ?_
                      refine lj_nil ?_
                      refine cnI _ _ (sof2 rfl rfl (fun _ h => h.picks [2, 2, 2, 2] rfl)) ?_
                      refine at_done (by kernel_rfl) ?_
                      exact cnk22 _ _ () (b25, b26) (Option.some.inj hm).symm ⟨rfl, rfl, rfl, rfl, rfl, rfl, rfl, trivial⟩ (fun _ h => h.picks [2, 2, 2, 2, 1, 0] rfl)
              · refine r_al ty28 rfl (fun b27 => ?_)
                refine lj_nil ?_
                refine cnI _ _ (sof1 rfl rfl (fun _ h => h.picks [1, 1, 1, 1] rfl)) ?_
                refine at_each (rs := [2]) (by kernel_rfl) (by decide) ?_
                refine (.cons rfl (fun I cnI => ?_) .nil)
                · refine r_al ty28 rfl (fun b28 => ?_)
                  refine lj_nil ?_
                  refine cnI _ _ (sof1 rfl rfl (fun _ h => h.picks [2, 2, 2, 2] rfl)) ?_
                  refine at_each (rs := [4]) (by kernel_rfl) (by decide) ?_
                  refine (.cons rfl (fun I cnI => ?_) .nil)
                  · refine r_sb (vs := [s3.v, .int .i64 y2.1.Change, .int .i64 y2.1.Clap, .int .i64 y2.1.Break, .int .i64 y2.1.Half]) (j := 0) ty28 rfl rfl rfl rfl rfl rfl rfl ?_
                    refine lj_nil ?_
                    refine cnI _ _ (sof2 rfl rfl (fun _ h => h.picks [2, 2, 2, 2] rfl)) ?_
                    refine at_each (rs := [5]) (by kernel_rfl) (by decide) ?_
                    refine (.cons rfl (fun I cnI => ?_) .nil)
                    · refine r_sb (vs := [s3.v, .int .i64 y2.1.Change, .int .i64 y2.1.Clap, .int .i64 y2.1.Break, .int .i64 y2.1.Half]) (j := 1) ty28 rfl rfl rfl rfl rfl rfl rfl ?_
                      refine lj_nil ?_
                      refine cnI _ _ (sof2 rfl rfl (fun _ h => h.picks [2, 2, 2, 2] rfl)) ?_
                      refine at_done (by kernel_rfl) ?_
                      exact cnk22 _ _ () (b28, b27) (Option.some.inj hm).symm ⟨rfl, rfl, rfl, rfl, rfl, rfl, rfl, trivial⟩ (fun _ h => h.picks [2, 2, 2, 2, 0, 0] rfl)
          · have hm := ifB_f hb hm
            refine cj_exit rfl ?_
            exact (aftk16 u14 () (hBk16 _ (Option.some.inj hm).symm)).sub ⟨rfl, rfl, rfl, rfl, rfl, trivial⟩ (fun _ h => h.picks [0, 0, 0, 0] rfl)
    · have hm := hk13
      refine lp rfl (p_mv rfl) ?_
      refine lp rfl (p_neq rfl rfl) ?_
      refine lp rfl (p_mv rfl) ?_
      refine lcase (i := 38) (y6.2.2 != 0) rfl (fun hb => ?_) (fun hb => ?_)
      · have hm := ifB_t hb hm
        refine ls false rfl rfl rfl rfl ?_
        refine ls false rfl rfl rfl rfl ?_
        refine lp rfl (p_pkt rfl rfl) ?_
        refine lp rfl (p_mv rfl) ?_
        refine ls false rfl rfl rfl rfl ?_
        refine ls false rfl rfl rfl rfl ?_
        refine ls false rfl rfl rfl rfl ?_
        refine ls false rfl rfl rfl rfl ?_
        refine ls false rfl rfl rfl rfl ?_
        refine ls false rfl rfl rfl rfl ?_
        refine lp rfl (p_pkt rfl rfl) ?_
        refine lj_nil ?_
        exact cnk13 _ _ true () (Option.some.inj hm).symm ⟨rfl, rfl, rfl, rfl, rfl, trivial⟩ (fun _ h => h.picks [0, 0, 0, 2] rfl)
      · have hm := ifB_f hb hm
        refine lg false rfl rfl rfl ?_
        refine lp rfl (p_mv rfl) ?_
        refine lg false rfl rfl rfl ?_
        refine lp rfl (p_lss rfl rfl) ?_
        refine lp rfl (p_pkf rfl rfl) ?_
        refine lp rfl (p_mv rfl) ?_
        refine lcase (i := 42) (decide (y6.1 < 0)) rfl (fun hb => ?_) (fun hb => ?_)
        · have hm := ifB_t hb hm
          refine ls false rfl rfl rfl rfl ?_
          refine ls false rfl rfl rfl rfl ?_
          refine ls false rfl rfl rfl rfl ?_
          refine ls false rfl rfl rfl rfl ?_
          refine ls false rfl rfl rfl rfl ?_
          refine ls false rfl rfl rfl rfl ?_
          refine lp rfl (p_pkt rfl rfl) ?_
          refine lj_nil ?_
          exact cnk13 _ _ true () (Option.some.inj hm).symm ⟨rfl, rfl, rfl, rfl, rfl, trivial⟩ (fun _ h => h.picks [0, 0, 0, 2] rfl)
        · have hm := ifB_f hb hm
          refine lg false rfl rfl rfl ?_
          refine lp rfl (p_mv rfl) ?_
          refine lg false rfl rfl rfl ?_
          refine lp rfl (p_fab fl28_0 rfl) ?_
          refine lg false rfl rfl rfl ?_
          refine lp rfl (p_lbs ty26 rfl (j := 0) rfl rfl) ?_
          refine lg false rfl rfl rfl ?_
          refine lp rfl (p_lenG hLs3 Tryz.underlying26 rfl (.row 1 rfl)) ?_
          refine lg false rfl rfl rfl ?_
          refine lp rfl (p_sub rfl rfl) ?_
          refine lg false rfl rfl rfl ?_
          refine lp rfl (p_gtr rfl rfl) ?_
          refine lp rfl (p_pkf rfl rfl) ?_
          refine lj_nil ?_
          exact cnk13 _ _ (decide (y6.1 > (w64 ((y2.1.Items.length : Int) - 2)))) () (Option.some.inj hm).symm ⟨rfl, rfl, rfl, rfl, rfl, trivial⟩ (fun _ h => h.picks [0, 0, 0, 2] rfl)
end Go.Proofs.YtfgekmoffcobaaaGreatDoor
