/- The walks. Written by program. -/
import Derived.Test.YtgfbgcdnnkehbaaGreatDoorW1
namespace Go.Proofs.YtgfbgcdnnkehbaaGreatDoor
open Go Go.J Go.G
set_option maxRecDepth 100000
set_option linter.unusedVariables false
set_option linter.unusedSimpArgs false
theorem ok_club_books_members (b0_ : Nat) (a0_0 : Int) (b0_1_ : Nat) (Z0_1_ : List (ByteArray × SV)) (es0_1_ : Array MapEntry) (cl0_1_ : Nat) (a0_1 : (List (ByteArray × (List Tclub_stay)))) (b0_2_ : Nat) (es0_2_ : Array MapEntry) (cl0_2_ : Nat) (a0_2 : (List (ByteArray × Int))) (b0_3_ : Nat) (Z0_3_ : List (ByteArray × Option (Nat × Nat × Array MapEntry × Nat × SV))) (es0_3_ : Array MapEntry) (cl0_3_ : Nat) (a0_3 : (List (ByteArray × (Bool × (List (ByteArray × Bool)) × (List ByteArray))))) (s0_4_ : SV) (a0_4 : (List Int)) {r : (List ByteArray)} (hm : m_club_books_members a0_0 a0_1 a0_2 a0_3 a0_4 = some r) :
  Ctr Tryz.prog 20 [.pointer (some ⟨b0_, 0, none⟩)].toArray [.box b0_ 54 [.int .i64 a0_0, .map (some b0_1_), .map (some b0_2_), .map (some b0_3_), s0_4_.v]] [FamAt kv9 SV.v (rowE R128) b0_1_ a0_1 Z0_1_ none es0_1_ cl0_1_, MapAt kv9 b0_2_ (mpV vv3 a0_2) es0_2_ cl0_2_, FamAt kv9 (vvP Fh144) (entsP Fe144) b0_3_ a0_3 Z0_3_ none es0_3_ cl0_3_, RdS R3 (SV.v s0_4_) a0_4] (X := SV) (fun s => s.v) (fun s => [.row R9 (SV.v s) r, .box b0_ 54 [.int .i64 a0_0, .map (some b0_1_), .map (some b0_2_), .map (some b0_3_), s0_4_.v]]) := by
 unfold m_club_books_members at hm
 refine ctr_mk (vs := [(0, .pointer (some ⟨b0_, 0, none⟩))]) Tryz.func20 rfl Tryz.ntmps20 rfl ⟨rfl, trivial⟩ (fun w0 A => ?_)
 refine cj_seq ?_
 refine cj_reg ?_
 refine lp rfl (p_as rfl) ?_
 refine lj_seq ?_
 refine cj_seq ?_
 refine cj_reg ?_
 refine lp rfl (p_as rfl) ?_
 refine lj_seq ?_
 refine cj_seq ?_
 refine cj_seq ?_
 refine cj_reg ?_
 refine lp rfl (p_mv rfl) ?_
 refine lp rfl (p_nc rfl) ?_
 refine lp rfl (p_fab fl54_1 rfl) ?_
 refine lp rfl (p_lbs ty50 rfl (j := 0) rfl rfl) ?_
 refine r_call [] cf41 rfl rfl (ok_maps_Keys_map_string_club_stay_string_club_stay b0_1_) rfl rfl .nil (fun _ => rfl) rfl (fun b1 => ?_)
 refine r_fzb 0 rfl ?_
 obtain ⟨y2, hy2, hm⟩ := bindS hm
 refine r_call [] cf40 rfl rfl (ok_slices_Sorted_string__maps_Keys_map_string_club_stay_string_club_stay_1 b1 b0_1_ Z0_1_ es0_1_ cl0_1_ a0_1 hy2) rfl rfl (.cons (.ro 0 rfl) (.cons (.ro 2 rfl) .nil)) (fun _ => rfl) rfl (fun s3 => ?_)
 refine lp rfl (p_len Tryz.underlying37 rfl (.row 0 rfl)) ?_
 refine lp rfl (p_mv rfl) ?_
 refine lj_seq ?_
 refine cj_nil R9 ?_
 obtain ⟨f11, hf11, hm⟩ := bindS hm
 refine cj_range (γ := SV) (m := (y2.length : Int)) hf11 nilS (fun u8 g9 => [(0, .pointer (some ⟨b0_, 0, none⟩)), (2, .slice none 0 0), (3, g9.v), (11, s3.v)]) (fun u8 g9 => Sat w0 (keys [.box b0_ 54 [.int .i64 a0_0, .map (some b0_1_), .map (some b0_2_), .map (some b0_3_), s0_4_.v]]) A [.row R9 (SV.v s3) y2, .box b0_ 54 [.int .i64 a0_0, .map (some b0_1_), .map (some b0_2_), .map (some b0_3_), s0_4_.v], .ro (FamAt kv9 SV.v (rowE R128) b0_1_ a0_1 Z0_1_ none es0_1_ cl0_1_), .ro (MapAt kv9 b0_2_ (mpV vv3 a0_2) es0_2_ cl0_2_), .ro (FamAt kv9 (vvP Fh144) (entsP Fe144) b0_3_ a0_3 Z0_3_ none es0_3_ cl0_3_), .ro (RdS R3 (SV.v s0_4_) a0_4), .row R9 (SV.v g9) u8]) ⟨rfl, rfl, rfl, rfl, rfl, rfl, trivial⟩ (fun _ h => h.picks [1, 2, 2, 2, 2, 2, 0] rfl) (nat_lt _) (fun _ h => (FactAt.get (F := RdS R9 (SV.v s3) y2) (.row 1 rfl) h).1) (fun _ _ => ⟨rfl, rfl, rfl, rfl⟩) ⟨rfl, rfl, rfl, rfl, rfl⟩ rfl rfl rfl (fun u8 g9 e => ?_) (fun aftk10 i4 x5 u8 g9 k10 hx6 hs J hJk10 hBk10 hX I cnk10 => ?_)
 ·have hm := Flow.fin_b e hm
  refine nj_seq ?_
  refine cj_seq ?_
  refine cj_reg ?_
  refine lp rfl (p_mv rfl) ?_
  refine lp rfl (p_as rfl) ?_
  refine lj_seq ?_
  obtain rfl := Option.some.inj hm
  exact cj_rt g9 [6, 1] Tryz.results20 (.tmp rfl .nil) rfl rfl
 ·have hRk10 : ∀ t, k10 = .ret t → some t = some r := fun t e => by rw [hX t e] at hm; exact hm
  have hm := hs
  refine cj_seq ?_
  refine cj_reg ?_
  refine lp rfl (p_idx Tryz.underlying37 ty9 rfl rfl (.row 0 rfl) (getI_nat.trans hx6)) ?_
  refine lp rfl (p_lde (o := 0) ty9 rfl rfl (.row 0 rfl) hx6 rfl) ?_
  refine lp rfl (p_as rfl) ?_
  refine lj_seq ?_
  refine cj_seq ?_
  refine cj_reg ?_
  refine lp rfl (p_mv rfl) ?_
  refine lp rfl (p_mv rfl) ?_
  obtain ⟨y13, hy13, hm⟩ := bindS hm
  refine r_call [1] cf42 rfl rfl (ok_club_books_isMember b0_ a0_0 b0_1_ Z0_1_ es0_1_ cl0_1_ a0_1 b0_2_ es0_2_ cl0_2_ a0_2 b0_3_ Z0_3_ es0_3_ cl0_3_ a0_3 s0_4_ a0_4 x5 hy13) rfl rfl (.cons (.ro 1 rfl) (.cons (.ro 2 rfl) (.cons (.ro 3 rfl) (.cons (.ro 4 rfl) .nil)))) (fun _ => rfl) rfl (fun _ => ?_)
  refine lj_seq ?_
  refine cj_if (b := y13) rfl (fun hb => ?_) (fun hb => ?_)
  ·have hm := ifB_t hb hm
   refine cj_reg ?_
   refine lp rfl (p_mv rfl) ?_
   refine lp rfl (p_mv rfl) ?_
   refine r_bs R9 [x5] rfl rfl rfl (fun _ => by kernel_rfl) rfl (fun s14 => ?_)
   obtain ⟨q15, hq15, hm⟩ := bindS hm
   refine r_app (k := 7) Tryz.underlying37 ty9 rfl rfl rfl rfl (.row 0 rfl) hq15 rfl (fun s16 => ?_)
   refine lp rfl (p_as rfl) ?_
   refine lj_nil ?_
   refine nj_blk ?_
   exact cnk10 _ _ q15 s16 (hJk10 _ (Option.some.inj hm).symm) ⟨rfl, rfl, rfl, rfl, rfl, rfl, trivial⟩ (fun _ h => h.picks [2, 1, 1, 1, 1, 1, 1] rfl)
  ·have hm := ifB_f hb hm
   refine cj_skip ?_
   refine nj_blk ?_
   exact cnk10 _ _ u8 g9 (hJk10 _ (Option.some.inj hm).symm) ⟨rfl, rfl, rfl, rfl, rfl, rfl, trivial⟩ (fun _ h => h.picks [1, 0, 0, 0, 0, 0, 0] rfl)
theorem ok_club_books_act (b0_ : Nat) (a0_0 : Int) (b0_1_ : Nat) (Z0_1_ : List (ByteArray × SV)) (es0_1_ : Array MapEntry) (cl0_1_ : Nat) (a0_1 : (List (ByteArray × (List Tclub_stay)))) (b0_2_ : Nat) (es0_2_ : Array MapEntry) (cl0_2_ : Nat) (a0_2 : (List (ByteArray × Int))) (b0_3_ : Nat) (Z0_3_ : List (ByteArray × Option (Nat × Nat × Array MapEntry × Nat × SV))) (es0_3_ : Array MapEntry) (cl0_3_ : Nat) (a0_3 : (List (ByteArray × (Bool × (List (ByteArray × Bool)) × (List ByteArray))))) (s0_4_ : SV) (a0_4 : (List Int)) (a1 : TAct) {r : (List (ByteArray × (List Tclub_stay))) × (List (ByteArray × Int)) × (List (ByteArray × (Bool × (List (ByteArray × Bool)) × (List ByteArray))))} (hm : m_club_books_act a0_0 a0_1 a0_2 a0_3 a0_4 a1 = some r) :
  Ctr Tryz.prog 70 [.pointer (some ⟨b0_, 0, none⟩), .agg (R33.enc a1).toArray].toArray [.box b0_ 54 [.int .i64 a0_0, .map (some b0_1_), .map (some b0_2_), .map (some b0_3_), s0_4_.v], .obj (famO kv9 SV.v (rowE R128) b0_1_ a0_1 Z0_1_ none es0_1_ cl0_1_), .obj (mapO kv9 b0_2_ (mpV vv3 a0_2) es0_2_ cl0_2_), .obj (famO kv9 (vvP Fh144) (entsP Fe144) b0_3_ a0_3 Z0_3_ none es0_3_ cl0_3_)] [RdS R3 (SV.v s0_4_) a0_4] (X := (List (ByteArray × SV) × Array MapEntry × Nat × Array MapEntry × Nat × List (ByteArray × Option (Nat × Nat × Array MapEntry × Nat × SV)) × Array MapEntry × Nat)) (fun s => .tuple [].toArray) (fun s => [.box b0_ 54 [.int .i64 a0_0, .map (some b0_1_), .map (some b0_2_), .map (some b0_3_), s0_4_.v], .obj (famO kv9 SV.v (rowE R128) b0_1_ r.1 s.1 none s.2.1 s.2.2.1), .obj (mapO kv9 b0_2_ (mpV vv3 r.2.1) s.2.2.2.1 s.2.2.2.2.1), .obj (famO kv9 (vvP Fh144) (entsP Fe144) b0_3_ r.2.2 s.2.2.2.2.2.1 none s.2.2.2.2.2.2.1 s.2.2.2.2.2.2.2)]) := by
 unfold m_club_books_act at hm
 refine ctr_mk (vs := [(0, .pointer (some ⟨b0_, 0, none⟩)), (1, .agg (R33.enc a1).toArray)]) Tryz.func70 rfl Tryz.ntmps70 rfl ⟨rfl, rfl, trivial⟩ (fun w0 A => ?_)
 refine cj_seq ?_
 refine cj_reg ?_
 refine r_bx (cs := [.string a1.Site, .int .i64 a1.No, .int .i64 a1.At, .int .i64 a1.Kind, .string a1.Who, .string a1.Motion, .int .i64 a1.Cents, .bool a1.Yes, .string a1.Of, .int .i64 a1.Other]) rfl rfl rfl (fun b1 => ?_)
 refine lj_seq ?_
 refine cj_seq ?_
 refine cj_reg ?_
 refine lp rfl (p_fab fl33_3 rfl) ?_
 refine lp rfl (p_lbs ty3 rfl (j := 0) rfl rfl) ?_
 refine lj_seq ?_
 refine cj_blk ?_
 refine cj_seq ?_
 refine cj_reg ?_
 refine lp rfl (p_eql rfl rfl) ?_
 refine lp rfl (p_as rfl) ?_
 refine lj_seq ?_
 refine cj_if (b := a1.Kind == 1) rfl (fun hb => ?_) (fun hb => ?_)
 ·have hm := ifB_t hb hm
  obtain ⟨q4, hq4, hm⟩ := bindS hm
  refine cj_anyT [0, 1, 2, 3, 4, 5, 6, 7, 8, 9, 10, 11, 12, 13, 14, 15, 16, 17] [19, 20] (Sat w0 (keys [.box b0_ 54 [.int .i64 a0_0, .map (some b0_1_), .map (some b0_2_), .map (some b0_3_), s0_4_.v], .obj (famO kv9 SV.v (rowE R128) b0_1_ a0_1 Z0_1_ none es0_1_ cl0_1_), .obj (mapO kv9 b0_2_ (mpV vv3 a0_2) es0_2_ cl0_2_), .obj (famO kv9 (vvP Fh144) (entsP Fe144) b0_3_ a0_3 Z0_3_ none es0_3_ cl0_3_)]) A [.box b1 33 [.string a1.Site, .int .i64 a1.No, .int .i64 a1.At, .int .i64 a1.Kind, .string a1.Who, .string a1.Motion, .int .i64 a1.Cents, .bool a1.Yes, .string a1.Of, .int .i64 a1.Other], .box b0_ 54 [.int .i64 a0_0, .map (some b0_1_), .map (some b0_2_), .map (some b0_3_), s0_4_.v], .obj (famO kv9 SV.v (rowE R128) b0_1_ a0_1 Z0_1_ none es0_1_ cl0_1_), .obj (mapO kv9 b0_2_ (mpV vv3 a0_2) es0_2_ cl0_2_), .obj (famO kv9 (vvP Fh144) (entsP Fe144) b0_3_ a0_3 Z0_3_ none es0_3_ cl0_3_), .ro (RdS R3 (SV.v s0_4_) a0_4)]) (Sat w0 (keys [.box b0_ 54 [.int .i64 a0_0, .map (some b0_1_), .map (some b0_2_), .map (some b0_3_), s0_4_.v], .obj (famO kv9 SV.v (rowE R128) b0_1_ a0_1 Z0_1_ none es0_1_ cl0_1_), .obj (mapO kv9 b0_2_ (mpV vv3 a0_2) es0_2_ cl0_2_), .obj (famO kv9 (vvP Fh144) (entsP Fe144) b0_3_ a0_3 Z0_3_ none es0_3_ cl0_3_)]) A [.box b1 33 [.string a1.Site, .int .i64 a1.No, .int .i64 a1.At, .int .i64 a1.Kind, .string a1.Who, .string a1.Motion, .int .i64 a1.Cents, .bool a1.Yes, .string a1.Of, .int .i64 a1.Other], .box b0_ 54 [.int .i64 a0_0, .map (some b0_1_), .map (some b0_2_), .map (some b0_3_), s0_4_.v], .obj (mapO kv9 b0_2_ (mpV vv3 a0_2) es0_2_ cl0_2_), .obj (famO kv9 (vvP Fh144) (entsP Fe144) b0_3_ a0_3 Z0_3_ none es0_3_ cl0_3_), .ro (RdS R3 (SV.v s0_4_) a0_4)]) (by kernel_rfl) ?_
  refine at_take2 0 rfl (by kernel_rfl) (by kernel_rfl) (by kernel_rfl) (fun _ h => h.picks [0, 0, 1, 1, 1] rfl) rfl rfl (p_mv rfl) (fun _ h => h.picks [0, 0, 1, 1, 1] rfl) ?_
  refine at_take2 1 rfl (by kernel_rfl) (by kernel_rfl) (by kernel_rfl) (fun _ h => h.picks [0, 0, 1, 1, 1] rfl) rfl rfl (p_nc rfl) (fun _ h => h.picks [0, 0, 1, 1, 1] rfl) ?_
  refine at_take2 2 rfl (by kernel_rfl) (by kernel_rfl) (by kernel_rfl) (fun _ h => h.picks [0, 0, 1, 1, 1] rfl) rfl rfl (p_fab fl54_1 rfl) (fun _ h => h.picks [0, 0, 1, 1, 1] rfl) ?_
  refine at_take2 3 rfl (by kernel_rfl) (by kernel_rfl) (by kernel_rfl) (fun _ h => h.picks [0, 0, 1, 1, 1] rfl) rfl rfl (p_lbs ty50 rfl (j := 1) rfl rfl) (fun _ h => h.picks [0, 0, 1, 1, 1] rfl) ?_
  refine at_take2 4 rfl (by kernel_rfl) (by kernel_rfl) (by kernel_rfl) (fun _ h => h.picks [0, 0, 1, 1, 1] rfl) rfl rfl (p_fab fl33_4 rfl) (fun _ h => h.picks [0, 0, 1, 1, 1] rfl) ?_
  refine at_take2 5 rfl (by kernel_rfl) (by kernel_rfl) (by kernel_rfl) (fun _ h => h.picks [0, 0, 1, 1, 1] rfl) rfl rfl (p_lbs ty9 rfl (j := 0) rfl rfl) (fun _ h => h.picks [0, 0, 1, 1, 1] rfl) ?_
  refine at_take2 6 rfl (by kernel_rfl) (by kernel_rfl) (by kernel_rfl) (fun _ h => h.picks [0, 0, 1, 1, 1] rfl) rfl rfl (p_mv rfl) (fun _ h => h.picks [0, 0, 1, 1, 1] rfl) ?_
  refine at_take2 7 rfl (by kernel_rfl) (by kernel_rfl) (by kernel_rfl) (fun _ h => h.picks [0, 0, 1, 1, 1] rfl) rfl rfl (p_nc rfl) (fun _ h => h.picks [0, 0, 1, 1, 1] rfl) ?_
  refine at_take2 8 rfl (by kernel_rfl) (by kernel_rfl) (by kernel_rfl) (fun _ h => h.picks [0, 0, 1, 1, 1] rfl) rfl rfl (p_fab fl54_1 rfl) (fun _ h => h.picks [0, 0, 1, 1, 1] rfl) ?_
  refine at_take2 9 rfl (by kernel_rfl) (by kernel_rfl) (by kernel_rfl) (fun _ h => h.picks [0, 0, 1, 1, 1] rfl) rfl rfl (p_lbs ty50 rfl (j := 1) rfl rfl) (fun _ h => h.picks [0, 0, 1, 1, 1] rfl) ?_
  refine at_take2 10 rfl (by kernel_rfl) (by kernel_rfl) (by kernel_rfl) (fun _ h => h.picks [0, 0, 1, 1, 1] rfl) rfl rfl (p_fab fl33_4 rfl) (fun _ h => h.picks [0, 0, 1, 1, 1] rfl) ?_
  refine at_take2 11 rfl (by kernel_rfl) (by kernel_rfl) (by kernel_rfl) (fun _ h => h.picks [0, 0, 1, 1, 1] rfl) rfl rfl (p_lbs ty9 rfl (j := 0) rfl rfl) (fun _ h => h.picks [0, 0, 1, 1, 1] rfl) ?_
  refine at_take1 12 rfl (by kernel_rfl) (by kernel_rfl) (by kernel_rfl) (by kernel_rfl) rfl rfl (p_lkm (vv := SV.v) (k := a1.Who) (z := nilS) Tryz.underlying50 (keyF9) (fun _ => by kernel_rfl) (.imp (.fam 2 rfl) (fun _ h => h.map)) rfl rfl) (fun _ h => h.picks [0, 0, 0, 0, 0, 0] rfl) ?_
  refine at_take2 13 rfl (by kernel_rfl) (by kernel_rfl) (by kernel_rfl) (fun _ h => h.picks [0, 0, 1, 1, 1] rfl) rfl rfl (p_fab fl33_2 rfl) (fun _ h => h.picks [0, 0, 1, 1, 1] rfl) ?_
  refine at_take2 14 rfl (by kernel_rfl) (by kernel_rfl) (by kernel_rfl) (fun _ h => h.picks [0, 0, 1, 1, 1] rfl) rfl rfl (p_lbs ty3 rfl (j := 0) rfl rfl) (fun _ h => h.picks [0, 0, 1, 1, 1] rfl) ?_
  refine at_take2 15 rfl (by kernel_rfl) (by kernel_rfl) (by kernel_rfl) (fun _ h => h.picks [0, 0, 1, 1, 1] rfl) rfl rfl (p_fab fl33_6 rfl) (fun _ h => h.picks [0, 0, 1, 1, 1] rfl) ?_
  refine at_take2 16 rfl (by kernel_rfl) (by kernel_rfl) (by kernel_rfl) (fun _ h => h.picks [0, 0, 1, 1, 1] rfl) rfl rfl (p_lbs ty3 rfl (j := 0) rfl rfl) (fun _ h => h.picks [0, 0, 1, 1, 1] rfl) ?_
  refine at_take2 17 rfl (by kernel_rfl) (by kernel_rfl) (by kernel_rfl) (fun _ h => h.picks [0, 0, 1, 1, 1] rfl) rfl rfl (p_bld [.int .i64 a1.At, .int .i64 (-1), .int .i64 a1.Cents] rfl (fun _ => by kernel_rfl)) (fun _ h => h.picks [0, 0, 1, 1, 1] rfl) ?_
  refine at_each (rs := [18]) (by kernel_rfl) (by decide) ?_
  refine (.cons rfl (fun I cnI => ?_) .nil)
  ·refine r_bs R128 [(Tclub_stay.mk a1.At (-1) a1.Cents)] rfl rfl rfl (fun _ => by kernel_rfl) rfl (fun s8 => ?_)
   refine lj_nil ?_
   refine cnI _ _ (sof1 rfl rfl (fun _ h => h.picks [1, 1, 1, 1, 1, 1] rfl)) ?_
   refine at_each (rs := [19]) (by kernel_rfl) (by decide) ?_
   refine (.cons rfl (fun I cnI => ?_) .nil)
   ·refine LJ.sat (fun _ h => h.takeR 3 rfl a1.Who) ?_
    refine r_app (k := 0) Tryz.underlying93 ty128 rfl rfl rfl rfl (.row 2 rfl) hq4 rfl (fun s10 => ?_)
    refine lj_nil ?_
    refine cnI _ _ (sof2 rfl rfl (fun _ h => h.picks [3, 3, 3, 3, 3] rfl)) ?_
    refine at_each (rs := [20]) (by kernel_rfl) (by decide) ?_
    refine (.cons rfl (fun I cnI => ?_) .nil)
    ·refine r_mpuF (x1 := q4) (g1 := s10) (k := a1.Who) [1, 0] Tryz.underlying50 keyF9 rfl (.inr rfl) rfl rfl rfl (fun es11 cl12 => ?_)
     refine lj_nil ?_
     refine cnI _ _ (sof2 rfl rfl (fun _ h => h.picks [2, 2, 2, 2, 2] rfl)) ?_
     refine at_done (by kernel_rfl) ?_
     refine nj_blk ?_
     obtain rfl := Option.some.inj hm
     exact nj_rt ((putM Z0_1_ a1.Who s10), es11, cl12, es0_2_, cl0_2_, Z0_3_, es0_3_, cl0_3_) [3, 0, 2, 2] Tryz.results70 .nil rfl rfl
 ·have hm := ifB_f hb hm
  refine cj_seq ?_
  refine cj_reg ?_
  refine lp rfl (p_eql rfl rfl) ?_
  refine lp rfl (p_as rfl) ?_
  refine lj_seq ?_
  refine cj_if (b := a1.Kind == 2) rfl (fun hb => ?_) (fun hb => ?_)
  ·have hm := ifB_t hb hm
   refine cj_seq ?_
   refine cj_quiet (by kernel_rfl) (by kernel_rfl) ?_
   refine q_p rfl (p_mv rfl) ?_
   refine q_p rfl (p_nc rfl) ?_
   refine q_p rfl (p_fab fl54_1 rfl) ?_
   refine q_p rfl (p_lbs ty50 rfl (j := 1) rfl rfl) ?_
   refine q_p rfl (p_fab fl33_4 rfl) ?_
   refine q_p rfl (p_lbs ty9 rfl (j := 0) rfl rfl) ?_
   refine q_p rfl (p_lkm (vv := SV.v) (k := a1.Who) (z := nilS) Tryz.underlying50 (keyF9) (fun _ => by kernel_rfl) (.imp (.fam 2 rfl) (fun _ h => h.map)) rfl rfl) ?_
   refine q_p rfl (p_as rfl) ?_
   refine q_nil ?_
   refine nj_seq ?_
   refine cj_reg ?_
   refine lp rfl (p_mv rfl) ?_
   refine lp rfl (p_mv rfl) ?_
   refine lp rfl (p_len Tryz.underlying93 rfl (.imp (.fam 2 rfl) (fun _ h => h.look a1.Who))) ?_
   refine lp rfl (p_sub rfl rfl) ?_
   refine lp rfl (p_fab fl33_2 rfl) ?_
   refine lp rfl (p_lbs ty3 rfl (j := 0) rfl rfl) ?_
   obtain ⟨e13, he13, hm⟩ := bindS hm
   refine lp rfl (p_idx Tryz.underlying93 ty128 rfl rfl (.imp (.fam 2 rfl) (fun _ h => h.look a1.Who)) he13) ?_
   refine lp rfl (p_fae fl128_1 rfl (.imp (.fam 2 rfl) (fun _ h => h.look a1.Who)) (getI_spec he13).2) ?_
   refine LJ.sat (fun _ h => h.takeR 2 rfl a1.Who) ?_
   refine r_ste (k := 0) (o := 1) (vs := [.int .i64 a1.At]) ty3 rfl rfl rfl rfl rfl rfl rfl (getI_spec he13).2 (Tclub_stay.mk e13.since a1.At e13.cents) rfl rfl ?_
   refine LJ.sat (fun _ h => h.giveR [1, 0] rfl) ?_
   refine lj_nil ?_
   refine nj_blk ?_
   obtain rfl := Option.some.inj hm
   exact nj_rt (Z0_1_, es0_1_, cl0_1_, es0_2_, cl0_2_, Z0_3_, es0_3_, cl0_3_) [2, 0, 1, 1] Tryz.results70 .nil rfl rfl
  ·have hm := ifB_f hb hm
   refine cj_seq ?_
   refine cj_reg ?_
   refine lp rfl (p_eql rfl rfl) ?_
   refine lp rfl (p_as rfl) ?_
   refine lj_seq ?_
   refine cj_if (b := a1.Kind == 3) rfl (fun hb => ?_) (fun hb => ?_)
   ·have hm := ifB_t hb hm
    refine cj_tail 10 (by kernel_rfl) (by kernel_rfl) ?_
    refine s_p rfl (p_mv rfl) ?_
    refine s_p rfl (p_nc rfl) ?_
    refine s_p rfl (p_fab fl54_2 rfl) ?_
    refine s_p rfl (p_lbs ty51 rfl (j := 1) rfl rfl) ?_
    refine s_p rfl (p_fab fl33_4 rfl) ?_
    refine s_p rfl (p_lbs ty9 rfl (j := 0) rfl rfl) ?_
    refine s_p rfl (p_lkm (vv := vv3) (k := a1.Who) (z := 0) Tryz.underlying51 (keyF9) (fun _ => by kernel_rfl) (.map 3 rfl) rfl rfl) ?_
    refine s_p rfl (p_fab fl33_6 rfl) ?_
    refine s_p rfl (p_lbs ty3 rfl (j := 0) rfl rfl) ?_
    refine s_p rfl (p_add rfl rfl) ?_
    refine s_nil ?_
    refine r_mpu (j := 3) (vv := vv3) (k := a1.Who) (v := (w64 (((lkM a0_2 a1.Who).getD 0) + a1.Cents))) Tryz.underlying51 keyF9 rfl rfl rfl rfl (fun es15 cl16 => ?_)
    refine lj_nil ?_
    refine nj_blk ?_
    obtain rfl := Option.some.inj hm
    exact nj_rt (Z0_1_, es0_1_, cl0_1_, es15, cl16, Z0_3_, es0_3_, cl0_3_) [1, 1, 1, 1] Tryz.results70 .nil rfl rfl
   ·have hm := ifB_f hb hm
    refine cj_seq ?_
    refine cj_reg ?_
    refine lp rfl (p_eql rfl rfl) ?_
    refine lp rfl (p_as rfl) ?_
    refine lj_seq ?_
    refine cj_if (b := a1.Kind == 4) rfl (fun hb => ?_) (fun hb => ?_)
    ·have hm := ifB_t hb hm
     refine cj_anyT [0, 1, 2, 3, 4, 5, 7] [9] (Sat w0 (keys [.box b0_ 54 [.int .i64 a0_0, .map (some b0_1_), .map (some b0_2_), .map (some b0_3_), s0_4_.v], .obj (famO kv9 SV.v (rowE R128) b0_1_ a0_1 Z0_1_ none es0_1_ cl0_1_), .obj (mapO kv9 b0_2_ (mpV vv3 a0_2) es0_2_ cl0_2_), .obj (famO kv9 (vvP Fh144) (entsP Fe144) b0_3_ a0_3 Z0_3_ none es0_3_ cl0_3_)]) A [.box b1 33 [.string a1.Site, .int .i64 a1.No, .int .i64 a1.At, .int .i64 a1.Kind, .string a1.Who, .string a1.Motion, .int .i64 a1.Cents, .bool a1.Yes, .string a1.Of, .int .i64 a1.Other], .box b0_ 54 [.int .i64 a0_0, .map (some b0_1_), .map (some b0_2_), .map (some b0_3_), s0_4_.v], .obj (famO kv9 SV.v (rowE R128) b0_1_ a0_1 Z0_1_ none es0_1_ cl0_1_), .obj (mapO kv9 b0_2_ (mpV vv3 a0_2) es0_2_ cl0_2_), .obj (famO kv9 (vvP Fh144) (entsP Fe144) b0_3_ a0_3 Z0_3_ none es0_3_ cl0_3_), .ro (RdS R3 (SV.v s0_4_) a0_4)]) (Sat w0 (keys [.box b0_ 54 [.int .i64 a0_0, .map (some b0_1_), .map (some b0_2_), .map (some b0_3_), s0_4_.v], .obj (famO kv9 SV.v (rowE R128) b0_1_ a0_1 Z0_1_ none es0_1_ cl0_1_), .obj (mapO kv9 b0_2_ (mpV vv3 a0_2) es0_2_ cl0_2_), .obj (famO kv9 (vvP Fh144) (entsP Fe144) b0_3_ a0_3 Z0_3_ none es0_3_ cl0_3_)]) A [.box b1 33 [.string a1.Site, .int .i64 a1.No, .int .i64 a1.At, .int .i64 a1.Kind, .string a1.Who, .string a1.Motion, .int .i64 a1.Cents, .bool a1.Yes, .string a1.Of, .int .i64 a1.Other], .box b0_ 54 [.int .i64 a0_0, .map (some b0_1_), .map (some b0_2_), .map (some b0_3_), s0_4_.v], .obj (famO kv9 SV.v (rowE R128) b0_1_ a0_1 Z0_1_ none es0_1_ cl0_1_), .obj (mapO kv9 b0_2_ (mpV vv3 a0_2) es0_2_ cl0_2_), .ro (RdS R3 (SV.v s0_4_) a0_4)]) (by kernel_rfl) ?_
     refine at_take2 0 rfl (by kernel_rfl) (by kernel_rfl) (by kernel_rfl) (fun _ h => h.picks [0, 0, 0, 0, 1] rfl) rfl rfl (p_mv rfl) (fun _ h => h.picks [0, 0, 0, 0, 1] rfl) ?_
     refine at_take2 1 rfl (by kernel_rfl) (by kernel_rfl) (by kernel_rfl) (fun _ h => h.picks [0, 0, 0, 0, 1] rfl) rfl rfl (p_nc rfl) (fun _ h => h.picks [0, 0, 0, 0, 1] rfl) ?_
     refine at_take2 2 rfl (by kernel_rfl) (by kernel_rfl) (by kernel_rfl) (fun _ h => h.picks [0, 0, 0, 0, 1] rfl) rfl rfl (p_fab fl54_3 rfl) (fun _ h => h.picks [0, 0, 0, 0, 1] rfl) ?_
     refine at_take2 3 rfl (by kernel_rfl) (by kernel_rfl) (by kernel_rfl) (fun _ h => h.picks [0, 0, 0, 0, 1] rfl) rfl rfl (p_lbs ty52 rfl (j := 1) rfl rfl) (fun _ h => h.picks [0, 0, 0, 0, 1] rfl) ?_
     refine at_take2 4 rfl (by kernel_rfl) (by kernel_rfl) (by kernel_rfl) (fun _ h => h.picks [0, 0, 0, 0, 1] rfl) rfl rfl (p_fab fl33_5 rfl) (fun _ h => h.picks [0, 0, 0, 0, 1] rfl) ?_
     refine at_take2 5 rfl (by kernel_rfl) (by kernel_rfl) (by kernel_rfl) (fun _ h => h.picks [0, 0, 0, 0, 1] rfl) rfl rfl (p_lbs ty9 rfl (j := 0) rfl rfl) (fun _ h => h.picks [0, 0, 0, 0, 1] rfl) ?_
     refine at_each (rs := [6]) (by kernel_rfl) (by decide) ?_
     refine (.cons rfl (fun I cnI => ?_) .nil)
     ·refine r_mkmap kv9 vv4 rfl (fun b22 => ?_)
      refine lj_nil ?_
      refine cnI _ _ (sof1 rfl rfl (fun _ h => h.picks [1, 1, 1, 1, 1, 1] rfl)) ?_
      refine at_take2 7 rfl (by kernel_rfl) (by kernel_rfl) (by kernel_rfl) (fun _ h => h.picks [0, 0, 0, 0, 1] rfl) rfl rfl (p_bld [.bool false, .map (some b22), .slice none 0 0] rfl (fun _ => by kernel_rfl)) (fun _ h => h.picks [1, 1, 1, 1, 2] rfl) ?_
      refine at_each (rs := [8]) (by kernel_rfl) (by decide) ?_
      refine (.cons rfl (fun I cnI => ?_) .nil)
      ·refine r_bx (cs := [.bool false, .map (some b22), .slice none 0 0]) rfl rfl rfl (fun b23 => ?_)
       refine lj_nil ?_
       refine cnI _ _ (sof1 rfl rfl (fun _ h => h.picks [2, 2, 2, 2, 2, 2] rfl)) ?_
       refine at_each (rs := [9]) (by kernel_rfl) (by decide) ?_
       refine (.cons rfl (fun I cnI => ?_) .nil)
       ·refine r_nil R9 ?_
        refine r_mpuF (x1 := (false, ([] : (List (ByteArray × Bool))), ([] : List ByteArray))) (g1 := some (b23, b22, (#[]), 0, nilS)) (k := a1.Motion) [7, 1, 1, 0] Tryz.underlying52 keyF9 rfl (.inl rfl) rfl rfl rfl (fun es25 cl26 => ?_)
        refine lj_nil ?_
        refine cnI _ _ (sof2 rfl rfl (fun _ h => h.picks [1, 1, 1, 1, 1] rfl)) ?_
        refine at_done (by kernel_rfl) ?_
        refine nj_blk ?_
        obtain rfl := Option.some.inj hm
        exact nj_rt (Z0_1_, es0_1_, cl0_1_, es0_2_, cl0_2_, (putM Z0_3_ a1.Motion (some (b23, b22, (#[]), 0, nilS))), es25, cl26) [2, 2, 2, 0] Tryz.results70 .nil rfl rfl
    ·have hm := ifB_f hb hm
     refine cj_seq ?_
     refine cj_reg ?_
     refine lp rfl (p_eql rfl rfl) ?_
     refine lp rfl (p_as rfl) ?_
     refine lj_seq ?_
     refine cj_if (b := a1.Kind == 5) rfl (fun hb => ?_) (fun hb => ?_)
     ·have hm := ifB_t hb hm
      refine cj_takeP 4 rfl a1.Motion fro144 (fun hx27 hz28 => ?_) (fun t30 q31 hx27 hq29 => ?_)
      ·have hm := optB_n hx27 hm
       refine cj_tail 14 (by kernel_rfl) (by kernel_rfl) ?_
       refine s_p rfl (p_mv rfl) ?_
       refine s_p rfl (p_nc rfl) ?_
       refine s_p rfl (p_fab fl54_3 rfl) ?_
       refine s_p rfl (p_lbs ty52 rfl (j := 1) rfl rfl) ?_
       refine s_p rfl (p_fab fl33_5 rfl) ?_
       refine s_p rfl (p_lbs ty9 rfl (j := 0) rfl rfl) ?_
       refine s_p rfl (p_lkPN (k := a1.Motion) Tryz.underlying52 (keyF9) (fun _ => by kernel_rfl) (.fam 4 rfl) hz28 rfl rfl) ?_
       cases hm
      ·have hm := optB_s hx27 hm
       refine cj_tail 14 (by kernel_rfl) (by kernel_rfl) ?_
       refine s_p rfl (p_mv rfl) ?_
       refine s_p rfl (p_nc rfl) ?_
       refine s_p rfl (p_fab fl54_3 rfl) ?_
       refine s_p rfl (p_lbs ty52 rfl (j := 5) rfl rfl) ?_
       refine s_p rfl (p_fab fl33_5 rfl) ?_
       refine s_p rfl (p_lbs ty9 rfl (j := 4) rfl rfl) ?_
       refine s_p rfl (p_lkP (k := a1.Motion) Tryz.underlying52 (keyF9) (fun _ => by kernel_rfl) (.fam 3 rfl) hq29 rfl rfl) ?_
       refine s_p rfl (p_nc rfl) ?_
       refine s_p rfl (p_fab fl146_1 rfl) ?_
       refine s_p rfl (p_lbs ty107 rfl (j := 0) rfl rfl) ?_
       refine s_p rfl (p_fab fl33_4 rfl) ?_
       refine s_p rfl (p_lbs ty9 rfl (j := 4) rfl rfl) ?_
       refine s_p rfl (p_fab fl33_7 rfl) ?_
       refine s_p rfl (p_lbs ty4 rfl (j := 4) rfl rfl) ?_
       refine s_nil ?_
       refine r_mpu (j := 1) (vv := vv4) (k := a1.Who) (v := a1.Yes) Tryz.underlying107 keyF9 rfl rfl rfl rfl (fun es35 cl36 => ?_)
       refine LJ.sat (fun _ h => h.giveP (t := (t30.1, (putM t30.2.1 a1.Who a1.Yes), t30.2.2)) (q' := (q31.1, q31.2.1, es35, cl36, q31.2.2.2.2)) [3, 0, 0, 0] rfl hq29 rfl) ?_
       refine lj_nil ?_
       refine nj_blk ?_
       obtain rfl := Option.some.inj hm
       exact nj_rt (Z0_1_, es0_1_, cl0_1_, es0_2_, cl0_2_, (repM Z0_3_ a1.Motion (some (q31.1, q31.2.1, es35, cl36, q31.2.2.2.2))), es0_3_, cl0_3_) [2, 2, 2, 0] Tryz.results70 .nil rfl rfl
     ·have hm := ifB_f hb hm
      refine cj_seq ?_
      refine cj_reg ?_
      refine lp rfl (p_eql rfl rfl) ?_
      refine lp rfl (p_as rfl) ?_
      refine lj_seq ?_
      refine cj_if (b := a1.Kind == 6) rfl (fun hb => ?_) (fun hb => ?_)
      ·have hm := ifB_t hb hm
       refine cj_seq ?_
       refine cj_takeP 4 rfl a1.Motion fro144 (fun hx40 hz41 => ?_) (fun t43 q44 hx40 hq42 => ?_)
       ·have hm := optB_n hx40 hm
        refine cj_quiet (by kernel_rfl) (by kernel_rfl) ?_
        refine q_p rfl (p_mv rfl) ?_
        refine q_p rfl (p_nc rfl) ?_
        refine q_p rfl (p_fab fl54_3 rfl) ?_
        refine q_p rfl (p_lbs ty52 rfl (j := 1) rfl rfl) ?_
        refine q_p rfl (p_fab fl33_5 rfl) ?_
        refine q_p rfl (p_lbs ty9 rfl (j := 0) rfl rfl) ?_
        refine q_p rfl (p_lkPN (k := a1.Motion) Tryz.underlying52 (keyF9) (fun _ => by kernel_rfl) (.fam 4 rfl) hz41 rfl rfl) ?_
        refine q_p rfl (p_as rfl) ?_
        refine q_nil ?_
        refine nj_seq ?_
        refine cj_reg ?_
        refine lp rfl (p_mv rfl) ?_
        refine lp rfl (p_mv rfl) ?_
        refine lp rfl (p_mv rfl) ?_
        obtain ⟨y45, hy45, hm⟩ := bindS hm
        refine r_call [1] cf20 rfl rfl (ok_club_books_members b0_ a0_0 b0_1_ Z0_1_ es0_1_ cl0_1_ a0_1 b0_2_ es0_2_ cl0_2_ a0_2 b0_3_ Z0_3_ es0_3_ cl0_3_ a0_3 s0_4_ a0_4 hy45) rfl rfl (.cons (.fam 1 rfl) (.cons (.map 2 rfl) (.cons (.fam 3 rfl) (.cons (.ro 4 rfl) .nil)))) (fun _ => rfl) rfl (fun s46 => ?_)
        cases hm
       ·have hm := optB_s hx40 hm
        refine cj_quiet (by kernel_rfl) (by kernel_rfl) ?_
        refine q_p rfl (p_mv rfl) ?_
        refine q_p rfl (p_nc rfl) ?_
        refine q_p rfl (p_fab fl54_3 rfl) ?_
        refine q_p rfl (p_lbs ty52 rfl (j := 5) rfl rfl) ?_
        refine q_p rfl (p_fab fl33_5 rfl) ?_
        refine q_p rfl (p_lbs ty9 rfl (j := 4) rfl rfl) ?_
        refine q_p rfl (p_lkP (k := a1.Motion) Tryz.underlying52 (keyF9) (fun _ => by kernel_rfl) (.fam 3 rfl) hq42 rfl rfl) ?_
        refine q_p rfl (p_as rfl) ?_
        refine q_nil ?_
        refine NJ.sat (fun _ h => h.giveP0 [3, 0, 0, 0] rfl hx40 hq42) ?_
        refine nj_seq ?_
        refine cj_reg ?_
        refine lp rfl (p_mv rfl) ?_
        refine lp rfl (p_mv rfl) ?_
        refine lp rfl (p_mv rfl) ?_
        obtain ⟨y53, hy53, hm⟩ := bindS hm
        refine r_call [2] cf20 rfl rfl (ok_club_books_members b0_ a0_0 b0_1_ Z0_1_ es0_1_ cl0_1_ a0_1 b0_2_ es0_2_ cl0_2_ a0_2 b0_3_ Z0_3_ es0_3_ cl0_3_ a0_3 s0_4_ a0_4 hy53) rfl rfl (.cons (.fam 2 rfl) (.cons (.map 3 rfl) (.cons (.fam 0 rfl) (.cons (.ro 4 rfl) .nil)))) (fun _ => rfl) rfl (fun s54 => ?_)
        refine LJ.sat (fun _ h => h.takeK 2 rfl fro144 hx40 hq42) ?_
        refine lp rfl (p_nc rfl) ?_
        refine lp rfl (p_fab fl146_0 rfl) ?_
        refine r_sb (vs := [.bool true]) (j := 0) ty4 rfl rfl rfl rfl rfl rfl rfl ?_
        refine lp rfl (p_nc rfl) ?_
        refine lp rfl (p_fab fl146_2 rfl) ?_
        refine r_sb (vs := [s54.v]) (j := 0) ty37 rfl rfl rfl rfl rfl rfl rfl ?_
        refine LJ.sat (fun _ h => h.giveP (t := (true, t43.2.1, y53)) (q' := (q44.1, q44.2.1, q44.2.2.1, q44.2.2.2.1, s54)) [3, 0, 0, 1] rfl hq42 rfl) ?_
        refine lj_nil ?_
        refine nj_blk ?_
        obtain rfl := Option.some.inj hm
        exact nj_rt (Z0_1_, es0_1_, cl0_1_, es0_2_, cl0_2_, (repM Z0_3_ a1.Motion (some (q44.1, q44.2.1, q44.2.2.1, q44.2.2.2.1, s54))), es0_3_, cl0_3_) [2, 3, 3, 0] Tryz.results70 .nil rfl rfl
      ·have hm := ifB_f hb hm
       refine cj_skip ?_
       refine nj_blk ?_
       obtain rfl := Option.some.inj hm
       exact nj_rt (Z0_1_, es0_1_, cl0_1_, es0_2_, cl0_2_, Z0_3_, es0_3_, cl0_3_) [1, 1, 1, 1] Tryz.results70 .nil rfl rfl
theorem ok_club_booksAt (s0_ : SV) (a0 : (List TAct)) (a1 : Int) {r : (Int × (List (ByteArray × (List Tclub_stay))) × (List (ByteArray × Int)) × (List (ByteArray × (Bool × (List (ByteArray × Bool)) × (List ByteArray)))) × (List Int))} (hm : m_club_booksAt a0 a1 = some r) :
  Ctr Tryz.prog 39 [s0_.v, .int .i64 a1].toArray ([] : List Ent) [RdS R33 (SV.v s0_) a0] (X := (Nat × Nat × List (ByteArray × SV) × Array MapEntry × Nat × Nat × Array MapEntry × Nat × Nat × List (ByteArray × Option (Nat × Nat × Array MapEntry × Nat × SV)) × Array MapEntry × Nat × SV)) (fun s => .pointer (some ⟨s.1, 0, none⟩)) (fun s => [.box s.1 54 [.int .i64 r.1, .map (some s.2.1), .map (some s.2.2.2.2.2.1), .map (some s.2.2.2.2.2.2.2.2.1), s.2.2.2.2.2.2.2.2.2.2.2.2.v], .obj (famO kv9 SV.v (rowE R128) s.2.1 r.2.1 s.2.2.1 none s.2.2.2.1 s.2.2.2.2.1), .obj (mapO kv9 s.2.2.2.2.2.1 (mpV vv3 r.2.2.1) s.2.2.2.2.2.2.1 s.2.2.2.2.2.2.2.1), .obj (famO kv9 (vvP Fh144) (entsP Fe144) s.2.2.2.2.2.2.2.2.1 r.2.2.2.1 s.2.2.2.2.2.2.2.2.2.1 none s.2.2.2.2.2.2.2.2.2.2.1 s.2.2.2.2.2.2.2.2.2.2.2.1), .row R3 (SV.v s.2.2.2.2.2.2.2.2.2.2.2.2) r.2.2.2.2]) := by
 unfold m_club_booksAt at hm
 refine ctr_mk (vs := [(0, s0_.v), (1, .int .i64 a1)]) Tryz.func39 rfl Tryz.ntmps39 rfl ⟨rfl, rfl, trivial⟩ (fun w0 A => ?_)
 refine cj_seq ?_
 refine cj_reg ?_
 refine lp rfl (p_as rfl) ?_
 refine lj_seq ?_
 refine cj_seq ?_
 refine cj_reg ?_
 refine lp rfl (p_mv rfl) ?_
 refine r_mkmapF kv9 SV.v (rowE R128) rfl (fun b1 => ?_)
 refine r_mkmap kv9 vv3 rfl (fun b2 => ?_)
 refine r_mkmapF kv9 (vvP Fh144) (entsP Fe144) rfl (fun b3 => ?_)
 refine lp rfl (p_bld [.int .i64 a1, .map (some b1), .map (some b2), .map (some b3), .slice none 0 0] rfl (fun _ => by kernel_rfl)) ?_
 refine r_bx (cs := [.int .i64 a1, .map (some b1), .map (some b2), .map (some b3), .slice none 0 0]) rfl rfl rfl (fun b4 => ?_)
 refine lp rfl (p_as rfl) ?_
 refine lj_seq ?_
 refine cj_seq ?_
 refine cj_seq ?_
 refine cj_reg ?_
 refine lp rfl (p_mv rfl) ?_
 refine lp rfl (p_mv rfl) ?_
 obtain ⟨y5, hy5, hm⟩ := bindS hm
 refine r_call [] cf22 rfl rfl (ok_club_counting s0_ a0 a1 hy5) rfl rfl (.cons (.ro 4 rfl) .nil) (fun _ => rfl) rfl (fun s6 => ?_)
 refine lp rfl (p_len Tryz.underlying22 rfl (.row 0 rfl)) ?_
 refine lp rfl (p_mv rfl) ?_
 refine lj_seq ?_
 refine cj_nil R3 ?_
 obtain ⟨f14, hf14, hm⟩ := bindS hm
 refine cj_range (γ := (List (ByteArray × Option (Nat × Nat × Array MapEntry × Nat × SV)) × Array MapEntry × Nat × Array MapEntry × Nat × List (ByteArray × SV) × Array MapEntry × Nat × SV)) (m := (y5.length : Int)) hf14 ([], #[], 0, #[], 0, [], #[], 0, nilS) (fun u11 g12 => [(0, s0_.v), (4, .pointer none), (5, .pointer (some ⟨b4, 0, none⟩)), (16, s6.v)]) (fun u11 g12 => Sat w0 (keys ([] : List Ent)) A [.row R3 (SV.v s6) y5, .box b4 54 [.int .i64 a1, .map (some b1), .map (some b2), .map (some b3), g12.2.2.2.2.2.2.2.2.v], .obj (famO kv9 (vvP Fh144) (entsP Fe144) b3 u11.1 g12.1 none g12.2.1 g12.2.2.1), .obj (mapO kv9 b2 (mpV vv3 u11.2.1) g12.2.2.2.1 g12.2.2.2.2.1), .obj (famO kv9 SV.v (rowE R128) b1 u11.2.2.1 g12.2.2.2.2.2.1 none g12.2.2.2.2.2.2.1 g12.2.2.2.2.2.2.2.1), .ro (RdS R33 (SV.v s0_) a0), .row R3 (SV.v g12.2.2.2.2.2.2.2.2) u11.2.2.2]) ⟨rfl, rfl, rfl, rfl, rfl, rfl, trivial⟩ (fun _ h => h.picks [1, 1, 1, 1, 1, 1, 0] rfl) (nat_lt _) (fun _ h => (FactAt.get (F := RdS R3 (SV.v s6) y5) (.row 1 rfl) h).1) (fun _ _ => ⟨rfl, rfl, rfl, rfl⟩) ⟨rfl, rfl, rfl, rfl, rfl⟩ rfl rfl rfl (fun u11 g12 e => ?_) (fun aftk13 i7 x8 u11 g12 k13 hx9 hs J hJk13 hBk13 hX I cnk13 => ?_)
 ·have hm := Flow.fin_b e hm
  refine nj_seq ?_
  refine cj_seq ?_
  refine cj_reg ?_
  refine lp rfl (p_mv rfl) ?_
  refine lp rfl (p_as rfl) ?_
  refine lj_seq ?_
  obtain rfl := Option.some.inj hm
  exact cj_rt (b4, b1, g12.2.2.2.2.2.1, g12.2.2.2.2.2.2.1, g12.2.2.2.2.2.2.2.1, b2, g12.2.2.2.1, g12.2.2.2.2.1, b3, g12.1, g12.2.1, g12.2.2.1, g12.2.2.2.2.2.2.2.2) [1, 3, 2, 1, 2] Tryz.results39 (.tmp rfl .nil) rfl rfl
 ·have hRk13 : ∀ t, k13 = .ret t → some t = some r := fun t e => by rw [hX t e] at hm; exact hm
  have hm := hs
  refine cj_seq ?_
  refine cj_reg ?_
  refine lp rfl (p_idx Tryz.underlying22 ty3 rfl rfl (.row 0 rfl) (getI_nat.trans hx9)) ?_
  refine lp rfl (p_lde (o := 0) ty3 rfl rfl (.row 0 rfl) hx9 rfl) ?_
  refine lp rfl (p_as rfl) ?_
  refine lj_seq ?_
  refine cj_seq ?_
  refine cj_reg ?_
  refine lp rfl (p_mv rfl) ?_
  refine lp rfl (p_mv rfl) ?_
  refine lp rfl (p_mv rfl) ?_
  obtain ⟨e16, he16, hm⟩ := bindS hm
  refine lp rfl (p_idx Tryz.underlying26 ty33 rfl rfl (.ro 5 rfl) he16) ?_
  refine lp rfl (p_lea ty33 rfl (.ro 5 rfl) (getI_spec he16).2) ?_
  obtain ⟨y17, hy17, hm⟩ := bindS hm
  refine r_call [1, 1] cf69 rfl rfl (ok_club_books_permits b4 a1 b1 g12.2.2.2.2.2.1 g12.2.2.2.2.2.2.1 g12.2.2.2.2.2.2.2.1 u11.2.2.1 b2 g12.2.2.2.1 g12.2.2.2.2.1 u11.2.1 b3 g12.1 g12.2.1 g12.2.2.1 u11.1 g12.2.2.2.2.2.2.2.2 u11.2.2.2 e16 hy17) rfl rfl (.cons (.fam 2 rfl) (.cons (.map 1 rfl) (.cons (.row 4 rfl) .nil))) (fun _ => rfl) rfl (fun _ => ?_)
  refine lj_seq ?_
  refine cj_if (b := y17) rfl (fun hb => ?_) (fun hb => ?_)
  ·have hm := ifB_t hb hm
   refine cj_reg ?_
   refine lp rfl (p_mv rfl) ?_
   refine lp rfl (p_mv rfl) ?_
   refine lp rfl (p_mv rfl) ?_
   obtain ⟨e18, he18, hm⟩ := bindS hm
   refine lp rfl (p_idx Tryz.underlying26 ty33 rfl rfl (.ro 5 rfl) he18) ?_
   refine lp rfl (p_lea ty33 rfl (.ro 5 rfl) (getI_spec he18).2) ?_
   obtain ⟨y19, hy19, hm⟩ := bindS hm
   refine r_call [0, 3, 2, 0] cf70 rfl rfl (ok_club_books_act b4 a1 b1 g12.2.2.2.2.2.1 g12.2.2.2.2.2.2.1 g12.2.2.2.2.2.2.2.1 u11.2.2.1 b2 g12.2.2.2.1 g12.2.2.2.2.1 u11.2.1 b3 g12.1 g12.2.1 g12.2.2.1 u11.1 g12.2.2.2.2.2.2.2.2 u11.2.2.2 e18 hy19) rfl rfl (.cons (.row 2 rfl) .nil) (fun _ => rfl) rfl (fun ⟨gz20, gz21, gz22, gz23, gz24, gz25, gz26, gz27⟩ => ?_)
   refine lj_nil ?_
   refine nj_blk ?_
   exact cnk13 _ _ (y19.2.2, y19.2.1, y19.1, u11.2.2.2) (gz25, gz26, gz27, gz23, gz24, gz20, gz21, gz22, g12.2.2.2.2.2.2.2.2) (hJk13 _ (Option.some.inj hm).symm) ⟨rfl, rfl, rfl, rfl, rfl, rfl, trivial⟩ (fun _ h => h.picks [4, 0, 2, 1, 0, 0, 0] rfl)
  ·have hm := ifB_f hb hm
   refine cj_reg ?_
   refine lp rfl (p_mv rfl) ?_
   refine lp rfl (p_mv rfl) ?_
   refine lp rfl (p_nc rfl) ?_
   refine lp rfl (p_fab fl54_4 rfl) ?_
   refine lp rfl (p_lbs ty22 rfl (j := 0) rfl rfl) ?_
   refine lp rfl (p_mv rfl) ?_
   refine r_bs R3 [x8] rfl rfl rfl (fun _ => by kernel_rfl) rfl (fun s28 => ?_)
   obtain ⟨q29, hq29, hm⟩ := bindS hm
   refine r_app (k := 7) Tryz.underlying22 ty3 rfl rfl rfl rfl (.row 0 rfl) hq29 rfl (fun s30 => ?_)
   refine lp rfl (p_nc rfl) ?_
   refine lp rfl (p_fab fl54_4 rfl) ?_
   refine r_sb (vs := [s30.v]) (j := 1) ty22 rfl rfl rfl rfl rfl rfl rfl ?_
   refine lj_nil ?_
   refine nj_blk ?_
   exact cnk13 _ _ (u11.1, u11.2.1, u11.2.2.1, q29) (g12.1, g12.2.1, g12.2.2.1, g12.2.2.2.1, g12.2.2.2.2.1, g12.2.2.2.2.2.1, g12.2.2.2.2.2.2.1, g12.2.2.2.2.2.2.2.1, s30) (hJk13 _ (Option.some.inj hm).symm) ⟨rfl, rfl, rfl, rfl, rfl, rfl, trivial⟩ (fun _ h => h.picks [3, 1, 1, 1, 1, 1, 1] rfl)
theorem ok_club_checkedAt (s0_ : SV) (a0 : (List TAct)) (a1 : Int) {r : (Option (Int × (List (ByteArray × (List Tclub_stay))) × (List (ByteArray × Int)) × (List (ByteArray × (Bool × (List (ByteArray × Bool)) × (List ByteArray)))) × (List Int))) × Int} (hm : m_club_checkedAt a0 a1 = some r) :
  Ctr Tryz.prog 18 [s0_.v, .int .i64 a1].toArray ([] : List Ent) [RdS R33 (SV.v s0_) a0] (X := (Nat × Nat × List (ByteArray × SV) × Array MapEntry × Nat × Nat × Array MapEntry × Nat × Nat × List (ByteArray × Option (Nat × Nat × Array MapEntry × Nat × SV)) × Array MapEntry × Nat × SV)) (fun s => .tuple [optV r.1 (.pointer (some ⟨s.1, 0, none⟩)), .int .i64 r.2].toArray) (fun s => (optE r.1 (fun t_ => [.box s.1 54 [.int .i64 t_.1, .map (some s.2.1), .map (some s.2.2.2.2.2.1), .map (some s.2.2.2.2.2.2.2.2.1), s.2.2.2.2.2.2.2.2.2.2.2.2.v], .obj (famO kv9 SV.v (rowE R128) s.2.1 t_.2.1 s.2.2.1 none s.2.2.2.1 s.2.2.2.2.1), .obj (mapO kv9 s.2.2.2.2.2.1 (mpV vv3 t_.2.2.1) s.2.2.2.2.2.2.1 s.2.2.2.2.2.2.2.1), .obj (famO kv9 (vvP Fh144) (entsP Fe144) s.2.2.2.2.2.2.2.2.1 t_.2.2.2.1 s.2.2.2.2.2.2.2.2.2.1 none s.2.2.2.2.2.2.2.2.2.2.1 s.2.2.2.2.2.2.2.2.2.2.2.1), .row R3 (SV.v s.2.2.2.2.2.2.2.2.2.2.2.2) t_.2.2.2.2])) ++ []) := by
 unfold m_club_checkedAt at hm
 refine ctr_mk (vs := [(0, s0_.v), (1, .int .i64 a1)]) Tryz.func18 rfl Tryz.ntmps18 rfl ⟨rfl, rfl, trivial⟩ (fun w0 A => ?_)
 refine cj_seq ?_
 refine cj_reg ?_
 refine lp rfl (p_as rfl) ?_
 refine lp rfl (p_as rfl) ?_
 refine lj_seq ?_
 refine cj_seq ?_
 refine cj_seq ?_
 refine cj_reg ?_
 refine lp rfl (p_mv rfl) ?_
 refine lp rfl (p_mv rfl) ?_
 obtain ⟨y1, hy1, hm⟩ := bindS hm
 refine r_call [] cf21 rfl rfl (ok_club_askedFault s0_ a0 a1 hy1) rfl rfl (.cons (.ro 0 rfl) .nil) (fun _ => rfl) rfl (fun _ => ?_)
 refine lp rfl (p_as rfl) ?_
 refine lj_seq ?_
 refine cj_seq ?_
 refine cj_reg ?_
 refine lp rfl (p_mv rfl) ?_
 refine lp rfl (p_neq rfl rfl) ?_
 refine lj_seq ?_
 refine cj_if (b := y1 != 0) rfl (fun hb => ?_) (fun hb => ?_)
 ·have hm := ifB_t hb hm
  refine cj_seq ?_
  refine cj_reg ?_
  refine lp rfl (p_mv rfl) ?_
  refine lp rfl (p_as rfl) ?_
  refine lp rfl (p_as rfl) ?_
  refine lj_seq ?_
  obtain rfl := Option.some.inj hm
  exact cj_rt (0, 0, [], #[], 0, 0, #[], 0, 0, [], #[], 0, nilS) [] Tryz.results18 (.tmp rfl (.tmp rfl .nil)) rfl rfl
 ·have hm := ifB_f hb hm
  refine cj_skip ?_
  refine nj_seq ?_
  refine cj_seq ?_
  refine cj_reg ?_
  refine lp rfl (p_mv rfl) ?_
  refine lp rfl (p_mv rfl) ?_
  obtain ⟨y2, hy2, hm⟩ := bindS hm
  refine r_call [] cf39 rfl rfl (ok_club_booksAt s0_ a0 a1 hy2) rfl rfl (.cons (.ro 0 rfl) .nil) (fun _ => rfl) rfl (fun ⟨b3, b4, gz5, gz6, gz7, b8, gz9, gz10, b11, gz12, gz13, gz14, s15⟩ => ?_)
  refine lp rfl (p_as rfl) ?_
  refine lp rfl (p_as rfl) ?_
  refine lj_seq ?_
  obtain rfl := Option.some.inj hm
  exact cj_rt (b3, b4, gz5, gz6, gz7, b8, gz9, gz10, b11, gz12, gz13, gz14, s15) [0, 0, 0, 0, 0] Tryz.results18 (.tmp rfl (.tmp rfl .nil)) rfl rfl
theorem ok_club_Refused (s0_ : SV) (a0 : (List TAct)) (a1 : Int) {r : (List Int) × Int} (hm : m_club_Refused a0 a1 = some r) :
  Ctr Tryz.prog 6 [s0_.v, .int .i64 a1].toArray ([] : List Ent) [RdS R33 (SV.v s0_) a0] (X := SV) (fun s => .tuple [s.v, .int .i64 r.2].toArray) (fun s => [.row R3 (SV.v s) r.1]) := by
 unfold m_club_Refused at hm
 refine ctr_mk (vs := [(0, s0_.v), (1, .int .i64 a1)]) Tryz.func6 rfl Tryz.ntmps6 rfl ⟨rfl, rfl, trivial⟩ (fun w0 A => ?_)
 refine cj_seq ?_
 refine cj_reg ?_
 refine lp rfl (p_as rfl) ?_
 refine lp rfl (p_as rfl) ?_
 refine lj_seq ?_
 refine cj_seq ?_
 refine cj_reg ?_
 refine lp rfl (p_mv rfl) ?_
 refine lp rfl (p_mv rfl) ?_
 obtain ⟨y1, hy1, hm⟩ := bindS hm
 refine optB_cases hm (fun ho3 hm => ?_) (fun t2 ho3 hm => ?_)
 ·have hc4 := (ok_club_checkedAt s0_ a0 a1 hy1)
  rw [ho3] at hc4
  simp only [optE_none, optE_some, optV_none, optV_some, List.nil_append, List.cons_append] at hc4
  refine r_call [] cf18 rfl rfl hc4 rfl rfl (.cons (.ro 0 rfl) .nil) (fun _ => rfl) rfl (fun ⟨b5, b6, gz7, gz8, gz9, b10, gz11, gz12, b13, gz14, gz15, gz16, s17⟩ => ?_)
  refine lp rfl (p_mv rfl) ?_
  refine lp rfl (p_ext rfl rfl) ?_
  refine lp rfl (p_ext rfl rfl) ?_
  refine lp rfl (p_as rfl) ?_
  refine lp rfl (p_as rfl) ?_
  refine lj_seq ?_
  refine cj_seq ?_
  refine cj_seq ?_
  refine cj_reg ?_
  refine lp rfl (p_mv rfl) ?_
  refine lp rfl (p_neq rfl rfl) ?_
  refine lj_seq ?_
  refine cj_if (b := y1.2 != 0) rfl (fun hb => ?_) (fun hb => ?_)
  ·have hm := ifB_t hb hm
   refine cj_seq ?_
   refine cj_reg ?_
   refine lp rfl (p_mv rfl) ?_
   refine lp rfl (p_as rfl) ?_
   refine lp rfl (p_as rfl) ?_
   refine lj_seq ?_
   obtain rfl := Option.some.inj hm
   refine cj_nil R3 ?_
   exact cj_rt nilS [0] Tryz.results6 (.tmp rfl (.tmp rfl .nil)) rfl rfl
  ·have hm := ifB_f hb hm
   refine cj_skip ?_
   refine nj_seq ?_
   refine cj_seq ?_
   refine cj_reg ?_
   refine lp rfl (p_mv rfl) ?_
   cases hm
 ·have hc4 := (ok_club_checkedAt s0_ a0 a1 hy1)
  rw [ho3] at hc4
  simp only [optE_none, optE_some, optV_none, optV_some, List.nil_append, List.cons_append] at hc4
  refine r_call [] cf18 rfl rfl hc4 rfl rfl (.cons (.ro 0 rfl) .nil) (fun _ => rfl) rfl (fun ⟨b19, b20, gz21, gz22, gz23, b24, gz25, gz26, b27, gz28, gz29, gz30, s31⟩ => ?_)
  refine lp rfl (p_mv rfl) ?_
  refine lp rfl (p_ext rfl rfl) ?_
  refine lp rfl (p_ext rfl rfl) ?_
  refine lp rfl (p_as rfl) ?_
  refine lp rfl (p_as rfl) ?_
  refine lj_seq ?_
  refine cj_seq ?_
  refine cj_seq ?_
  refine cj_reg ?_
  refine lp rfl (p_mv rfl) ?_
  refine lp rfl (p_neq rfl rfl) ?_
  refine lj_seq ?_
  refine cj_if (b := y1.2 != 0) rfl (fun hb => ?_) (fun hb => ?_)
  ·have hm := ifB_t hb hm
   refine cj_seq ?_
   refine cj_reg ?_
   refine lp rfl (p_mv rfl) ?_
   refine lp rfl (p_as rfl) ?_
   refine lp rfl (p_as rfl) ?_
   refine lj_seq ?_
   obtain rfl := Option.some.inj hm
   refine cj_nil R3 ?_
   exact cj_rt nilS [0] Tryz.results6 (.tmp rfl (.tmp rfl .nil)) rfl rfl
  ·have hm := ifB_f hb hm
   refine cj_skip ?_
   refine nj_seq ?_
   refine cj_seq ?_
   refine cj_reg ?_
   refine lp rfl (p_mv rfl) ?_
   refine lp rfl (p_nc rfl) ?_
   refine lp rfl (p_fab fl54_4 rfl) ?_
   refine lp rfl (p_lbs ty22 rfl (j := 0) rfl rfl) ?_
   refine lp rfl (p_as rfl) ?_
   refine lp rfl (p_as rfl) ?_
   refine lj_seq ?_
   obtain rfl := Option.some.inj hm
   exact cj_rt s31 [4] Tryz.results6 (.tmp rfl (.tmp rfl .nil)) rfl rfl
theorem ok_slices_Clone_api_Act_api_Act (s0_ : SV) (a0 : (List TAct)) {r : (List TAct)} (hm : m_slices_Clone_api_Act_api_Act a0 = some r) :
  Ctr Tryz.prog 7 [s0_.v].toArray ([] : List Ent) [RdS R33 (SV.v s0_) a0] (X := SV) (fun s => s.v) (fun s => [.row R33 (SV.v s) r]) := by
 unfold m_slices_Clone_api_Act_api_Act at hm
 refine ctr_mk (vs := [(0, s0_.v)]) Tryz.func7 rfl Tryz.ntmps7 rfl ⟨rfl, trivial⟩ (fun w0 A => ?_)
 refine cj_seq ?_
 refine cj_reg ?_
 refine lp rfl (p_as rfl) ?_
 refine lj_seq ?_
 refine cj_seq ?_
 refine cj_seq ?_
 refine cj_reg ?_
 refine lp rfl (p_mv rfl) ?_
 refine lp rfl (p_eqnil Tryz.underlying26 rfl rfl) ?_
 refine lj_seq ?_
 refine cj_if (b := s0_.a.isNone) rfl (fun hb => ?_) (fun hb => ?_)
 ·refine cj_pure (F := RdS R33 (SV.v s0_) a0) (.ro 0 rfl) (fun _ h => h.nil_of hb) (fun h5 => ?_)
  have hm : some [] = some r := by rw [h5, appM_nn] at hm; exact hm
  refine cj_seq ?_
  refine cj_reg ?_
  refine lp rfl (p_as rfl) ?_
  refine lj_seq ?_
  obtain rfl := Option.some.inj hm
  refine cj_nil R33 ?_
  exact cj_rt nilS [0] Tryz.results7 (.tmp rfl .nil) rfl rfl
 ·refine cj_skip ?_
  refine nj_seq ?_
  refine cj_seq ?_
  refine cj_reg ?_
  refine r_bs R33 ([] : List TAct) rfl rfl rfl (fun _ => by kernel_rfl) rfl (fun s2 => ?_)
  refine lp rfl (p_mv rfl) ?_
  obtain ⟨q3, hq3, hm⟩ := bindS hm
  refine r_app (k := 0) Tryz.underlying26 ty33 rfl rfl rfl rfl (.ro 1 rfl) hq3 rfl (fun s4 => ?_)
  refine lp rfl (p_as rfl) ?_
  refine lj_seq ?_
  obtain rfl := Option.some.inj hm
  exact cj_rt s4 [0] Tryz.results7 (.tmp rfl .nil) rfl rfl
theorem ok_club_books_purse (b0_ : Nat) (a0_0 : Int) (b0_1_ : Nat) (Z0_1_ : List (ByteArray × SV)) (es0_1_ : Array MapEntry) (cl0_1_ : Nat) (a0_1 : (List (ByteArray × (List Tclub_stay)))) (b0_2_ : Nat) (es0_2_ : Array MapEntry) (cl0_2_ : Nat) (a0_2 : (List (ByteArray × Int))) (b0_3_ : Nat) (Z0_3_ : List (ByteArray × Option (Nat × Nat × Array MapEntry × Nat × SV))) (es0_3_ : Array MapEntry) (cl0_3_ : Nat) (a0_3 : (List (ByteArray × (Bool × (List (ByteArray × Bool)) × (List ByteArray))))) (s0_4_ : SV) (a0_4 : (List Int)) {r : Int × Int} (hm : m_club_books_purse a0_0 a0_1 a0_2 a0_3 a0_4 = some r) :
  Ctr Tryz.prog 19 [.pointer (some ⟨b0_, 0, none⟩)].toArray [.box b0_ 54 [.int .i64 a0_0, .map (some b0_1_), .map (some b0_2_), .map (some b0_3_), s0_4_.v]] [FamAt kv9 SV.v (rowE R128) b0_1_ a0_1 Z0_1_ none es0_1_ cl0_1_, MapAt kv9 b0_2_ (mpV vv3 a0_2) es0_2_ cl0_2_, FamAt kv9 (vvP Fh144) (entsP Fe144) b0_3_ a0_3 Z0_3_ none es0_3_ cl0_3_, RdS R3 (SV.v s0_4_) a0_4] (X := Unit) (fun _ => .tuple [.int .i64 r.1, .int .i64 r.2].toArray) (fun _ => [.box b0_ 54 [.int .i64 a0_0, .map (some b0_1_), .map (some b0_2_), .map (some b0_3_), s0_4_.v]]) := by
 unfold m_club_books_purse at hm
 refine ctr_mk (vs := [(0, .pointer (some ⟨b0_, 0, none⟩))]) Tryz.func19 rfl Tryz.ntmps19 rfl ⟨rfl, trivial⟩ (fun w0 A => ?_)
 refine cj_seq ?_
 refine cj_reg ?_
 refine lp rfl (p_as rfl) ?_
 refine lp rfl (p_as rfl) ?_
 refine lj_seq ?_
 refine cj_seq ?_
 refine cj_reg ?_
 refine lp rfl (p_as rfl) ?_
 refine lj_seq ?_
 refine cj_seq ?_
 refine cj_seq ?_
 refine cj_reg ?_
 refine lp rfl (p_mv rfl) ?_
 refine lp rfl (p_nc rfl) ?_
 refine lp rfl (p_fab fl54_2 rfl) ?_
 refine lp rfl (p_lbs ty51 rfl (j := 0) rfl rfl) ?_
 refine r_rng (vv := vv3) Tryz.underlying51 (.ro 2 rfl) rfl rfl (fun b1 hrb2 => ?_)
 refine lj_seq ?_
 have hsq := anyOrd_spec hm
 refine cj_mrange (γ := Unit) (fun L hL => hsq L hL) hrb2 () (fun u8 g9 => [(2, .int .i64 0), (3, .int .i64 0), (4, .int .i64 u8)]) (fun u8 g9 => [.box b0_ 54 [.int .i64 a0_0, .map (some b0_1_), .map (some b0_2_), .map (some b0_3_), s0_4_.v], .ro (FamAt kv9 SV.v (rowE R128) b0_1_ a0_1 Z0_1_ none es0_1_ cl0_1_), .ro (MapAt kv9 b0_2_ (mpV vv3 a0_2) es0_2_ cl0_2_), .ro (FamAt kv9 (vvP Fh144) (entsP Fe144) b0_3_ a0_3 Z0_3_ none es0_3_ cl0_3_), .ro (RdS R3 (SV.v s0_4_) a0_4)]) ⟨rfl, rfl, rfl, rfl, trivial⟩ (fun _ h => h.picks [0, 0, 0, 0, 0, 0] rfl) (fun _ _ => (.ro 2 rfl)) (fun _ _ => ⟨rfl, rfl, rfl⟩) ⟨rfl, rfl, rfl⟩ rfl rfl (fun u8 g9 e => ?_) (fun aftk10 i3 x4 u8 g9 idx7 ix6 k10 hx5 hs J hJk10 hBk10 hX I cnk10 => ?_)
 ·have hm := Flow.fin_b (f := .brk u8) rfl e
  refine nj_seq ?_
  refine cj_seq ?_
  refine cj_seq ?_
  refine cj_reg ?_
  refine lp rfl (p_mv rfl) ?_
  refine lp rfl (p_gtr rfl rfl) ?_
  refine lj_seq ?_
  refine cj_if (b := decide (u8 > 1000000000000)) rfl (fun hb => ?_) (fun hb => ?_)
  ·have hm := ifB_t hb hm
   refine cj_seq ?_
   refine cj_reg ?_
   refine lp rfl (p_as rfl) ?_
   refine lp rfl (p_as rfl) ?_
   refine lj_seq ?_
   obtain rfl := Option.some.inj hm
   exact cj_rt () [0] Tryz.results19 (.tmp rfl (.tmp rfl .nil)) rfl rfl
  ·have hm := ifB_f hb hm
   refine cj_skip ?_
   refine nj_seq ?_
   refine cj_seq ?_
   refine cj_reg ?_
   refine lp rfl (p_mv rfl) ?_
   refine lp rfl (p_as rfl) ?_
   refine lp rfl (p_as rfl) ?_
   refine lj_seq ?_
   obtain rfl := Option.some.inj hm
   exact cj_rt () [0] Tryz.results19 (.tmp rfl (.tmp rfl .nil)) rfl rfl
 ·have hRk10 : ∀ t, k10 = .ret t → some t = some r := fun t e => hX t e
  have hm := hs
  refine cj_seq ?_
  refine cj_reg ?_
  refine lp rfl (p_ent (kk := x4.1) (v := x4.2) (vv := vv3) (k := 0) (.ro 3 rfl) rfl hx5 rfl) ?_
  refine lp rfl (p_ext rfl rfl) ?_
  refine lp rfl (p_as rfl) ?_
  refine lj_seq ?_
  refine cj_reg ?_
  refine lp rfl (p_mv rfl) ?_
  refine lp rfl (p_mv rfl) ?_
  refine lp rfl (p_add rfl rfl) ?_
  refine lp rfl (p_as rfl) ?_
  refine lj_nil ?_
  refine nj_blk ?_
  exact cnk10 _ _ (w64 (u8 + x4.2)) () (hJk10 _ (Option.some.inj hm).symm) ⟨rfl, rfl, rfl, rfl, trivial⟩ (fun _ h => h.picks [0, 0, 0, 0, 0, 0] rfl)
theorem ok_club_Purse (s0_ : SV) (a0 : (List TAct)) (a1 : Int) {r : Int × Int} (hm : m_club_Purse a0 a1 = some r) :
  Ctr Tryz.prog 8 [s0_.v, .int .i64 a1].toArray ([] : List Ent) [RdS R33 (SV.v s0_) a0] (X := Unit) (fun _ => .tuple [.int .i64 r.1, .int .i64 r.2].toArray) (fun _ => []) := by
 unfold m_club_Purse at hm
 refine ctr_mk (vs := [(0, s0_.v), (1, .int .i64 a1)]) Tryz.func8 rfl Tryz.ntmps8 rfl ⟨rfl, rfl, trivial⟩ (fun w0 A => ?_)
 refine cj_seq ?_
 refine cj_reg ?_
 refine lp rfl (p_as rfl) ?_
 refine lp rfl (p_as rfl) ?_
 refine lj_seq ?_
 refine cj_seq ?_
 refine cj_reg ?_
 refine lp rfl (p_mv rfl) ?_
 refine lp rfl (p_mv rfl) ?_
 obtain ⟨y1, hy1, hm⟩ := bindS hm
 refine optB_cases hm (fun ho3 hm => ?_) (fun t2 ho3 hm => ?_)
 ·have hc4 := (ok_club_checkedAt s0_ a0 a1 hy1)
  rw [ho3] at hc4
  simp only [optE_none, optE_some, optV_none, optV_some, List.nil_append, List.cons_append] at hc4
  refine r_call [] cf18 rfl rfl hc4 rfl rfl (.cons (.ro 0 rfl) .nil) (fun _ => rfl) rfl (fun ⟨b5, b6, gz7, gz8, gz9, b10, gz11, gz12, b13, gz14, gz15, gz16, s17⟩ => ?_)
  refine lp rfl (p_mv rfl) ?_
  refine lp rfl (p_ext rfl rfl) ?_
  refine lp rfl (p_ext rfl rfl) ?_
  refine lp rfl (p_as rfl) ?_
  refine lp rfl (p_as rfl) ?_
  refine lj_seq ?_
  refine cj_seq ?_
  refine cj_seq ?_
  refine cj_reg ?_
  refine lp rfl (p_mv rfl) ?_
  refine lp rfl (p_neq rfl rfl) ?_
  refine lj_seq ?_
  refine cj_if (b := y1.2 != 0) rfl (fun hb => ?_) (fun hb => ?_)
  ·have hm := ifB_t hb hm
   refine cj_seq ?_
   refine cj_reg ?_
   refine lp rfl (p_mv rfl) ?_
   refine lp rfl (p_as rfl) ?_
   refine lp rfl (p_as rfl) ?_
   refine lj_seq ?_
   obtain rfl := Option.some.inj hm
   exact cj_rt () [] Tryz.results8 (.tmp rfl (.tmp rfl .nil)) rfl rfl
  ·have hm := ifB_f hb hm
   refine cj_skip ?_
   refine nj_seq ?_
   refine cj_seq ?_
   refine cj_reg ?_
   refine lp rfl (p_mv rfl) ?_
   cases hm
 ·have hc4 := (ok_club_checkedAt s0_ a0 a1 hy1)
  rw [ho3] at hc4
  simp only [optE_none, optE_some, optV_none, optV_some, List.nil_append, List.cons_append] at hc4
  refine r_call [] cf18 rfl rfl hc4 rfl rfl (.cons (.ro 0 rfl) .nil) (fun _ => rfl) rfl (fun ⟨b18, b19, gz20, gz21, gz22, b23, gz24, gz25, b26, gz27, gz28, gz29, s30⟩ => ?_)
  refine lp rfl (p_mv rfl) ?_
  refine lp rfl (p_ext rfl rfl) ?_
  refine lp rfl (p_ext rfl rfl) ?_
  refine lp rfl (p_as rfl) ?_
  refine lp rfl (p_as rfl) ?_
  refine lj_seq ?_
  refine cj_seq ?_
  refine cj_seq ?_
  refine cj_reg ?_
  refine lp rfl (p_mv rfl) ?_
  refine lp rfl (p_neq rfl rfl) ?_
  refine lj_seq ?_
  refine cj_if (b := y1.2 != 0) rfl (fun hb => ?_) (fun hb => ?_)
  ·have hm := ifB_t hb hm
   refine cj_seq ?_
   refine cj_reg ?_
   refine lp rfl (p_mv rfl) ?_
   refine lp rfl (p_as rfl) ?_
   refine lp rfl (p_as rfl) ?_
   refine lj_seq ?_
   obtain rfl := Option.some.inj hm
   exact cj_rt () [] Tryz.results8 (.tmp rfl (.tmp rfl .nil)) rfl rfl
  ·have hm := ifB_f hb hm
   refine cj_skip ?_
   refine nj_seq ?_
   refine cj_seq ?_
   refine cj_reg ?_
   refine lp rfl (p_mv rfl) ?_
   obtain ⟨y31, hy31, hm⟩ := bindS hm
   refine r_call [0] cf19 rfl rfl (ok_club_books_purse b18 t2.1 b19 gz20 gz21 gz22 t2.2.1 b23 gz24 gz25 t2.2.2.1 b26 gz27 gz28 gz29 t2.2.2.2.1 s30 t2.2.2.2.2 hy31) rfl rfl (.cons (.fam 0 rfl) (.cons (.map 1 rfl) (.cons (.fam 2 rfl) (.cons (.row 3 rfl) .nil)))) (fun _ => rfl) rfl (fun _ => ?_)
   refine lp rfl (p_ext rfl rfl) ?_
   refine lp rfl (p_ext rfl rfl) ?_
   refine lp rfl (p_as rfl) ?_
   refine lp rfl (p_as rfl) ?_
   refine lj_seq ?_
   obtain rfl := Option.some.inj hm
   exact cj_rt () [] Tryz.results8 (.tmp rfl (.tmp rfl .nil)) rfl rfl
theorem ok_club_Members (s0_ : SV) (a0 : (List TAct)) (a1 : Int) {r : (List ByteArray) × Int} (hm : m_club_Members a0 a1 = some r) :
  Ctr Tryz.prog 9 [s0_.v, .int .i64 a1].toArray ([] : List Ent) [RdS R33 (SV.v s0_) a0] (X := SV) (fun s => .tuple [s.v, .int .i64 r.2].toArray) (fun s => [.row R9 (SV.v s) r.1]) := by
 unfold m_club_Members at hm
 refine ctr_mk (vs := [(0, s0_.v), (1, .int .i64 a1)]) Tryz.func9 rfl Tryz.ntmps9 rfl ⟨rfl, rfl, trivial⟩ (fun w0 A => ?_)
 refine cj_seq ?_
 refine cj_reg ?_
 refine lp rfl (p_as rfl) ?_
 refine lp rfl (p_as rfl) ?_
 refine lj_seq ?_
 refine cj_seq ?_
 refine cj_reg ?_
 refine lp rfl (p_mv rfl) ?_
 refine lp rfl (p_mv rfl) ?_
 obtain ⟨y1, hy1, hm⟩ := bindS hm
 refine optB_cases hm (fun ho3 hm => ?_) (fun t2 ho3 hm => ?_)
 ·have hc4 := (ok_club_checkedAt s0_ a0 a1 hy1)
  rw [ho3] at hc4
  simp only [optE_none, optE_some, optV_none, optV_some, List.nil_append, List.cons_append] at hc4
  refine r_call [] cf18 rfl rfl hc4 rfl rfl (.cons (.ro 0 rfl) .nil) (fun _ => rfl) rfl (fun ⟨b5, b6, gz7, gz8, gz9, b10, gz11, gz12, b13, gz14, gz15, gz16, s17⟩ => ?_)
  refine lp rfl (p_mv rfl) ?_
  refine lp rfl (p_ext rfl rfl) ?_
  refine lp rfl (p_ext rfl rfl) ?_
  refine lp rfl (p_as rfl) ?_
  refine lp rfl (p_as rfl) ?_
  refine lj_seq ?_
  refine cj_seq ?_
  refine cj_seq ?_
  refine cj_reg ?_
  refine lp rfl (p_mv rfl) ?_
  refine lp rfl (p_neq rfl rfl) ?_
  refine lj_seq ?_
  refine cj_if (b := y1.2 != 0) rfl (fun hb => ?_) (fun hb => ?_)
  ·have hm := ifB_t hb hm
   refine cj_seq ?_
   refine cj_reg ?_
   refine lp rfl (p_mv rfl) ?_
   refine lp rfl (p_as rfl) ?_
   refine lp rfl (p_as rfl) ?_
   refine lj_seq ?_
   obtain rfl := Option.some.inj hm
   refine cj_nil R9 ?_
   exact cj_rt nilS [0] Tryz.results9 (.tmp rfl (.tmp rfl .nil)) rfl rfl
  ·have hm := ifB_f hb hm
   refine cj_skip ?_
   refine nj_seq ?_
   refine cj_seq ?_
   refine cj_reg ?_
   refine lp rfl (p_mv rfl) ?_
   cases hm
 ·have hc4 := (ok_club_checkedAt s0_ a0 a1 hy1)
  rw [ho3] at hc4
  simp only [optE_none, optE_some, optV_none, optV_some, List.nil_append, List.cons_append] at hc4
  refine r_call [] cf18 rfl rfl hc4 rfl rfl (.cons (.ro 0 rfl) .nil) (fun _ => rfl) rfl (fun ⟨b19, b20, gz21, gz22, gz23, b24, gz25, gz26, b27, gz28, gz29, gz30, s31⟩ => ?_)
  refine lp rfl (p_mv rfl) ?_
  refine lp rfl (p_ext rfl rfl) ?_
  refine lp rfl (p_ext rfl rfl) ?_
  refine lp rfl (p_as rfl) ?_
  refine lp rfl (p_as rfl) ?_
  refine lj_seq ?_
  refine cj_seq ?_
  refine cj_seq ?_
  refine cj_reg ?_
  refine lp rfl (p_mv rfl) ?_
  refine lp rfl (p_neq rfl rfl) ?_
  refine lj_seq ?_
  refine cj_if (b := y1.2 != 0) rfl (fun hb => ?_) (fun hb => ?_)
  ·have hm := ifB_t hb hm
   refine cj_seq ?_
   refine cj_reg ?_
   refine lp rfl (p_mv rfl) ?_
   refine lp rfl (p_as rfl) ?_
   refine lp rfl (p_as rfl) ?_
   refine lj_seq ?_
   obtain rfl := Option.some.inj hm
   refine cj_nil R9 ?_
   exact cj_rt nilS [0] Tryz.results9 (.tmp rfl (.tmp rfl .nil)) rfl rfl
  ·have hm := ifB_f hb hm
   refine cj_skip ?_
   refine nj_seq ?_
   refine cj_seq ?_
   refine cj_reg ?_
   refine lp rfl (p_mv rfl) ?_
   obtain ⟨y33, hy33, hm⟩ := bindS hm
   refine r_call [0] cf20 rfl rfl (ok_club_books_members b19 t2.1 b20 gz21 gz22 gz23 t2.2.1 b24 gz25 gz26 t2.2.2.1 b27 gz28 gz29 gz30 t2.2.2.2.1 s31 t2.2.2.2.2 hy33) rfl rfl (.cons (.fam 0 rfl) (.cons (.map 1 rfl) (.cons (.fam 2 rfl) (.cons (.row 3 rfl) .nil)))) (fun _ => rfl) rfl (fun s34 => ?_)
   refine lp rfl (p_as rfl) ?_
   refine lp rfl (p_as rfl) ?_
   refine lj_seq ?_
   obtain rfl := Option.some.inj hm
   exact cj_rt s34 [0] Tryz.results9 (.tmp rfl (.tmp rfl .nil)) rfl rfl
theorem ok_club_Counting (s0_ : SV) (a0 : (List TAct)) (a1 : Int) {r : (List Int) × Int} (hm : m_club_Counting a0 a1 = some r) :
  Ctr Tryz.prog 10 [s0_.v, .int .i64 a1].toArray ([] : List Ent) [RdS R33 (SV.v s0_) a0] (X := SV) (fun s => .tuple [s.v, .int .i64 r.2].toArray) (fun s => [.row R3 (SV.v s) r.1]) := by
 unfold m_club_Counting at hm
 refine ctr_mk (vs := [(0, s0_.v), (1, .int .i64 a1)]) Tryz.func10 rfl Tryz.ntmps10 rfl ⟨rfl, rfl, trivial⟩ (fun w0 A => ?_)
 refine cj_seq ?_
 refine cj_reg ?_
 refine lp rfl (p_as rfl) ?_
 refine lp rfl (p_as rfl) ?_
 refine lj_seq ?_
 refine cj_seq ?_
 refine cj_seq ?_
 refine cj_reg ?_
 refine lp rfl (p_mv rfl) ?_
 refine lp rfl (p_mv rfl) ?_
 obtain ⟨y1, hy1, hm⟩ := bindS hm
 refine r_call [] cf21 rfl rfl (ok_club_askedFault s0_ a0 a1 hy1) rfl rfl (.cons (.ro 0 rfl) .nil) (fun _ => rfl) rfl (fun _ => ?_)
 refine lp rfl (p_as rfl) ?_
 refine lj_seq ?_
 refine cj_seq ?_
 refine cj_reg ?_
 refine lp rfl (p_mv rfl) ?_
 refine lp rfl (p_neq rfl rfl) ?_
 refine lj_seq ?_
 refine cj_if (b := y1 != 0) rfl (fun hb => ?_) (fun hb => ?_)
 ·have hm := ifB_t hb hm
  refine cj_seq ?_
  refine cj_reg ?_
  refine lp rfl (p_mv rfl) ?_
  refine lp rfl (p_as rfl) ?_
  refine lp rfl (p_as rfl) ?_
  refine lj_seq ?_
  obtain rfl := Option.some.inj hm
  refine cj_nil R3 ?_
  exact cj_rt nilS [0] Tryz.results10 (.tmp rfl (.tmp rfl .nil)) rfl rfl
 ·have hm := ifB_f hb hm
  refine cj_skip ?_
  refine nj_seq ?_
  refine cj_seq ?_
  refine cj_reg ?_
  refine lp rfl (p_mv rfl) ?_
  refine lp rfl (p_mv rfl) ?_
  obtain ⟨y3, hy3, hm⟩ := bindS hm
  refine r_call [] cf22 rfl rfl (ok_club_counting s0_ a0 a1 hy3) rfl rfl (.cons (.ro 0 rfl) .nil) (fun _ => rfl) rfl (fun s4 => ?_)
  refine lp rfl (p_as rfl) ?_
  refine lp rfl (p_as rfl) ?_
  refine lj_seq ?_
  obtain rfl := Option.some.inj hm
  exact cj_rt s4 [0] Tryz.results10 (.tmp rfl (.tmp rfl .nil)) rfl rfl
theorem ok_gleekeep2_errs (s0_ : SV) (a0 : (List Int)) {r : Int} (hm : m_gleekeep2_errs a0 = some r) :
  Ctr Tryz.prog 11 [s0_.v].toArray ([] : List Ent) [RdS R29 (SV.v s0_) a0] (X := Unit) (fun _ => .int .i64 r) (fun _ => []) := by
 unfold m_gleekeep2_errs at hm
 refine ctr_mk (vs := [(0, s0_.v)]) Tryz.func11 rfl Tryz.ntmps11 rfl ⟨rfl, trivial⟩ (fun w0 A => ?_)
 refine cj_seq ?_
 refine cj_reg ?_
 refine lp rfl (p_as rfl) ?_
 refine lj_seq ?_
 refine cj_seq ?_
 refine cj_seq ?_
 refine cj_reg ?_
 refine lp rfl (p_mv rfl) ?_
 refine lp rfl (p_len Tryz.underlying59 rfl (.ro 0 rfl)) ?_
 refine lp rfl (p_mv rfl) ?_
 refine lj_seq ?_
 obtain ⟨f7, hf7, hm⟩ := bindS hm
 refine cj_range (γ := Unit) (m := (a0.length : Int)) hf7 () (fun u4 g5 => [(2, .int .i64 0), (5, s0_.v)]) (fun u4 g5 => Sat w0 (keys ([] : List Ent)) A [.ro (RdS R29 (SV.v s0_) a0)]) ⟨rfl, rfl, rfl, rfl, trivial⟩ (fun _ h => h.picks [0] rfl) (nat_lt _) (fun _ h => (FactAt.get (F := RdS R29 (SV.v s0_) a0) (.ro 0 rfl) h).1) (fun _ _ => ⟨rfl, rfl, rfl, rfl⟩) ⟨rfl, rfl, rfl, rfl, rfl⟩ rfl rfl rfl (fun u4 g5 e => ?_) (fun aftk6 i1 x2 u4 g5 k6 hx3 hs J hJk6 hBk6 hX I cnk6 => ?_)
 ·have hm := Flow.fin_b e hm
  refine nj_seq ?_
  refine cj_seq ?_
  refine cj_reg ?_
  refine lp rfl (p_as rfl) ?_
  refine lj_seq ?_
  obtain rfl := Option.some.inj hm
  exact cj_rt () [] Tryz.results11 (.tmp rfl .nil) rfl rfl
 ·have hRk6 : ∀ t, k6 = .ret t → some t = some r := fun t e => by rw [hX t e] at hm; exact hm
  have hm := hs
  refine cj_seq ?_
  refine cj_reg ?_
  refine lp rfl (p_idx Tryz.underlying59 ty29 rfl rfl (.ro 0 rfl) (getI_nat.trans hx3)) ?_
  refine lp rfl (p_lde (o := 0) ty29 rfl rfl (.ro 0 rfl) hx3 rfl) ?_
  refine lp rfl (p_as rfl) ?_
  refine lj_seq ?_
  refine cj_seq ?_
  refine cj_reg ?_
  refine lp rfl (p_mv rfl) ?_
  refine lp rfl (p_neq rfl rfl) ?_
  refine lj_seq ?_
  refine cj_if (b := x2 != 0) rfl (fun hb => ?_) (fun hb => ?_)
  ·have hm := ifB_t hb hm
   refine cj_seq ?_
   refine cj_reg ?_
   refine lp rfl (p_mv rfl) ?_
   refine lp rfl (p_as rfl) ?_
   refine lj_seq ?_
   have hm := hRk6 _ (Option.some.inj hm).symm
   obtain rfl := Option.some.inj hm
   exact cj_rt () [] Tryz.results11 (.tmp rfl .nil) rfl rfl
  ·have hm := ifB_f hb hm
   refine cj_skip ?_
   refine nj_blk ?_
   exact cnk6 _ _ () () (hJk6 _ (Option.some.inj hm).symm) ⟨rfl, rfl, rfl, rfl, trivial⟩ (fun _ h => h.picks [0] rfl)
theorem ok_slices_Equal_string_string (s0_ : SV) (a0 : (List ByteArray)) (s1_ : SV) (a1 : (List ByteArray)) {r : Bool} (hm : m_slices_Equal_string_string a0 a1 = some r) :
  Ctr Tryz.prog 12 [s0_.v, s1_.v].toArray ([] : List Ent) [RdS R9 (SV.v s0_) a0, RdS R9 (SV.v s1_) a1] (X := Unit) (fun _ => .bool r) (fun _ => []) := by
 unfold m_slices_Equal_string_string at hm
 refine ctr_mk (vs := [(0, s0_.v), (1, s1_.v)]) Tryz.func12 rfl Tryz.ntmps12 rfl ⟨rfl, rfl, trivial⟩ (fun w0 A => ?_)
 refine cj_seq ?_
 refine cj_reg ?_
 refine lp rfl (p_as rfl) ?_
 refine lj_seq ?_
 refine cj_seq ?_
 refine cj_seq ?_
 refine cj_reg ?_
 refine lp rfl (p_mv rfl) ?_
 refine lp rfl (p_len Tryz.underlying37 rfl (.ro 0 rfl)) ?_
 refine lp rfl (p_mv rfl) ?_
 refine lp rfl (p_len Tryz.underlying37 rfl (.ro 1 rfl)) ?_
 refine lp rfl (p_neq rfl rfl) ?_
 refine lj_seq ?_
 refine cj_if (b := (a0.length : Int) != (a1.length : Int)) rfl (fun hb => ?_) (fun hb => ?_)
 ·have hm := ifB_t hb hm
  refine cj_seq ?_
  refine cj_reg ?_
  refine lp rfl (p_as rfl) ?_
  refine lj_seq ?_
  obtain rfl := Option.some.inj hm
  exact cj_rt () [] Tryz.results12 (.tmp rfl .nil) rfl rfl
 ·have hm := ifB_f hb hm
  refine cj_skip ?_
  refine nj_seq ?_
  refine cj_seq ?_
  refine cj_seq ?_
  refine cj_reg ?_
  refine lp rfl (p_mv rfl) ?_
  refine lp rfl (p_len Tryz.underlying37 rfl (.ro 0 rfl)) ?_
  refine lp rfl (p_mv rfl) ?_
  refine lj_seq ?_
  obtain ⟨f7, hf7, hm⟩ := bindS hm
  refine cj_range (γ := Unit) (m := (a0.length : Int)) hf7 () (fun u4 g5 => [(0, s0_.v), (1, s1_.v), (4, .bool false)]) (fun u4 g5 => Sat w0 (keys ([] : List Ent)) A [.ro (RdS R9 (SV.v s0_) a0), .ro (RdS R9 (SV.v s1_) a1)]) ⟨rfl, rfl, rfl, rfl, rfl, trivial⟩ (fun _ h => h.picks [0, 0] rfl) (nat_lt _) (fun _ h => (FactAt.get (F := RdS R9 (SV.v s0_) a0) (.ro 0 rfl) h).1) (fun _ _ => ⟨rfl, rfl, rfl, rfl⟩) ⟨rfl, rfl, rfl, rfl, rfl⟩ rfl rfl rfl (fun u4 g5 e => ?_) (fun aftk6 i1 x2 u4 g5 k6 hx3 hs J hJk6 hBk6 hX I cnk6 => ?_)
  ·have hm := Flow.fin_b e hm
   refine nj_seq ?_
   refine cj_seq ?_
   refine cj_reg ?_
   refine lp rfl (p_as rfl) ?_
   refine lj_seq ?_
   obtain rfl := Option.some.inj hm
   exact cj_rt () [] Tryz.results12 (.tmp rfl .nil) rfl rfl
  ·have hRk6 : ∀ t, k6 = .ret t → some t = some r := fun t e => by rw [hX t e] at hm; exact hm
   have hm := hs
   refine cj_seq ?_
   refine cj_reg ?_
   refine lp rfl (p_mv rfl) ?_
   refine lp rfl (p_as rfl) ?_
   refine lj_seq ?_
   refine cj_seq ?_
   refine cj_quiet (by kernel_rfl) (by kernel_rfl) ?_
   refine q_p rfl (p_mv rfl) ?_
   refine q_p rfl (p_mv rfl) ?_
   refine q_p rfl (p_idx Tryz.underlying37 ty9 rfl rfl (.ro 0 rfl) (getI_nat.trans hx3)) ?_
   refine q_p rfl (p_lde (o := 0) ty9 rfl rfl (.ro 0 rfl) hx3 rfl) ?_
   refine q_p rfl (p_mv rfl) ?_
   refine q_p rfl (p_mv rfl) ?_
   obtain ⟨e8, he8, hm⟩ := bindS hm
   refine q_p rfl (p_idx Tryz.underlying37 ty9 rfl rfl (.ro 1 rfl) he8) ?_
   refine q_p rfl (p_lde (o := 0) ty9 rfl rfl (.ro 1 rfl) (getI_spec he8).2 rfl) ?_
   refine q_p rfl (p_nes rfl rfl) ?_
   refine q_nil ?_
   refine nj_seq ?_
   refine cj_if (b := !(x2.toList == e8.toList)) rfl (fun hb => ?_) (fun hb => ?_)
   ·have hm := ifB_t hb hm
    refine cj_seq ?_
    refine cj_reg ?_
    refine lp rfl (p_as rfl) ?_
    refine lj_seq ?_
    have hm := hRk6 _ (Option.some.inj hm).symm
    obtain rfl := Option.some.inj hm
    exact cj_rt () [] Tryz.results12 (.tmp rfl .nil) rfl rfl
   ·have hm := ifB_f hb hm
    refine cj_skip ?_
    refine nj_blk ?_
    exact cnk6 _ _ () () (hJk6 _ (Option.some.inj hm).symm) ⟨rfl, rfl, rfl, rfl, rfl, trivial⟩ (fun _ h => h.picks [0, 0] rfl)
theorem ok_piece_isUnit (a0 : Int) {r : Bool} (hm : m_piece_isUnit a0 = some r) :
  Ctr Tryz.prog 125 [.int .i64 a0].toArray ([] : List Ent) [] (X := Unit) (fun _ => .bool r) (fun _ => []) := by
 unfold m_piece_isUnit at hm
 refine ctr_mk (vs := [(0, .int .i64 a0)]) Tryz.func125 rfl Tryz.ntmps125 rfl ⟨rfl, trivial⟩ (fun w0 A => ?_)
 refine cj_seq ?_
 refine cj_reg ?_
 refine lp rfl (p_as rfl) ?_
 refine lj_seq ?_
 refine cj_seq ?_
 refine cj_reg ?_
 refine r_bs R3 [1, 2, 4, 8, 16] rfl rfl rfl (fun _ => by kernel_rfl) rfl (fun s1 => ?_)
 refine lp rfl (p_mv rfl) ?_
 obtain ⟨y2, hy2, hm⟩ := bindS hm
 refine r_call [] cf13 rfl rfl (ok_slices_Contains_int_int s1 [1, 2, 4, 8, 16] a0 hy2) rfl rfl (.cons (.row 0 rfl) .nil) (fun _ => rfl) rfl (fun _ => ?_)
 refine lp rfl (p_as rfl) ?_
 refine lj_seq ?_
 obtain rfl := Option.some.inj hm
 exact cj_rt () [] Tryz.results125 (.tmp rfl .nil) rfl rfl
theorem ok_piece_barFault (a0 : TBar) {r : Int} (hm : m_piece_barFault a0 = some r) :
  Ctr Tryz.prog 102 [.agg (R63.enc a0).toArray].toArray ([] : List Ent) [] (X := Unit) (fun _ => .int .i64 r) (fun _ => []) := by
 unfold m_piece_barFault at hm
 refine ctr_mk (vs := [(0, .agg (R63.enc a0).toArray)]) Tryz.func102 rfl Tryz.ntmps102 rfl ⟨rfl, trivial⟩ (fun w0 A => ?_)
 refine cj_seq ?_
 refine cj_reg ?_
 refine r_bx (cs := [.int .i64 a0.Beats, .int .i64 a0.Unit, .int .i64 a0.Close, .int .i64 a0.Ending, .bool a0.Open]) rfl rfl rfl (fun b1 => ?_)
 refine lp rfl (p_as rfl) ?_
 refine lj_seq ?_
 refine cj_seq ?_
 refine cj_seq ?_
 refine cj_reg ?_
 obtain ⟨k4, hk4, hm⟩ := bindS hm
 have hRk4 : ∀ t, k4 = .inr t → some t = some r := fun t e => by rw [e] at hm; exact hm
 refine lj_join (σ := Bool) (γ := Unit) (fun u2 => k4 = .inl u2) (fun u2 g3 => [(2, .int .i64 0), (26, .bool u2)]) (fun u2 g3 => Sat w0 (keys ([] : List Ent)) A []) (fun u2 g3 hq => ?_) (fun J cnk4 => ?_)
 ·have hm := Sum.fin_l hq hm
  refine cj_if (b := u2) rfl (fun hb => ?_) (fun hb => ?_)
  ·have hm := ifB_t hb hm
   refine cj_seq ?_
   refine cj_reg ?_
   refine lp rfl (p_as rfl) ?_
   refine lj_seq ?_
   obtain rfl := Option.some.inj hm
   exact cj_rt () [] Tryz.results102 (.tmp rfl .nil) rfl rfl
  ·have hm := ifB_f hb hm
   refine cj_skip ?_
   refine nj_seq ?_
   refine cj_seq ?_
   refine cj_reg ?_
   refine lp rfl (p_as rfl) ?_
   refine lj_seq ?_
   obtain rfl := Option.some.inj hm
   exact cj_rt () [] Tryz.results102 (.tmp rfl .nil) rfl rfl
 ·have hm := hk4
  refine lp rfl (p_fab fl63_0 rfl) ?_
  refine lp rfl (p_lbs ty3 rfl (j := 0) rfl rfl) ?_
  obtain ⟨y5, hy5, hm⟩ := bindS hm
  refine r_call [] cf76 rfl rfl (ok_kit_Outside a0.Beats 1 16 hy5) rfl rfl .nil (fun _ => rfl) rfl (fun _ => ?_)
  refine lp rfl (p_mv rfl) ?_
  refine lcase (i := 6) y5 rfl (fun hb => ?_) (fun hb => ?_)
  ·have hm := ifB_t hb hm
   refine ls false rfl rfl rfl rfl ?_
   refine ls false rfl rfl rfl rfl ?_
   refine ls false rfl rfl rfl rfl ?_
   refine ls false rfl rfl rfl rfl ?_
   refine lp rfl (p_pkt rfl rfl) ?_
   refine lp rfl (p_mv rfl) ?_
   refine ls false rfl rfl rfl rfl ?_
   refine ls false rfl rfl rfl rfl ?_
   refine ls false rfl rfl rfl rfl ?_
   refine ls false rfl rfl rfl rfl ?_
   refine lsu rfl rfl rfl rfl ?_
   refine lsu rfl rfl rfl rfl ?_
   refine lsu rfl rfl rfl rfl ?_
   refine ls false rfl rfl rfl rfl ?_
   refine lp rfl (p_pkt rfl rfl) ?_
   refine lp rfl (p_mv rfl) ?_
   refine ls false rfl rfl rfl rfl ?_
   refine ls false rfl rfl rfl rfl ?_
   refine ls false rfl rfl rfl rfl ?_
   refine lp rfl (p_pkt rfl rfl) ?_
   refine lj_nil ?_
   exact cnk4 _ _ true () (Option.some.inj hm).symm ⟨rfl, rfl, trivial⟩ (fun _ h => h.picks [] rfl)
  ·have hm := ifB_f hb hm
   refine lg false rfl rfl rfl ?_
   refine lp rfl (p_fab fl63_1 rfl) ?_
   refine lg false rfl rfl rfl ?_
   refine lp rfl (p_lbs ty3 rfl (j := 0) rfl rfl) ?_
   refine lg false rfl rfl rfl ?_
   obtain ⟨y6, hy6, hm⟩ := bindS hm
   refine r_call [] cf125 rfl rfl (ok_piece_isUnit a0.Unit hy6) rfl rfl .nil (fun _ => rfl) rfl (fun _ => ?_)
   refine lg false rfl rfl rfl ?_
   refine lp rfl (p_not rfl) ?_
   refine lp rfl (p_pkf rfl rfl) ?_
   refine lp rfl (p_mv rfl) ?_
   refine lcase (i := 12) (!y6) rfl (fun hb => ?_) (fun hb => ?_)
   ·have hm := ifB_t hb hm
    refine ls false rfl rfl rfl rfl ?_
    refine ls false rfl rfl rfl rfl ?_
    refine ls false rfl rfl rfl rfl ?_
    refine ls false rfl rfl rfl rfl ?_
    refine lsu rfl rfl rfl rfl ?_
    refine lsu rfl rfl rfl rfl ?_
    refine lsu rfl rfl rfl rfl ?_
    refine ls false rfl rfl rfl rfl ?_
    refine lp rfl (p_pkt rfl rfl) ?_
    refine lp rfl (p_mv rfl) ?_
    refine ls false rfl rfl rfl rfl ?_
    refine ls false rfl rfl rfl rfl ?_
    refine ls false rfl rfl rfl rfl ?_
    refine lp rfl (p_pkt rfl rfl) ?_
    refine lj_nil ?_
    exact cnk4 _ _ true () (Option.some.inj hm).symm ⟨rfl, rfl, trivial⟩ (fun _ h => h.picks [] rfl)
   ·have hm := ifB_f hb hm
    refine lg false rfl rfl rfl ?_
    refine lp rfl (p_fab fl63_2 rfl) ?_
    refine lg false rfl rfl rfl ?_
    refine lp rfl (p_lbs ty3 rfl (j := 0) rfl rfl) ?_
    refine lg false rfl rfl rfl ?_
    refine lp rfl (p_neq rfl rfl) ?_
    refine lg false rfl rfl rfl ?_
    refine lp rfl (p_mv rfl) ?_
    refine lcase (i := 16) (a0.Close != 0) rfl (fun hb => ?_) (fun hb => ?_)
    ·have hm := ifB_t hb hm
     refine lg true rfl rfl rfl ?_
     refine lp rfl (p_fab fl63_2 rfl) ?_
     refine lg true rfl rfl rfl ?_
     refine lp rfl (p_lbs ty3 rfl (j := 0) rfl rfl) ?_
     refine lg true rfl rfl rfl ?_
     obtain ⟨y7, hy7, hm⟩ := bindS hm
     refine r_call [] cf76 rfl rfl (ok_kit_Outside a0.Close 2 9 hy7) rfl rfl .nil (fun _ => rfl) rfl (fun _ => ?_)
     refine lg false rfl rfl rfl ?_
     refine lp rfl (p_pkt rfl rfl) ?_
     refine lp rfl (p_pkf rfl rfl) ?_
     refine lp rfl (p_mv rfl) ?_
     refine lcase (i := 22) y7 rfl (fun hb => ?_) (fun hb => ?_)
     ·have hm := ifB_t hb hm
      refine ls false rfl rfl rfl rfl ?_
      refine ls false rfl rfl rfl rfl ?_
      refine ls false rfl rfl rfl rfl ?_
      refine lp rfl (p_pkt rfl rfl) ?_
      refine lj_nil ?_
      exact cnk4 _ _ true () (Option.some.inj hm).symm ⟨rfl, rfl, trivial⟩ (fun _ h => h.picks [] rfl)
     ·have hm := ifB_f hb hm
      refine lg false rfl rfl rfl ?_
      refine lp rfl (p_fab fl63_3 rfl) ?_
      refine lg false rfl rfl rfl ?_
      refine lp rfl (p_lbs ty3 rfl (j := 0) rfl rfl) ?_
      refine lg false rfl rfl rfl ?_
      obtain ⟨y8, hy8, hm⟩ := bindS hm
      refine r_call [] cf76 rfl rfl (ok_kit_Outside a0.Ending 0 9 hy8) rfl rfl .nil (fun _ => rfl) rfl (fun _ => ?_)
      refine lp rfl (p_pkf rfl rfl) ?_
      refine lj_nil ?_
      exact cnk4 _ _ y8 () (Option.some.inj hm).symm ⟨rfl, rfl, trivial⟩ (fun _ h => h.picks [] rfl)
    ·have hm := ifB_f hb hm
     refine ls true rfl rfl rfl rfl ?_
     refine ls true rfl rfl rfl rfl ?_
     refine ls true rfl rfl rfl rfl ?_
     refine lg false rfl rfl rfl ?_
     refine lp rfl (p_pkf rfl rfl) ?_
     refine lp rfl (p_pkf rfl rfl) ?_
     refine lp rfl (p_mv rfl) ?_
     refine lg false rfl rfl rfl ?_
     refine lp rfl (p_fab fl63_3 rfl) ?_
     refine lg false rfl rfl rfl ?_
     refine lp rfl (p_lbs ty3 rfl (j := 0) rfl rfl) ?_
     refine lg false rfl rfl rfl ?_
     obtain ⟨y9, hy9, hm⟩ := bindS hm
     refine r_call [] cf76 rfl rfl (ok_kit_Outside a0.Ending 0 9 hy9) rfl rfl .nil (fun _ => rfl) rfl (fun _ => ?_)
     refine lp rfl (p_pkf rfl rfl) ?_
     refine lj_nil ?_
     exact cnk4 _ _ y9 () (Option.some.inj hm).symm ⟨rfl, rfl, trivial⟩ (fun _ h => h.picks [] rfl)
theorem ok_piece_rulesFault (s0_ : SV) (a0 : (List TBar)) {r : Int} (hm : m_piece_rulesFault a0 = some r) :
  Ctr Tryz.prog 78 [s0_.v].toArray ([] : List Ent) [RdS R63 (SV.v s0_) a0] (X := Unit) (fun _ => .int .i64 r) (fun _ => []) := by
 unfold m_piece_rulesFault at hm
 refine ctr_mk (vs := [(0, s0_.v)]) Tryz.func78 rfl Tryz.ntmps78 rfl ⟨rfl, trivial⟩ (fun w0 A => ?_)
 refine cj_seq ?_
 refine cj_reg ?_
 refine lp rfl (p_as rfl) ?_
 refine lj_seq ?_
 refine cj_seq ?_
 refine cj_reg ?_
 refine lp rfl (p_as rfl) ?_
 refine lj_seq ?_
 refine cj_seq ?_
 refine cj_seq ?_
 refine cj_reg ?_
 refine lp rfl (p_mv rfl) ?_
 refine lp rfl (p_len Tryz.underlying64 rfl (.ro 0 rfl)) ?_
 refine lp rfl (p_mv rfl) ?_
 refine lj_seq ?_
 obtain ⟨f7, hf7, hm⟩ := bindS hm
 refine cj_range (γ := Unit) (m := (a0.length : Int)) hf7 () (fun u4 g5 => [(0, s0_.v), (2, .int .i64 0), (3, .bool u4), (7, s0_.v)]) (fun u4 g5 => Sat w0 (keys ([] : List Ent)) A [.ro (RdS R63 (SV.v s0_) a0)]) ⟨rfl, rfl, rfl, rfl, rfl, rfl, trivial⟩ (fun _ h => h.picks [0] rfl) (nat_lt _) (fun _ h => (FactAt.get (F := RdS R63 (SV.v s0_) a0) (.ro 0 rfl) h).1) (fun _ _ => ⟨rfl, rfl, rfl, rfl⟩) ⟨rfl, rfl, rfl, rfl, rfl⟩ rfl rfl rfl (fun u4 g5 e => ?_) (fun aftk6 i1 x2 u4 g5 k6 hx3 hs J hJk6 hBk6 hX I cnk6 => ?_)
 ·have hm := Flow.fin_b e hm
  refine nj_seq ?_
  refine cj_seq ?_
  refine cj_reg ?_
  refine lp rfl (p_as rfl) ?_
  refine lj_seq ?_
  obtain rfl := Option.some.inj hm
  exact cj_rt () [] Tryz.results78 (.tmp rfl .nil) rfl rfl
 ·have hRk6 : ∀ t, k6 = .ret t → some t = some r := fun t e => by rw [hX t e] at hm; exact hm
  have hm := hs
  refine cj_seq ?_
  refine cj_reg ?_
  refine lp rfl (p_mv rfl) ?_
  refine lp rfl (p_idx Tryz.underlying64 ty63 rfl rfl (.ro 0 rfl) (getI_nat.trans hx3)) ?_
  refine lp rfl (p_lea ty63 rfl (.ro 0 rfl) hx3) ?_
  refine r_al ty63 rfl (fun b8 => ?_)
  refine lp rfl (p_as rfl) ?_
  refine r_sb (vs := [.int .i64 x2.Beats, .int .i64 x2.Unit, .int .i64 x2.Close, .int .i64 x2.Ending, .bool x2.Open]) (j := 0) ty63 rfl rfl rfl rfl rfl rfl rfl ?_
  refine lj_seq ?_
  refine cj_seq ?_
  refine cj_seq ?_
  refine cj_reg ?_
  refine lp rfl (p_lbw ty63 rfl (j := 0) rfl rfl) ?_
  obtain ⟨y9, hy9, hm⟩ := bindS hm
  refine r_call [] cf102 rfl rfl (ok_piece_barFault x2 hy9) rfl rfl .nil (fun _ => rfl) rfl (fun _ => ?_)
  refine lp rfl (p_as rfl) ?_
  refine lj_seq ?_
  refine cj_seq ?_
  refine cj_reg ?_
  refine lp rfl (p_mv rfl) ?_
  refine lp rfl (p_neq rfl rfl) ?_
  refine lj_seq ?_
  refine cj_if (b := y9 != 0) rfl (fun hb => ?_) (fun hb => ?_)
  ·have hm := ifB_t hb hm
   refine cj_seq ?_
   refine cj_reg ?_
   refine lp rfl (p_mv rfl) ?_
   refine lp rfl (p_as rfl) ?_
   refine lj_seq ?_
   have hm := hRk6 _ (Option.some.inj hm).symm
   obtain rfl := Option.some.inj hm
   exact cj_rt () [] Tryz.results78 (.tmp rfl .nil) rfl rfl
  ·have hm := ifB_f hb hm
   refine cj_skip ?_
   refine nj_seq ?_
   refine cj_seq ?_
   refine cj_blk ?_
   refine cj_seq ?_
   refine cj_reg ?_
   obtain ⟨k12, hk12, hm⟩ := bindS hm
   have hRk12 : ∀ t, k12 = .inr t → some t = some k6 := fun t e => by rw [e] at hm; exact hm
   refine lj_join (σ := Bool) (γ := Unit) (fun u10 => k12 = .inl u10) (fun u10 g11 => [(0, s0_.v), (2, .int .i64 0), (3, .bool u4), (4, .int .i64 (i1 : Int)), (5, .pointer (some ⟨b8, 0, none⟩)), (7, s0_.v), (8, .int .i64 (a0.length : Int)), (9, .int .i64 (i1 : Int)), (19, .bool u10)]) (fun u10 g11 => Sat w0 (keys ([] : List Ent)) A [.box b8 63 [.int .i64 x2.Beats, .int .i64 x2.Unit, .int .i64 x2.Close, .int .i64 x2.Ending, .bool x2.Open], .ro (RdS R63 (SV.v s0_) a0)]) (fun u10 g11 hq => ?_) (fun J cnk12 => ?_)
   ·have hm := Sum.fin_l hq hm
    refine cj_if (b := u10) rfl (fun hb => ?_) (fun hb => ?_)
    ·have hm := ifB_t hb hm
     refine cj_seq ?_
     refine cj_reg ?_
     refine lp rfl (p_as rfl) ?_
     refine lj_seq ?_
     have hm := hRk6 _ (Option.some.inj hm).symm
     obtain rfl := Option.some.inj hm
     exact cj_rt () [] Tryz.results78 (.tmp rfl .nil) rfl rfl
    ·have hm := ifB_f hb hm
     refine cj_seq ?_
     refine cj_reg ?_
     obtain ⟨k15, hk15, hm⟩ := bindS hm
     have hRk15 : ∀ t, k15 = .inr t → some t = some k6 := fun t e => by rw [e] at hm; exact hm
     refine lj_join (σ := Bool) (γ := Unit) (fun u13 => k15 = .inl u13) (fun u13 g14 => [(0, s0_.v), (2, .int .i64 0), (3, .bool u4), (4, .int .i64 (i1 : Int)), (5, .pointer (some ⟨b8, 0, none⟩)), (7, s0_.v), (8, .int .i64 (a0.length : Int)), (9, .int .i64 (i1 : Int)), (25, .bool u13)]) (fun u13 g14 => Sat w0 (keys ([] : List Ent)) A [.box b8 63 [.int .i64 x2.Beats, .int .i64 x2.Unit, .int .i64 x2.Close, .int .i64 x2.Ending, .bool x2.Open], .ro (RdS R63 (SV.v s0_) a0)]) (fun u13 g14 hq => ?_) (fun J cnk15 => ?_)
     ·have hm := Sum.fin_l hq hm
      refine cj_if (b := u13) rfl (fun hb => ?_) (fun hb => ?_)
      ·have hm := ifB_t hb hm
       refine cj_seq ?_
       refine cj_reg ?_
       refine lp rfl (p_as rfl) ?_
       refine lj_seq ?_
       have hm := hRk6 _ (Option.some.inj hm).symm
       obtain rfl := Option.some.inj hm
       exact cj_rt () [] Tryz.results78 (.tmp rfl .nil) rfl rfl
      ·have hm := ifB_f hb hm
       refine cj_seq ?_
       refine cj_quiet (by kernel_rfl) (by kernel_rfl) ?_
       refine q_p rfl (p_mv rfl) ?_
       refine q_p rfl (p_mv rfl) ?_
       refine q_case (i := 45) u4 rfl (fun hb => ?_) (fun hb => ?_)
       ·have hm := ifB_t hb hm
        refine q_g true rfl rfl rfl ?_
        refine q_p rfl (p_fab fl63_3 rfl) ?_
        refine q_g true rfl rfl rfl ?_
        refine q_p rfl (p_lbs ty3 rfl (j := 0) rfl rfl) ?_
        refine q_g true rfl rfl rfl ?_
        refine q_p rfl (p_mv rfl) ?_
        refine q_g true rfl rfl rfl ?_
        refine q_p rfl (p_mv rfl) ?_
        refine q_g true rfl rfl rfl ?_
        refine q_p rfl (p_sub rfl rfl) ?_
        refine q_g true rfl rfl rfl ?_
        obtain ⟨e16, he16, hm⟩ := bindS hm
        refine q_p rfl (p_idx Tryz.underlying64 ty63 rfl rfl (.ro 1 rfl) he16) ?_
        refine q_g true rfl rfl rfl ?_
        refine q_p rfl (p_fae fl63_3 rfl (.ro 1 rfl) (getI_spec he16).2) ?_
        refine q_g true rfl rfl rfl ?_
        refine q_p rfl (p_lde (o := 3) ty3 rfl rfl (.ro 1 rfl) (getI_spec he16).2 rfl) ?_
        refine q_g true rfl rfl rfl ?_
        refine q_p rfl (p_lss rfl rfl) ?_
        refine q_p rfl (p_pkt rfl rfl) ?_
        refine q_p rfl (p_as rfl) ?_
        refine q_nil ?_
        refine nj_seq ?_
        refine cj_if (b := decide (x2.Ending < e16.Ending)) rfl (fun hb => ?_) (fun hb => ?_)
        ·have hm := ifB_t hb hm
         refine cj_seq ?_
         refine cj_reg ?_
         refine lp rfl (p_as rfl) ?_
         refine lj_seq ?_
         have hm := hRk6 _ (Option.some.inj hm).symm
         obtain rfl := Option.some.inj hm
         exact cj_rt () [] Tryz.results78 (.tmp rfl .nil) rfl rfl
        ·have hm := ifB_f hb hm
         refine cj_skip ?_
         refine nj_blk ?_
         refine nj_seq ?_
         refine cj_reg ?_
         refine lp rfl (p_mv rfl) ?_
         refine lp rfl (p_mv rfl) ?_
         refine lcase (i := 57) u4 rfl (fun hb => ?_) (fun hb => ?_)
         ·have hm := ifB_t hb hm
          refine ls false rfl rfl rfl rfl ?_
          refine ls false rfl rfl rfl rfl ?_
          refine lp rfl (p_pkt rfl rfl) ?_
          refine lp rfl (p_mv rfl) ?_
          refine lg true rfl rfl rfl ?_
          refine lp rfl (p_fab fl63_2 rfl) ?_
          refine lg true rfl rfl rfl ?_
          refine lp rfl (p_lbs ty3 rfl (j := 0) rfl rfl) ?_
          refine lg true rfl rfl rfl ?_
          refine lp rfl (p_eql rfl rfl) ?_
          refine lp rfl (p_pkt rfl rfl) ?_
          refine lp rfl (p_as rfl) ?_
          refine lj_nil ?_
          refine nj_blk ?_
          exact cnk6 _ _ (x2.Close == 0) () (hJk6 _ (Option.some.inj hm).symm) ⟨rfl, rfl, rfl, rfl, rfl, rfl, trivial⟩ (fun _ h => h.picks [1] rfl)
         ·have hm := ifB_f hb hm
          refine lg false rfl rfl rfl ?_
          refine lp rfl (p_fab fl63_4 rfl) ?_
          refine lg false rfl rfl rfl ?_
          refine lp rfl (p_lbs ty4 rfl (j := 0) rfl rfl) ?_
          refine lp rfl (p_pkf rfl rfl) ?_
          refine lp rfl (p_mv rfl) ?_
          refine lcase (i := 61) x2.Open rfl (fun hb => ?_) (fun hb => ?_)
          ·have hm := ifB_t hb hm
           refine lg true rfl rfl rfl ?_
           refine lp rfl (p_fab fl63_2 rfl) ?_
           refine lg true rfl rfl rfl ?_
           refine lp rfl (p_lbs ty3 rfl (j := 0) rfl rfl) ?_
           refine lg true rfl rfl rfl ?_
           refine lp rfl (p_eql rfl rfl) ?_
           refine lp rfl (p_pkt rfl rfl) ?_
           refine lp rfl (p_as rfl) ?_
           refine lj_nil ?_
           refine nj_blk ?_
           exact cnk6 _ _ (x2.Close == 0) () (hJk6 _ (Option.some.inj hm).symm) ⟨rfl, rfl, rfl, rfl, rfl, rfl, trivial⟩ (fun _ h => h.picks [1] rfl)
          ·have hm := ifB_f hb hm
           refine ls true rfl rfl rfl rfl ?_
           refine ls true rfl rfl rfl rfl ?_
           refine ls true rfl rfl rfl rfl ?_
           refine lp rfl (p_pkf rfl rfl) ?_
           refine lp rfl (p_as rfl) ?_
           refine lj_nil ?_
           refine nj_blk ?_
           exact cnk6 _ _ false () (hJk6 _ (Option.some.inj hm).symm) ⟨rfl, rfl, rfl, rfl, rfl, rfl, trivial⟩ (fun _ h => h.picks [1] rfl)
       ·have hm := ifB_f hb hm
        refine q_s true rfl rfl rfl rfl ?_
        refine q_s true rfl rfl rfl rfl ?_
        refine q_s true rfl rfl rfl rfl ?_
        refine q_s true rfl rfl rfl rfl ?_
        refine q_s true rfl rfl rfl rfl ?_
        refine q_s true rfl rfl rfl rfl ?_
        refine q_s true rfl rfl rfl rfl ?_
        refine q_s true rfl rfl rfl rfl ?_
        refine q_s true rfl rfl rfl rfl ?_
        refine q_p rfl (p_pkf rfl rfl) ?_
        refine q_p rfl (p_as rfl) ?_
        refine q_nil ?_
        refine nj_seq ?_
        refine cj_if_f rfl ?_
        refine cj_skip ?_
        refine nj_blk ?_
        refine nj_seq ?_
        refine cj_reg ?_
        refine lp rfl (p_mv rfl) ?_
        refine lp rfl (p_mv rfl) ?_
        refine lcase (i := 57) u4 rfl (fun hb => ?_) (fun hb => ?_)
        ·have hm := ifB_t hb hm
         refine ls false rfl rfl rfl rfl ?_
         refine ls false rfl rfl rfl rfl ?_
         refine lp rfl (p_pkt rfl rfl) ?_
         refine lp rfl (p_mv rfl) ?_
         refine lg true rfl rfl rfl ?_
         refine lp rfl (p_fab fl63_2 rfl) ?_
         refine lg true rfl rfl rfl ?_
         refine lp rfl (p_lbs ty3 rfl (j := 0) rfl rfl) ?_
         refine lg true rfl rfl rfl ?_
         refine lp rfl (p_eql rfl rfl) ?_
         refine lp rfl (p_pkt rfl rfl) ?_
         refine lp rfl (p_as rfl) ?_
         refine lj_nil ?_
         refine nj_blk ?_
         exact cnk6 _ _ (x2.Close == 0) () (hJk6 _ (Option.some.inj hm).symm) ⟨rfl, rfl, rfl, rfl, rfl, rfl, trivial⟩ (fun _ h => h.picks [1] rfl)
        ·have hm := ifB_f hb hm
         refine lg false rfl rfl rfl ?_
         refine lp rfl (p_fab fl63_4 rfl) ?_
         refine lg false rfl rfl rfl ?_
         refine lp rfl (p_lbs ty4 rfl (j := 0) rfl rfl) ?_
         refine lp rfl (p_pkf rfl rfl) ?_
         refine lp rfl (p_mv rfl) ?_
         refine lcase (i := 61) x2.Open rfl (fun hb => ?_) (fun hb => ?_)
         ·have hm := ifB_t hb hm
          refine lg true rfl rfl rfl ?_
          refine lp rfl (p_fab fl63_2 rfl) ?_
          refine lg true rfl rfl rfl ?_
          refine lp rfl (p_lbs ty3 rfl (j := 0) rfl rfl) ?_
          refine lg true rfl rfl rfl ?_
          refine lp rfl (p_eql rfl rfl) ?_
          refine lp rfl (p_pkt rfl rfl) ?_
          refine lp rfl (p_as rfl) ?_
          refine lj_nil ?_
          refine nj_blk ?_
          exact cnk6 _ _ (x2.Close == 0) () (hJk6 _ (Option.some.inj hm).symm) ⟨rfl, rfl, rfl, rfl, rfl, rfl, trivial⟩ (fun _ h => h.picks [1] rfl)
         ·have hm := ifB_f hb hm
          refine ls true rfl rfl rfl rfl ?_
          refine ls true rfl rfl rfl rfl ?_
          refine ls true rfl rfl rfl rfl ?_
          refine lp rfl (p_pkf rfl rfl) ?_
          refine lp rfl (p_as rfl) ?_
          refine lj_nil ?_
          refine nj_blk ?_
          exact cnk6 _ _ false () (hJk6 _ (Option.some.inj hm).symm) ⟨rfl, rfl, rfl, rfl, rfl, rfl, trivial⟩ (fun _ h => h.picks [1] rfl)
     ·have hm := hk15
      refine lp rfl (p_fab fl63_4 rfl) ?_
      refine lp rfl (p_lbs ty4 rfl (j := 0) rfl rfl) ?_
      refine lp rfl (p_not rfl) ?_
      refine lp rfl (p_mv rfl) ?_
      refine lcase (i := 29) (!x2.Open) rfl (fun hb => ?_) (fun hb => ?_)
      ·have hm := ifB_t hb hm
       refine lg true rfl rfl rfl ?_
       refine lp rfl (p_mv rfl) ?_
       refine lg true rfl rfl rfl ?_
       refine lp rfl (p_not rfl) ?_
       refine lp rfl (p_pkt rfl rfl) ?_
       refine lp rfl (p_mv rfl) ?_
       refine lcase (i := 33) (!u4) rfl (fun hb => ?_) (fun hb => ?_)
       ·have hm := ifB_t hb hm
        refine lg true rfl rfl rfl ?_
        refine lp rfl (p_fab fl63_2 rfl) ?_
        refine lg true rfl rfl rfl ?_
        refine lp rfl (p_lbs ty3 rfl (j := 0) rfl rfl) ?_
        refine lg true rfl rfl rfl ?_
        refine lp rfl (p_neq rfl rfl) ?_
        refine lg true rfl rfl rfl ?_
        refine lp rfl (p_mv rfl) ?_
        refine lcase (i := 37) (x2.Close != 0) rfl (fun hb => ?_) (fun hb => ?_)
        ·have hm := ifB_t hb hm
         refine ls false rfl rfl rfl rfl ?_
         refine ls false rfl rfl rfl rfl ?_
         refine ls false rfl rfl rfl rfl ?_
         refine lg true rfl rfl rfl ?_
         refine lp rfl (p_pkt rfl rfl) ?_
         refine lp rfl (p_pkt rfl rfl) ?_
         refine lp rfl (p_as rfl) ?_
         refine lj_nil ?_
         exact cnk15 _ _ true () (Option.some.inj hm).symm ⟨rfl, rfl, rfl, rfl, rfl, rfl, rfl, rfl, rfl, trivial⟩ (fun _ h => h.picks [0, 0] rfl)
        ·have hm := ifB_f hb hm
         refine lg false rfl rfl rfl ?_
         refine lp rfl (p_fab fl63_3 rfl) ?_
         refine lg false rfl rfl rfl ?_
         refine lp rfl (p_lbs ty3 rfl (j := 0) rfl rfl) ?_
         refine lg false rfl rfl rfl ?_
         refine lp rfl (p_neq rfl rfl) ?_
         refine lg true rfl rfl rfl ?_
         refine lp rfl (p_pkf rfl rfl) ?_
         refine lp rfl (p_pkt rfl rfl) ?_
         refine lp rfl (p_as rfl) ?_
         refine lj_nil ?_
         exact cnk15 _ _ (x2.Ending != 0) () (Option.some.inj hm).symm ⟨rfl, rfl, rfl, rfl, rfl, rfl, rfl, rfl, rfl, trivial⟩ (fun _ h => h.picks [0, 0] rfl)
       ·have hm := ifB_f hb hm
        refine ls true rfl rfl rfl rfl ?_
        refine ls true rfl rfl rfl rfl ?_
        refine ls true rfl rfl rfl rfl ?_
        refine ls true rfl rfl rfl rfl ?_
        refine lsu rfl rfl rfl rfl ?_
        refine lsu rfl rfl rfl rfl ?_
        refine lsu rfl rfl rfl rfl ?_
        refine ls true rfl rfl rfl rfl ?_
        refine lp rfl (p_pkf rfl rfl) ?_
        refine lp rfl (p_as rfl) ?_
        refine lj_nil ?_
        exact cnk15 _ _ false () (Option.some.inj hm).symm ⟨rfl, rfl, rfl, rfl, rfl, rfl, rfl, rfl, rfl, trivial⟩ (fun _ h => h.picks [0, 0] rfl)
      ·have hm := ifB_f hb hm
       refine ls true rfl rfl rfl rfl ?_
       refine ls true rfl rfl rfl rfl ?_
       refine lp rfl (p_pkf rfl rfl) ?_
       refine lp rfl (p_mv rfl) ?_
       refine ls true rfl rfl rfl rfl ?_
       refine ls true rfl rfl rfl rfl ?_
       refine ls true rfl rfl rfl rfl ?_
       refine ls true rfl rfl rfl rfl ?_
       refine lsu rfl rfl rfl rfl ?_
       refine lsu rfl rfl rfl rfl ?_
       refine lsu rfl rfl rfl rfl ?_
       refine ls true rfl rfl rfl rfl ?_
       refine lp rfl (p_pkf rfl rfl) ?_
       refine lp rfl (p_as rfl) ?_
       refine lj_nil ?_
       exact cnk15 _ _ false () (Option.some.inj hm).symm ⟨rfl, rfl, rfl, rfl, rfl, rfl, rfl, rfl, rfl, trivial⟩ (fun _ h => h.picks [0, 0] rfl)
   ·have hm := hk12
    refine lp rfl (p_fab fl63_4 rfl) ?_
    refine lp rfl (p_lbs ty4 rfl (j := 0) rfl rfl) ?_
    refine lp rfl (p_mv rfl) ?_
    refine lcase (i := 22) x2.Open rfl (fun hb => ?_) (fun hb => ?_)
    ·have hm := ifB_t hb hm
     refine lg true rfl rfl rfl ?_
     refine lp rfl (p_mv rfl) ?_
     refine lp rfl (p_pkt rfl rfl) ?_
     refine lp rfl (p_as rfl) ?_
     refine lj_nil ?_
     exact cnk12 _ _ u4 () (Option.some.inj hm).symm ⟨rfl, rfl, rfl, rfl, rfl, rfl, rfl, rfl, rfl, trivial⟩ (fun _ h => h.picks [0, 0] rfl)
    ·have hm := ifB_f hb hm
     refine ls true rfl rfl rfl rfl ?_
     refine lp rfl (p_pkf rfl rfl) ?_
     refine lp rfl (p_as rfl) ?_
     refine lj_nil ?_
     exact cnk12 _ _ false () (Option.some.inj hm).symm ⟨rfl, rfl, rfl, rfl, rfl, rfl, rfl, rfl, rfl, trivial⟩ (fun _ h => h.picks [0, 0] rfl)
theorem ok_piece_repeats (s0_ : SV) (a0 : (List TBar)) {r : (List Tpiece_repeat) × Bool} (hm : m_piece_repeats a0 = some r) :
  Ctr Tryz.prog 79 [s0_.v].toArray ([] : List Ent) [RdS R63 (SV.v s0_) a0] (X := SV) (fun s => .tuple [s.v, .bool r.2].toArray) (fun s => [.row R156 (SV.v s) r.1]) := by
 unfold m_piece_repeats at hm
 refine ctr_mk (vs := [(0, s0_.v)]) Tryz.func79 rfl Tryz.ntmps79 rfl ⟨rfl, trivial⟩ (fun w0 A => ?_)
 refine cj_seq ?_
 refine cj_reg ?_
 refine lp rfl (p_as rfl) ?_
 refine lp rfl (p_as rfl) ?_
 refine lj_seq ?_
 refine cj_seq ?_
 refine cj_reg ?_
 refine lp rfl (p_as rfl) ?_
 refine lj_seq ?_
 refine cj_seq ?_
 refine cj_reg ?_
 refine lp rfl (p_as rfl) ?_
 refine lj_seq ?_
 refine cj_seq ?_
 refine cj_seq ?_
 refine cj_reg ?_
 refine lp rfl (p_mv rfl) ?_
 refine lp rfl (p_len Tryz.underlying64 rfl (.ro 0 rfl)) ?_
 refine lp rfl (p_mv rfl) ?_
 refine lj_seq ?_
 refine cj_nil R156 ?_
 obtain ⟨f8, hf8, hm⟩ := bindS hm
 refine cj_range (γ := SV) (m := (a0.length : Int)) hf8 nilS (fun u5 g6 => [(0, s0_.v), (2, .slice none 0 0), (3, .bool false), (4, g6.v), (5, .int .i64 u5.1), (12, s0_.v)]) (fun u5 g6 => Sat w0 (keys ([] : List Ent)) A [.ro (RdS R63 (SV.v s0_) a0), .row R156 (SV.v g6) u5.2]) ⟨rfl, rfl, rfl, rfl, rfl, rfl, rfl, rfl, trivial⟩ (fun _ h => h.picks [1, 0] rfl) (nat_lt _) (fun _ h => (FactAt.get (F := RdS R63 (SV.v s0_) a0) (.ro 1 rfl) h).1) (fun _ _ => ⟨rfl, rfl, rfl, rfl⟩) ⟨rfl, rfl, rfl, rfl, rfl⟩ rfl rfl rfl (fun u5 g6 e => ?_) (fun aftk7 i1 x2 u5 g6 k7 hx3 hs J hJk7 hBk7 hX I cnk7 => ?_)
 ·have hm := Flow.fin_b e hm
  refine nj_seq ?_
  refine cj_seq ?_
  refine cj_seq ?_
  refine cj_reg ?_
  refine lp rfl (p_mv rfl) ?_
  refine lp rfl (p_len Tryz.underlying130 rfl (.row 1 rfl)) ?_
  refine lp rfl (p_mv rfl) ?_
  refine lj_seq ?_
  obtain ⟨f27, hf27, hm⟩ := bindS hm
  refine cj_range (γ := Unit) (m := (u5.2.length : Int)) hf27 () (fun u24 g25 => [(0, s0_.v), (2, .slice none 0 0), (3, .bool false), (4, g6.v), (5, .int .i64 u5.1), (44, g6.v)]) (fun u24 g25 => Sat w0 (keys ([] : List Ent)) A [.ro (RdS R63 (SV.v s0_) a0), .row R156 (SV.v g6) u5.2]) ⟨rfl, rfl, rfl, rfl, rfl, rfl, rfl, rfl, trivial⟩ (fun _ h => h.picks [0, 0] rfl) (nat_lt _) (fun _ h => (FactAt.get (F := RdS R156 (SV.v g6) u5.2) (.row 1 rfl) h).1) (fun _ _ => ⟨rfl, rfl, rfl, rfl⟩) ⟨rfl, rfl, rfl, rfl, rfl⟩ rfl rfl rfl (fun u24 g25 e => ?_) (fun aftk26 i21 x22 u24 g25 k26 hx23 hs J hJk26 hBk26 hX I cnk26 => ?_)
  ·have hm := Flow.fin_b e hm
   refine nj_seq ?_
   refine cj_seq ?_
   refine cj_reg ?_
   refine lp rfl (p_mv rfl) ?_
   refine lp rfl (p_mv rfl) ?_
   refine lp rfl (p_lss rfl rfl) ?_
   refine lp rfl (p_as rfl) ?_
   refine lp rfl (p_as rfl) ?_
   refine lj_seq ?_
   obtain rfl := Option.some.inj hm
   exact cj_rt g6 [1] Tryz.results79 (.tmp rfl (.tmp rfl .nil)) rfl rfl
  ·have hRk26 : ∀ t, k26 = .ret t → some t = some r := fun t e => by rw [hX t e] at hm; exact hm
   have hm := hs
   refine cj_seq ?_
   refine cj_reg ?_
   refine lp rfl (p_idx Tryz.underlying130 ty156 rfl rfl (.row 1 rfl) (getI_nat.trans hx23)) ?_
   refine lp rfl (p_lea ty156 rfl (.row 1 rfl) hx23) ?_
   refine r_al ty156 rfl (fun b28 => ?_)
   refine r_sb (vs := [.int .i64 x22.from_, .int .i64 x22.to_, .int .i64 x22.times]) (j := 0) ty156 rfl rfl rfl rfl rfl rfl rfl ?_
   refine lj_seq ?_
   refine cj_seq ?_
   refine cj_reg ?_
   refine lp rfl (p_mv rfl) ?_
   refine lp rfl (p_fab fl156_0 rfl) ?_
   refine lp rfl (p_lbs ty3 rfl (j := 0) rfl rfl) ?_
   refine lp rfl (p_fab fl156_1 rfl) ?_
   refine lp rfl (p_lbs ty3 rfl (j := 0) rfl rfl) ?_
   obtain ⟨q29, hq29, hm⟩ := bindS hm
   refine lp rfl (p_cut Tryz.underlying64 ty63 rfl rfl rfl rfl rfl (.ro 1 rfl) rfl rfl hq29) ?_
   refine lp rfl (p_len Tryz.underlying64 rfl (.imp (.ro 1 rfl) (fun _ h => h.cut hq29))) ?_
   refine lp rfl (p_mv rfl) ?_
   refine lj_seq ?_
   obtain ⟨f36, hf36, hm⟩ := bindS hm
   refine cj_range (γ := Unit) (m := (q29.length : Int)) hf36 () (fun u33 g34 => [(0, s0_.v), (2, .slice none 0 0), (3, .bool false), (4, g6.v), (5, .int .i64 u5.1), (9, .pointer (some ⟨b28, 0, none⟩)), (44, g6.v), (45, .int .i64 (u5.2.length : Int)), (46, .int .i64 (i21 : Int)), (55, (s0_.sub R63.sz x22.from_.toNat x22.to_.toNat).v)]) (fun u33 g34 => Sat w0 (keys ([] : List Ent)) A [.box b28 156 [.int .i64 x22.from_, .int .i64 x22.to_, .int .i64 x22.times], .ro (RdS R63 (SV.v s0_) a0), .row R156 (SV.v g6) u5.2]) ⟨rfl, rfl, rfl, rfl, rfl, rfl, rfl, rfl, rfl, rfl, rfl, rfl, trivial⟩ (fun _ h => h.picks [0, 0, 0] rfl) (nat_lt _) (fun _ h => (FactAt.get (F := RdS R63 (SV.v (s0_.sub R63.sz x22.from_.toNat x22.to_.toNat)) q29) (.imp (.ro 1 rfl) (fun _ h => h.cut hq29)) h).1) (fun _ _ => ⟨rfl, rfl, rfl, rfl⟩) ⟨rfl, rfl, rfl, rfl, rfl⟩ rfl rfl rfl (fun u33 g34 e => ?_) (fun aftk35 i30 x31 u33 g34 k35 hx32 hs J hJk35 hBk35 hX I cnk35 => ?_)
   ·have hm := Flow.fin_b e hm
    refine nj_blk ?_
    exact cnk26 _ _ () () (hJk26 _ (Option.some.inj hm).symm) ⟨rfl, rfl, rfl, rfl, rfl, rfl, rfl, rfl, trivial⟩ (fun _ h => h.picks [1, 1] rfl)
   ·have hRk35 : ∀ t, k35 = .ret t → some t = some k26 := fun t e => by rw [hX t e] at hm; exact hm
    have hm := hs
    refine cj_seq ?_
    refine cj_reg ?_
    refine lp rfl (p_idx Tryz.underlying64 ty63 rfl rfl (.imp (.ro 1 rfl) (fun _ h => h.cut hq29)) (getI_nat.trans hx32)) ?_
    refine lp rfl (p_lea ty63 rfl (.imp (.ro 1 rfl) (fun _ h => h.cut hq29)) hx32) ?_
    refine r_al ty63 rfl (fun b37 => ?_)
    refine r_sb (vs := [.int .i64 x31.Beats, .int .i64 x31.Unit, .int .i64 x31.Close, .int .i64 x31.Ending, .bool x31.Open]) (j := 0) ty63 rfl rfl rfl rfl rfl rfl rfl ?_
    refine lj_seq ?_
    refine cj_seq ?_
    refine cj_reg ?_
    obtain ⟨k40, hk40, hm⟩ := bindS hm
    have hRk40 : ∀ t, k40 = .inr t → some t = some k35 := fun t e => by rw [e] at hm; exact hm
    refine lj_join (σ := Bool) (γ := Unit) (fun u38 => k40 = .inl u38) (fun u38 g39 => [(0, s0_.v), (2, .slice none 0 0), (3, .bool false), (4, g6.v), (5, .int .i64 u5.1), (9, .pointer (some ⟨b28, 0, none⟩)), (44, g6.v), (45, .int .i64 (u5.2.length : Int)), (46, .int .i64 (i21 : Int)), (55, (s0_.sub R63.sz x22.from_.toNat x22.to_.toNat).v), (56, .int .i64 (q29.length : Int)), (57, .int .i64 (i30 : Int)), (70, .bool u38)]) (fun u38 g39 => Sat w0 (keys ([] : List Ent)) A [.box b28 156 [.int .i64 x22.from_, .int .i64 x22.to_, .int .i64 x22.times], .ro (RdS R63 (SV.v s0_) a0), .row R156 (SV.v g6) u5.2]) (fun u38 g39 hq => ?_) (fun J cnk40 => ?_)
    ·have hm := Sum.fin_l hq hm
     refine cj_if (b := u38) rfl (fun hb => ?_) (fun hb => ?_)
     ·have hm := ifB_t hb hm
      refine cj_seq ?_
      refine cj_reg ?_
      refine lp rfl (p_as rfl) ?_
      refine lp rfl (p_as rfl) ?_
      refine lj_seq ?_
      have hm := hRk35 _ (Option.some.inj hm).symm
      have hm := hRk26 _ (Option.some.inj hm).symm
      obtain rfl := Option.some.inj hm
      refine cj_nil R156 ?_
      exact cj_rt nilS [0] Tryz.results79 (.tmp rfl (.tmp rfl .nil)) rfl rfl
     ·have hm := ifB_f hb hm
      refine cj_skip ?_
      refine nj_blk ?_
      exact cnk35 _ _ () () (hJk35 _ (Option.some.inj hm).symm) ⟨rfl, rfl, rfl, rfl, rfl, rfl, rfl, rfl, rfl, rfl, rfl, rfl, trivial⟩ (fun _ h => h.picks [0, 0, 0] rfl)
    ·have hm := hk40
     refine lp rfl (p_fab fl156_2 rfl) ?_
     refine lp rfl (p_lbs ty3 rfl (j := 1) rfl rfl) ?_
     refine lp rfl (p_gtr rfl rfl) ?_
     refine lp rfl (p_mv rfl) ?_
     refine lcase (i := 64) (decide (x22.times > 1)) rfl (fun hb => ?_) (fun hb => ?_)
     ·have hm := ifB_t hb hm
      refine lg true rfl rfl rfl ?_
      refine lp rfl (p_fab fl63_3 rfl) ?_
      refine lg true rfl rfl rfl ?_
      refine lp rfl (p_lbs ty3 rfl (j := 0) rfl rfl) ?_
      refine lg true rfl rfl rfl ?_
      refine lp rfl (p_fab fl156_2 rfl) ?_
      refine lg true rfl rfl rfl ?_
      refine lp rfl (p_lbs ty3 rfl (j := 1) rfl rfl) ?_
      refine lg true rfl rfl rfl ?_
      refine lp rfl (p_gtr rfl rfl) ?_
      refine lp rfl (p_pkt rfl rfl) ?_
      refine lj_nil ?_
      exact cnk40 _ _ (decide (x31.Ending > x22.times)) () (Option.some.inj hm).symm ⟨rfl, rfl, rfl, rfl, rfl, rfl, rfl, rfl, rfl, rfl, rfl, rfl, rfl, trivial⟩ (fun _ h => h.picks [1, 1, 1] rfl)
     ·have hm := ifB_f hb hm
      refine ls true rfl rfl rfl rfl ?_
      refine ls true rfl rfl rfl rfl ?_
      refine ls true rfl rfl rfl rfl ?_
      refine ls true rfl rfl rfl rfl ?_
      refine ls true rfl rfl rfl rfl ?_
      refine lp rfl (p_pkf rfl rfl) ?_
      refine lj_nil ?_
      exact cnk40 _ _ false () (Option.some.inj hm).symm ⟨rfl, rfl, rfl, rfl, rfl, rfl, rfl, rfl, rfl, rfl, rfl, rfl, rfl, trivial⟩ (fun _ h => h.picks [1, 1, 1] rfl)
 ·have hRk7 : ∀ t, k7 = .ret t → some t = some r := fun t e => by rw [hX t e] at hm; exact hm
  have hm := hs
  refine cj_seq ?_
  refine cj_reg ?_
  refine lp rfl (p_mv rfl) ?_
  refine lp rfl (p_idx Tryz.underlying64 ty63 rfl rfl (.ro 0 rfl) (getI_nat.trans hx3)) ?_
  refine lp rfl (p_lea ty63 rfl (.ro 0 rfl) hx3) ?_
  refine r_al ty63 rfl (fun b10 => ?_)
  refine lp rfl (p_as rfl) ?_
  refine r_sb (vs := [.int .i64 x2.Beats, .int .i64 x2.Unit, .int .i64 x2.Close, .int .i64 x2.Ending, .bool x2.Open]) (j := 0) ty63 rfl rfl rfl rfl rfl rfl rfl ?_
  refine lj_seq ?_
  refine cj_seq ?_
  refine cj_seq ?_
  refine cj_reg ?_
  refine lp rfl (p_fab fl63_4 rfl) ?_
  refine lp rfl (p_lbs ty4 rfl (j := 0) rfl rfl) ?_
  refine lj_seq ?_
  obtain ⟨k13, hk13, hm⟩ := bindS hm
  have hRk13 : ∀ t, k13 = .inr t → some t = some k7 := fun t e => by rw [e] at hm; exact hm
  refine cj_joinK (σ := Int) (γ := Unit) (fun u11 => k13 = .inl u11) (fun u11 g12 => [(0, s0_.v), (2, .slice none 0 0), (3, .bool false), (4, g6.v), (5, .int .i64 u11), (6, .int .i64 (i1 : Int)), (7, .pointer (some ⟨b10, 0, none⟩)), (12, s0_.v), (13, .int .i64 (a0.length : Int)), (14, .int .i64 (i1 : Int))]) (fun u11 g12 => Sat w0 (keys ([] : List Ent)) A [.box b10 63 [.int .i64 x2.Beats, .int .i64 x2.Unit, .int .i64 x2.Close, .int .i64 x2.Ending, .bool x2.Open], .ro (RdS R63 (SV.v s0_) a0), .row R156 (SV.v g6) u5.2]) (fun u11 g12 hq => ?_) (fun J cnk13 => ?_)
  ·have hm := Sum.fin_l hq hm
   refine cj_seq ?_
   refine cj_reg ?_
   refine lp rfl (p_mv rfl) ?_
   refine lp rfl (p_lss rfl rfl) ?_
   refine lj_seq ?_
   refine cj_if (b := decide (u11 < 0)) rfl (fun hb => ?_) (fun hb => ?_)
   ·have hm := ifB_t hb hm
    refine cj_reg ?_
    refine lp rfl (p_mv rfl) ?_
    refine lp rfl (p_mv rfl) ?_
    refine lp rfl (p_mv rfl) ?_
    refine lp rfl (p_add rfl rfl) ?_
    refine lp rfl (p_bld [.int .i64 (i1 : Int), .int .i64 (w64 ((i1 : Int) + 1)), .int .i64 1] rfl (fun _ => by kernel_rfl)) ?_
    refine r_bs R156 [(Tpiece_repeat.mk (i1 : Int) (w64 ((i1 : Int) + 1)) 1)] rfl rfl rfl (fun _ => by kernel_rfl) rfl (fun s14 => ?_)
    obtain ⟨q15, hq15, hm⟩ := bindS hm
    refine r_app (k := 3) Tryz.underlying130 ty156 rfl rfl rfl rfl (.row 0 rfl) hq15 rfl (fun s16 => ?_)
    refine lp rfl (p_as rfl) ?_
    refine lj_nil ?_
    refine nj_blk ?_
    exact cnk7 _ _ (u11, q15) s16 (hJk7 _ (Option.some.inj hm).symm) ⟨rfl, rfl, rfl, rfl, rfl, rfl, rfl, rfl, trivial⟩ (fun _ h => h.picks [2, 2] rfl)
   ·have hm := ifB_f hb hm
    refine cj_seq ?_
    refine cj_reg ?_
    refine lp rfl (p_fab fl63_2 rfl) ?_
    refine lp rfl (p_lbs ty3 rfl (j := 0) rfl rfl) ?_
    refine lp rfl (p_gtr rfl rfl) ?_
    refine lj_seq ?_
    refine cj_if (b := decide (x2.Close > 0)) rfl (fun hb => ?_) (fun hb => ?_)
    ·have hm := ifB_t hb hm
     refine cj_seq ?_
     refine cj_reg ?_
     refine lp rfl (p_mv rfl) ?_
     refine lp rfl (p_mv rfl) ?_
     refine lp rfl (p_mv rfl) ?_
     refine lp rfl (p_add rfl rfl) ?_
     refine lp rfl (p_fab fl63_2 rfl) ?_
     refine lp rfl (p_lbs ty3 rfl (j := 0) rfl rfl) ?_
     refine lp rfl (p_bld [.int .i64 u11, .int .i64 (w64 ((i1 : Int) + 1)), .int .i64 x2.Close] rfl (fun _ => by kernel_rfl)) ?_
     refine r_bs R156 [(Tpiece_repeat.mk u11 (w64 ((i1 : Int) + 1)) x2.Close)] rfl rfl rfl (fun _ => by kernel_rfl) rfl (fun s17 => ?_)
     obtain ⟨q18, hq18, hm⟩ := bindS hm
     refine r_app (k := 3) Tryz.underlying130 ty156 rfl rfl rfl rfl (.row 0 rfl) hq18 rfl (fun s19 => ?_)
     refine lp rfl (p_as rfl) ?_
     refine lj_seq ?_
     refine cj_reg ?_
     refine lp rfl (p_as rfl) ?_
     refine lj_nil ?_
     refine nj_blk ?_
     exact cnk7 _ _ ((-1), q18) s19 (hJk7 _ (Option.some.inj hm).symm) ⟨rfl, rfl, rfl, rfl, rfl, rfl, rfl, rfl, trivial⟩ (fun _ h => h.picks [2, 2] rfl)
    ·have hm := ifB_f hb hm
     refine cj_skip ?_
     refine nj_blk ?_
     exact cnk7 _ _ (u11, u5.2) g6 (hJk7 _ (Option.some.inj hm).symm) ⟨rfl, rfl, rfl, rfl, rfl, rfl, rfl, rfl, trivial⟩ (fun _ h => h.picks [1, 1] rfl)
  ·have hm := hk13
   refine cj_if (b := x2.Open) rfl (fun hb => ?_) (fun hb => ?_)
   ·have hm := ifB_t hb hm
    refine cj_reg ?_
    refine lp rfl (p_mv rfl) ?_
    refine lp rfl (p_as rfl) ?_
    refine lj_nil ?_
    exact cnk13 _ _ (i1 : Int) () (Option.some.inj hm).symm ⟨rfl, rfl, rfl, rfl, rfl, rfl, rfl, rfl, rfl, rfl, trivial⟩ (fun _ h => h.picks [0, 0, 0] rfl)
   ·have hm := ifB_f hb hm
    refine cj_skip ?_
    exact cnk13 _ _ u5.1 () (Option.some.inj hm).symm ⟨rfl, rfl, rfl, rfl, rfl, rfl, rfl, rfl, rfl, rfl, trivial⟩ (fun _ h => h.picks [0, 0, 0] rfl)
theorem ok_piece_order (s0_ : SV) (a0 : (List TBar)) (s1_ : SV) (a1 : (List Tpiece_repeat)) (a2 : Int) {r : (List Int)} (hm : m_piece_order a0 a1 a2 = some r) :
  Ctr Tryz.prog 80 [s0_.v, s1_.v, .int .i64 a2].toArray ([] : List Ent) [RdS R63 (SV.v s0_) a0, RdS R156 (SV.v s1_) a1] (X := SV) (fun s => s.v) (fun s => [.row R3 (SV.v s) r]) := by
 unfold m_piece_order at hm
 refine ctr_mk (vs := [(0, s0_.v), (1, s1_.v), (2, .int .i64 a2)]) Tryz.func80 rfl Tryz.ntmps80 rfl ⟨rfl, rfl, rfl, trivial⟩ (fun w0 A => ?_)
 refine cj_seq ?_
 refine cj_reg ?_
 refine lp rfl (p_as rfl) ?_
 refine lj_seq ?_
 refine cj_seq ?_
 refine cj_reg ?_
 refine lp rfl (p_as rfl) ?_
 refine lj_seq ?_
 refine cj_seq ?_
 refine cj_seq ?_
 refine cj_reg ?_
 refine lp rfl (p_mv rfl) ?_
 refine lp rfl (p_len Tryz.underlying130 rfl (.ro 1 rfl)) ?_
 refine lp rfl (p_mv rfl) ?_
 refine lj_seq ?_
 refine cj_nil R3 ?_
 obtain ⟨f8, hf8, hm⟩ := bindS hm
 refine cj_range (γ := SV) (m := (a1.length : Int)) hf8 nilS (fun u5 g6 => [(0, s0_.v), (2, .int .i64 a2), (6, .slice none 0 0), (7, g6.v), (12, s1_.v)]) (fun u5 g6 => Sat w0 (keys ([] : List Ent)) A [.ro (RdS R63 (SV.v s0_) a0), .ro (RdS R156 (SV.v s1_) a1), .row R3 (SV.v g6) u5]) ⟨rfl, rfl, rfl, rfl, rfl, rfl, rfl, trivial⟩ (fun _ h => h.picks [1, 1, 0] rfl) (nat_lt _) (fun _ h => (FactAt.get (F := RdS R156 (SV.v s1_) a1) (.ro 2 rfl) h).1) (fun _ _ => ⟨rfl, rfl, rfl, rfl⟩) ⟨rfl, rfl, rfl, rfl, rfl⟩ rfl rfl rfl (fun u5 g6 e => ?_) (fun aftk7 i1 x2 u5 g6 k7 hx3 hs J hJk7 hBk7 hX I cnk7 => ?_)
 ·have hm := Flow.fin_b e hm
  refine nj_seq ?_
  refine cj_seq ?_
  refine cj_reg ?_
  refine lp rfl (p_mv rfl) ?_
  refine lp rfl (p_as rfl) ?_
  refine lj_seq ?_
  obtain rfl := Option.some.inj hm
  exact cj_rt g6 [2] Tryz.results80 (.tmp rfl .nil) rfl rfl
 ·have hRk7 : ∀ t, k7 = .ret t → some t = some r := fun t e => by rw [hX t e] at hm; exact hm
  have hm := hs
  refine cj_seq ?_
  refine cj_reg ?_
  refine lp rfl (p_idx Tryz.underlying130 ty156 rfl rfl (.ro 1 rfl) (getI_nat.trans hx3)) ?_
  refine lp rfl (p_lea ty156 rfl (.ro 1 rfl) hx3) ?_
  refine r_al ty156 rfl (fun b10 => ?_)
  refine r_sb (vs := [.int .i64 x2.from_, .int .i64 x2.to_, .int .i64 x2.times]) (j := 0) ty156 rfl rfl rfl rfl rfl rfl rfl ?_
  refine lj_seq ?_
  refine cj_seq ?_
  refine cj_reg ?_
  refine lp rfl (p_as rfl) ?_
  refine lj_seq ?_
  obtain ⟨f14, hf14, hm⟩ := bindS hm
  refine cj_whileA (γ := SV) hf14 g6 (fun u11 g12 => [(0, s0_.v), (2, .int .i64 a2), (6, .slice none 0 0), (7, g12.v), (9, .pointer (some ⟨b10, 0, none⟩)), (10, .int .i64 u11.1), (12, s1_.v), (13, .int .i64 (a1.length : Int)), (14, .int .i64 (i1 : Int))]) (fun u11 g12 => Sat w0 (keys ([] : List Ent)) A [.box b10 156 [.int .i64 x2.from_, .int .i64 x2.to_, .int .i64 x2.times], .ro (RdS R63 (SV.v s0_) a0), .ro (RdS R156 (SV.v s1_) a1), .row R3 (SV.v g12) u11.2]) ⟨rfl, rfl, rfl, rfl, rfl, rfl, rfl, rfl, rfl, trivial⟩ (fun _ h => h.picks [0, 0, 0, 0] rfl) (fun u11 g12 e => ?_) (fun aftk13 u11 g12 k13 hs J hJk13 hBk13 hX I cnk13 => ?_)
  ·have hm := Flow.fin_b e hm
   refine nj_blk ?_
   exact cnk7 _ _ u11.2 g12 (hJk7 _ (Option.some.inj hm).symm) ⟨rfl, rfl, rfl, rfl, rfl, rfl, rfl, trivial⟩ (fun _ h => h.picks [1, 1, 1] rfl)
  ·have hRk13 : ∀ t, k13 = .ret t → some t = some k7 := fun t e => by rw [hX t e] at hm; exact hm
   have hm := hs
   refine cj_seq ?_
   refine cj_seq ?_
   refine cj_reg ?_
   refine lp rfl (p_mv rfl) ?_
   refine lp rfl (p_fab fl156_2 rfl) ?_
   refine lp rfl (p_lbs ty3 rfl (j := 0) rfl rfl) ?_
   refine lp rfl (p_leq rfl rfl) ?_
   refine lj_seq ?_
   refine cj_if (b := decide (u11.1 ≤ x2.times)) rfl (fun hb => ?_) (fun hb => ?_)
   ·have hm := ifB_t hb hm
    refine cj_skip ?_
    refine nj_seq ?_
    refine cj_seq ?_
    refine cj_blk ?_
    refine cj_seq ?_
    refine cj_reg ?_
    refine lp rfl (p_fab fl156_0 rfl) ?_
    refine lp rfl (p_lbs ty3 rfl (j := 0) rfl rfl) ?_
    refine lp rfl (p_as rfl) ?_
    refine lj_seq ?_
    obtain ⟨f19, hf19, hm⟩ := bindS hm
    refine cj_whileA (γ := SV) hf19 g12 (fun u16 g17 => [(0, s0_.v), (2, .int .i64 a2), (6, .slice none 0 0), (7, g17.v), (9, .pointer (some ⟨b10, 0, none⟩)), (10, .int .i64 u11.1), (11, .int .i64 u16.1), (12, s1_.v), (13, .int .i64 (a1.length : Int)), (14, .int .i64 (i1 : Int))]) (fun u16 g17 => Sat w0 (keys ([] : List Ent)) A [.box b10 156 [.int .i64 x2.from_, .int .i64 x2.to_, .int .i64 x2.times], .ro (RdS R63 (SV.v s0_) a0), .ro (RdS R156 (SV.v s1_) a1), .row R3 (SV.v g17) u16.2]) ⟨rfl, rfl, rfl, rfl, rfl, rfl, rfl, rfl, rfl, rfl, trivial⟩ (fun _ h => h.picks [0, 0, 0, 0] rfl) (fun u16 g17 e => ?_) (fun aftk18 u16 g17 k18 hs J hJk18 hBk18 hX I cnk18 => ?_)
    ·have hm := Flow.fin_b e hm
     refine nj_blk ?_
     refine nj_seq ?_
     refine cj_reg ?_
     refine lp rfl (p_mv rfl) ?_
     refine lp rfl (p_add rfl rfl) ?_
     refine lp rfl (p_as rfl) ?_
     refine lj_nil ?_
     exact cnk13 _ _ (w64 (u11.1 + 1), u16.2) g17 (hJk13 _ (Option.some.inj hm).symm) ⟨rfl, rfl, rfl, rfl, rfl, rfl, rfl, rfl, rfl, trivial⟩ (fun _ h => h.picks [0, 0, 0, 0] rfl)
    ·have hRk18 : ∀ t, k18 = .ret t → some t = some k13 := fun t e => by rw [hX t e] at hm; exact hm
     have hm := hs
     refine cj_seq ?_
     refine cj_seq ?_
     refine cj_reg ?_
     obtain ⟨k23, hk23, hm⟩ := bindS hm
     have hRk23 : ∀ t, k23 = .inr t → some t = some k18 := fun t e => by rw [e] at hm; exact hm
     refine lj_join (σ := Bool) (γ := Unit) (fun u21 => k23 = .inl u21) (fun u21 g22 => [(0, s0_.v), (2, .int .i64 a2), (6, .slice none 0 0), (7, g17.v), (9, .pointer (some ⟨b10, 0, none⟩)), (10, .int .i64 u11.1), (11, .int .i64 u16.1), (12, s1_.v), (13, .int .i64 (a1.length : Int)), (14, .int .i64 (i1 : Int)), (35, .bool u21)]) (fun u21 g22 => Sat w0 (keys ([] : List Ent)) A [.box b10 156 [.int .i64 x2.from_, .int .i64 x2.to_, .int .i64 x2.times], .ro (RdS R63 (SV.v s0_) a0), .ro (RdS R156 (SV.v s1_) a1), .row R3 (SV.v g17) u16.2]) (fun u21 g22 hq => ?_) (fun J cnk23 => ?_)
     ·have hm := Sum.fin_l hq hm
      refine cj_if (b := u21) rfl (fun hb => ?_) (fun hb => ?_)
      ·have hm := ifB_t hb hm
       refine cj_skip ?_
       refine nj_seq ?_
       refine cj_seq ?_
       refine cj_blk ?_
       refine cj_seq ?_
       refine cj_reg ?_
       obtain ⟨k26, hk26, hm⟩ := bindS hm
       have hRk26 : ∀ t, k26 = .inr t → some t = some k18 := fun t e => by rw [e] at hm; exact hm
       refine lj_join (σ := Bool) (γ := Unit) (fun u24 => k26 = .inl u24) (fun u24 g25 => [(0, s0_.v), (2, .int .i64 a2), (6, .slice none 0 0), (7, g17.v), (9, .pointer (some ⟨b10, 0, none⟩)), (10, .int .i64 u11.1), (11, .int .i64 u16.1), (12, s1_.v), (13, .int .i64 (a1.length : Int)), (14, .int .i64 (i1 : Int)), (52, .bool u24)]) (fun u24 g25 => Sat w0 (keys ([] : List Ent)) A [.box b10 156 [.int .i64 x2.from_, .int .i64 x2.to_, .int .i64 x2.times], .ro (RdS R63 (SV.v s0_) a0), .ro (RdS R156 (SV.v s1_) a1), .row R3 (SV.v g17) u16.2]) (fun u24 g25 hq => ?_) (fun J cnk26 => ?_)
       ·have hm := Sum.fin_l hq hm
        refine cj_if (b := u24) rfl (fun hb => ?_) (fun hb => ?_)
        ·have hm := ifB_t hb hm
         refine cj_reg ?_
         refine lp rfl (p_mv rfl) ?_
         refine lp rfl (p_mv rfl) ?_
         refine r_bs R3 [u16.1] rfl rfl rfl (fun _ => by kernel_rfl) rfl (fun s29 => ?_)
         obtain ⟨q30, hq30, hm⟩ := bindS hm
         refine r_app (k := 4) Tryz.underlying22 ty3 rfl rfl rfl rfl (.row 0 rfl) hq30 rfl (fun s31 => ?_)
         refine lp rfl (p_as rfl) ?_
         refine lj_nil ?_
         refine nj_blk ?_
         refine nj_seq ?_
         refine cj_reg ?_
         refine lp rfl (p_mv rfl) ?_
         refine lp rfl (p_add rfl rfl) ?_
         refine lp rfl (p_as rfl) ?_
         refine lj_nil ?_
         exact cnk18 _ _ (w64 (u16.1 + 1), q30) s31 (hJk18 _ (Option.some.inj hm).symm) ⟨rfl, rfl, rfl, rfl, rfl, rfl, rfl, rfl, rfl, rfl, trivial⟩ (fun _ h => h.picks [1, 1, 1, 1] rfl)
        ·have hm := ifB_f hb hm
         refine cj_skip ?_
         refine nj_blk ?_
         refine nj_seq ?_
         refine cj_reg ?_
         refine lp rfl (p_mv rfl) ?_
         refine lp rfl (p_add rfl rfl) ?_
         refine lp rfl (p_as rfl) ?_
         refine lj_nil ?_
         exact cnk18 _ _ (w64 (u16.1 + 1), u16.2) g17 (hJk18 _ (Option.some.inj hm).symm) ⟨rfl, rfl, rfl, rfl, rfl, rfl, rfl, rfl, rfl, rfl, trivial⟩ (fun _ h => h.picks [0, 0, 0, 0] rfl)
       ·have hm := hk26
        refine lp rfl (p_mv rfl) ?_
        refine lp rfl (p_mv rfl) ?_
        obtain ⟨e27, he27, hm⟩ := bindS hm
        refine lp rfl (p_idx Tryz.underlying64 ty63 rfl rfl (.ro 1 rfl) he27) ?_
        refine lp rfl (p_fae fl63_3 rfl (.ro 1 rfl) (getI_spec he27).2) ?_
        refine lp rfl (p_lde (o := 3) ty3 rfl rfl (.ro 1 rfl) (getI_spec he27).2 rfl) ?_
        refine lp rfl (p_eql rfl rfl) ?_
        refine lp rfl (p_mv rfl) ?_
        refine lcase (i := 44) (e27.Ending == 0) rfl (fun hb => ?_) (fun hb => ?_)
        ·have hm := ifB_t hb hm
         refine ls false rfl rfl rfl rfl ?_
         refine ls false rfl rfl rfl rfl ?_
         refine ls false rfl rfl rfl rfl ?_
         refine ls false rfl rfl rfl rfl ?_
         refine ls false rfl rfl rfl rfl ?_
         refine ls false rfl rfl rfl rfl ?_
         refine ls false rfl rfl rfl rfl ?_
         refine lp rfl (p_pkt rfl rfl) ?_
         refine lj_nil ?_
         exact cnk26 _ _ true () (Option.some.inj hm).symm ⟨rfl, rfl, rfl, rfl, rfl, rfl, rfl, rfl, rfl, rfl, rfl, trivial⟩ (fun _ h => h.picks [0, 0, 0, 0] rfl)
        ·have hm := ifB_f hb hm
         refine lg false rfl rfl rfl ?_
         refine lp rfl (p_mv rfl) ?_
         refine lg false rfl rfl rfl ?_
         refine lp rfl (p_mv rfl) ?_
         refine lg false rfl rfl rfl ?_
         obtain ⟨e28, he28, hm⟩ := bindS hm
         refine lp rfl (p_idx Tryz.underlying64 ty63 rfl rfl (.ro 1 rfl) he28) ?_
         refine lg false rfl rfl rfl ?_
         refine lp rfl (p_fae fl63_3 rfl (.ro 1 rfl) (getI_spec he28).2) ?_
         refine lg false rfl rfl rfl ?_
         refine lp rfl (p_lde (o := 3) ty3 rfl rfl (.ro 1 rfl) (getI_spec he28).2 rfl) ?_
         refine lg false rfl rfl rfl ?_
         refine lp rfl (p_mv rfl) ?_
         refine lg false rfl rfl rfl ?_
         refine lp rfl (p_eql rfl rfl) ?_
         refine lp rfl (p_pkf rfl rfl) ?_
         refine lj_nil ?_
         exact cnk26 _ _ (e28.Ending == u11.1) () (Option.some.inj hm).symm ⟨rfl, rfl, rfl, rfl, rfl, rfl, rfl, rfl, rfl, rfl, rfl, trivial⟩ (fun _ h => h.picks [0, 0, 0, 0] rfl)
      ·have hm := ifB_f hb hm
       refine cj_exit rfl ?_
       exact (aftk18 (u16.1, u16.2) g17 (hBk18 _ (Option.some.inj hm).symm)).sub ⟨rfl, rfl, rfl, rfl, rfl, rfl, rfl, rfl, rfl, rfl, trivial⟩ (fun _ h => h.picks [0, 0, 0, 0] rfl)
     ·have hm := hk23
      refine lp rfl (p_mv rfl) ?_
      refine lp rfl (p_fab fl156_1 rfl) ?_
      refine lp rfl (p_lbs ty3 rfl (j := 0) rfl rfl) ?_
      refine lp rfl (p_lss rfl rfl) ?_
      refine lp rfl (p_mv rfl) ?_
      refine lcase (i := 30) (decide (u16.1 < x2.to_)) rfl (fun hb => ?_) (fun hb => ?_)
      ·have hm := ifB_t hb hm
       refine lg true rfl rfl rfl ?_
       refine lp rfl (p_mv rfl) ?_
       refine lg true rfl rfl rfl ?_
       refine lp rfl (p_len Tryz.underlying22 rfl (.row 3 rfl)) ?_
       refine lg true rfl rfl rfl ?_
       refine lp rfl (p_mv rfl) ?_
       refine lg true rfl rfl rfl ?_
       refine lp rfl (p_leq rfl rfl) ?_
       refine lp rfl (p_pkt rfl rfl) ?_
       refine lj_nil ?_
       exact cnk23 _ _ (decide ((u16.2.length : Int) ≤ a2)) () (Option.some.inj hm).symm ⟨rfl, rfl, rfl, rfl, rfl, rfl, rfl, rfl, rfl, rfl, rfl, trivial⟩ (fun _ h => h.picks [0, 0, 0, 0] rfl)
      ·have hm := ifB_f hb hm
       refine ls true rfl rfl rfl rfl ?_
       refine ls true rfl rfl rfl rfl ?_
       refine ls true rfl rfl rfl rfl ?_
       refine ls true rfl rfl rfl rfl ?_
       refine lp rfl (p_pkf rfl rfl) ?_
       refine lj_nil ?_
       exact cnk23 _ _ false () (Option.some.inj hm).symm ⟨rfl, rfl, rfl, rfl, rfl, rfl, rfl, rfl, rfl, rfl, rfl, trivial⟩ (fun _ h => h.picks [0, 0, 0, 0] rfl)
   ·have hm := ifB_f hb hm
    refine cj_exit rfl ?_
    exact (aftk13 (u11.1, u11.2) g12 (hBk13 _ (Option.some.inj hm).symm)).sub ⟨rfl, rfl, rfl, rfl, rfl, rfl, rfl, rfl, rfl, trivial⟩ (fun _ h => h.picks [0, 0, 0, 0] rfl)
theorem ok_piece_CheckBars (s0_ : SV) (a0 : (List TBar)) {r : Int} (hm : m_piece_CheckBars a0 = some r) :
  Ctr Tryz.prog 47 [s0_.v].toArray ([] : List Ent) [RdS R63 (SV.v s0_) a0] (X := Unit) (fun _ => .int .i64 r) (fun _ => []) := by
 unfold m_piece_CheckBars at hm
 refine ctr_mk (vs := [(0, s0_.v)]) Tryz.func47 rfl Tryz.ntmps47 rfl ⟨rfl, trivial⟩ (fun w0 A => ?_)
 refine cj_seq ?_
 refine cj_reg ?_
 refine lp rfl (p_as rfl) ?_
 refine lj_seq ?_
 refine cj_seq ?_
 refine cj_seq ?_
 refine cj_reg ?_
 refine lp rfl (p_mv rfl) ?_
 refine lp rfl (p_len Tryz.underlying64 rfl (.ro 0 rfl)) ?_
 refine lp rfl (p_eql rfl rfl) ?_
 refine lj_seq ?_
 refine cj_if (b := (a0.length : Int) == 0) rfl (fun hb => ?_) (fun hb => ?_)
 ·have hm := ifB_t hb hm
  refine cj_seq ?_
  refine cj_reg ?_
  refine lp rfl (p_as rfl) ?_
  refine lj_seq ?_
  obtain rfl := Option.some.inj hm
  exact cj_rt () [] Tryz.results47 (.tmp rfl .nil) rfl rfl
 ·have hm := ifB_f hb hm
  refine cj_skip ?_
  refine nj_seq ?_
  refine cj_seq ?_
  refine cj_seq ?_
  refine cj_reg ?_
  refine lp rfl (p_mv rfl) ?_
  refine lp rfl (p_len Tryz.underlying64 rfl (.ro 0 rfl)) ?_
  refine lp rfl (p_gtr rfl rfl) ?_
  refine lj_seq ?_
  refine cj_if (b := decide ((a0.length : Int) > 300)) rfl (fun hb => ?_) (fun hb => ?_)
  ·have hm := ifB_t hb hm
   refine cj_seq ?_
   refine cj_reg ?_
   refine lp rfl (p_as rfl) ?_
   refine lj_seq ?_
   obtain rfl := Option.some.inj hm
   exact cj_rt () [] Tryz.results47 (.tmp rfl .nil) rfl rfl
  ·have hm := ifB_f hb hm
   refine cj_skip ?_
   refine nj_seq ?_
   refine cj_seq ?_
   refine cj_seq ?_
   refine cj_reg ?_
   refine lp rfl (p_mv rfl) ?_
   obtain ⟨y1, hy1, hm⟩ := bindS hm
   refine r_call [] cf78 rfl rfl (ok_piece_rulesFault s0_ a0 hy1) rfl rfl (.cons (.ro 0 rfl) .nil) (fun _ => rfl) rfl (fun _ => ?_)
   refine lp rfl (p_as rfl) ?_
   refine lj_seq ?_
   refine cj_seq ?_
   refine cj_reg ?_
   refine lp rfl (p_mv rfl) ?_
   refine lp rfl (p_neq rfl rfl) ?_
   refine lj_seq ?_
   refine cj_if (b := y1 != 0) rfl (fun hb => ?_) (fun hb => ?_)
   ·have hm := ifB_t hb hm
    refine cj_seq ?_
    refine cj_reg ?_
    refine lp rfl (p_mv rfl) ?_
    refine lp rfl (p_as rfl) ?_
    refine lj_seq ?_
    obtain rfl := Option.some.inj hm
    exact cj_rt () [] Tryz.results47 (.tmp rfl .nil) rfl rfl
   ·have hm := ifB_f hb hm
    refine cj_skip ?_
    refine nj_seq ?_
    refine cj_seq ?_
    refine cj_reg ?_
    refine lp rfl (p_mv rfl) ?_
    obtain ⟨y2, hy2, hm⟩ := bindS hm
    refine r_call [] cf79 rfl rfl (ok_piece_repeats s0_ a0 hy2) rfl rfl (.cons (.ro 0 rfl) .nil) (fun _ => rfl) rfl (fun s3 => ?_)
    refine lp rfl (p_mv rfl) ?_
    refine lp rfl (p_ext rfl rfl) ?_
    refine lp rfl (p_ext rfl rfl) ?_
    refine lp rfl (p_as rfl) ?_
    refine lp rfl (p_as rfl) ?_
    refine lj_seq ?_
    refine cj_seq ?_
    refine cj_seq ?_
    refine cj_reg ?_
    refine lp rfl (p_mv rfl) ?_
    refine lp rfl (p_not rfl) ?_
    refine lj_seq ?_
    refine cj_if (b := !y2.2) rfl (fun hb => ?_) (fun hb => ?_)
    ·have hm := ifB_t hb hm
     refine cj_seq ?_
     refine cj_reg ?_
     refine lp rfl (p_as rfl) ?_
     refine lj_seq ?_
     obtain rfl := Option.some.inj hm
     exact cj_rt () [] Tryz.results47 (.tmp rfl .nil) rfl rfl
    ·have hm := ifB_f hb hm
     refine cj_skip ?_
     refine nj_seq ?_
     refine cj_seq ?_
     refine cj_seq ?_
     refine cj_reg ?_
     refine lp rfl (p_mv rfl) ?_
     refine lp rfl (p_mv rfl) ?_
     obtain ⟨y4, hy4, hm⟩ := bindS hm
     refine r_call [] cf80 rfl rfl (ok_piece_order s0_ a0 s3 y2.1 2000 hy4) rfl rfl (.cons (.ro 1 rfl) (.cons (.row 0 rfl) .nil)) (fun _ => rfl) rfl (fun s5 => ?_)
     refine lp rfl (p_len Tryz.underlying22 rfl (.row 0 rfl)) ?_
     refine lp rfl (p_gtr rfl rfl) ?_
     refine lj_seq ?_
     refine cj_if (b := decide ((y4.length : Int) > 2000)) rfl (fun hb => ?_) (fun hb => ?_)
     ·have hm := ifB_t hb hm
      refine cj_seq ?_
      refine cj_reg ?_
      refine lp rfl (p_as rfl) ?_
      refine lj_seq ?_
      obtain rfl := Option.some.inj hm
      exact cj_rt () [] Tryz.results47 (.tmp rfl .nil) rfl rfl
     ·have hm := ifB_f hb hm
      refine cj_skip ?_
      refine nj_seq ?_
      refine cj_seq ?_
      refine cj_reg ?_
      refine lp rfl (p_as rfl) ?_
      refine lj_seq ?_
      obtain rfl := Option.some.inj hm
      exact cj_rt () [] Tryz.results47 (.tmp rfl .nil) rfl rfl
theorem ok_piece_played (s0_ : SV) (a0 : (List TBar)) {r : (List Int)} (hm : m_piece_played a0 = some r) :
  Ctr Tryz.prog 48 [s0_.v].toArray ([] : List Ent) [RdS R63 (SV.v s0_) a0] (X := SV) (fun s => s.v) (fun s => [.row R3 (SV.v s) r]) := by
 unfold m_piece_played at hm
 refine ctr_mk (vs := [(0, s0_.v)]) Tryz.func48 rfl Tryz.ntmps48 rfl ⟨rfl, trivial⟩ (fun w0 A => ?_)
 refine cj_seq ?_
 refine cj_reg ?_
 refine lp rfl (p_as rfl) ?_
 refine lj_seq ?_
 refine cj_seq ?_
 refine cj_reg ?_
 refine lp rfl (p_mv rfl) ?_
 obtain ⟨y1, hy1, hm⟩ := bindS hm
 refine r_call [] cf79 rfl rfl (ok_piece_repeats s0_ a0 hy1) rfl rfl (.cons (.ro 0 rfl) .nil) (fun _ => rfl) rfl (fun s2 => ?_)
 refine lp rfl (p_mv rfl) ?_
 refine lp rfl (p_ext rfl rfl) ?_
 refine lp rfl (p_ext rfl rfl) ?_
 refine lp rfl (p_as rfl) ?_
 refine lp rfl (p_as rfl) ?_
 refine lj_seq ?_
 refine cj_seq ?_
 refine cj_reg ?_
 refine lp rfl (p_mv rfl) ?_
 refine lp rfl (p_mv rfl) ?_
 obtain ⟨y3, hy3, hm⟩ := bindS hm
 refine r_call [] cf80 rfl rfl (ok_piece_order s0_ a0 s2 y1.1 2000 hy3) rfl rfl (.cons (.ro 1 rfl) (.cons (.row 0 rfl) .nil)) (fun _ => rfl) rfl (fun s4 => ?_)
 refine lp rfl (p_as rfl) ?_
 refine lj_seq ?_
 obtain rfl := Option.some.inj hm
 exact cj_rt s4 [0] Tryz.results48 (.tmp rfl .nil) rfl rfl
theorem ok_piece_Order (s0_ : SV) (a0 : (List TBar)) {r : (List Int) × Int} (hm : m_piece_Order a0 = some r) :
  Ctr Tryz.prog 24 [s0_.v].toArray ([] : List Ent) [RdS R63 (SV.v s0_) a0] (X := SV) (fun s => .tuple [s.v, .int .i64 r.2].toArray) (fun s => [.row R3 (SV.v s) r.1]) := by
 unfold m_piece_Order at hm
 refine ctr_mk (vs := [(0, s0_.v)]) Tryz.func24 rfl Tryz.ntmps24 rfl ⟨rfl, trivial⟩ (fun w0 A => ?_)
 refine cj_seq ?_
 refine cj_reg ?_
 refine lp rfl (p_as rfl) ?_
 refine lp rfl (p_as rfl) ?_
 refine lj_seq ?_
 refine cj_seq ?_
 refine cj_seq ?_
 refine cj_reg ?_
 refine lp rfl (p_mv rfl) ?_
 obtain ⟨y1, hy1, hm⟩ := bindS hm
 refine r_call [] cf47 rfl rfl (ok_piece_CheckBars s0_ a0 hy1) rfl rfl (.cons (.ro 0 rfl) .nil) (fun _ => rfl) rfl (fun _ => ?_)
 refine lp rfl (p_as rfl) ?_
 refine lj_seq ?_
 refine cj_seq ?_
 refine cj_reg ?_
 refine lp rfl (p_mv rfl) ?_
 refine lp rfl (p_neq rfl rfl) ?_
 refine lj_seq ?_
 refine cj_if (b := y1 != 0) rfl (fun hb => ?_) (fun hb => ?_)
 ·have hm := ifB_t hb hm
  refine cj_seq ?_
  refine cj_reg ?_
  refine lp rfl (p_mv rfl) ?_
  refine lp rfl (p_as rfl) ?_
  refine lp rfl (p_as rfl) ?_
  refine lj_seq ?_
  obtain rfl := Option.some.inj hm
  refine cj_nil R3 ?_
  exact cj_rt nilS [0] Tryz.results24 (.tmp rfl (.tmp rfl .nil)) rfl rfl
 ·have hm := ifB_f hb hm
  refine cj_skip ?_
  refine nj_seq ?_
  refine cj_seq ?_
  refine cj_reg ?_
  refine lp rfl (p_mv rfl) ?_
  obtain ⟨y3, hy3, hm⟩ := bindS hm
  refine r_call [] cf48 rfl rfl (ok_piece_played s0_ a0 hy3) rfl rfl (.cons (.ro 0 rfl) .nil) (fun _ => rfl) rfl (fun s4 => ?_)
  refine lp rfl (p_as rfl) ?_
  refine lp rfl (p_as rfl) ?_
  refine lj_seq ?_
  obtain rfl := Option.some.inj hm
  exact cj_rt s4 [0] Tryz.results24 (.tmp rfl (.tmp rfl .nil)) rfl rfl
theorem ok_chord_isKind (a0 : Int) {r : Bool} (hm : m_chord_isKind a0 = some r) :
  Ctr Tryz.prog 81 [.int .i64 a0].toArray ([] : List Ent) [] (X := Unit) (fun _ => .bool r) (fun _ => []) := by
 unfold m_chord_isKind at hm
 refine ctr_mk (vs := [(0, .int .i64 a0)]) Tryz.func81 rfl Tryz.ntmps81 rfl ⟨rfl, trivial⟩ (fun w0 A => ?_)
 refine cj_seq ?_
 refine cj_reg ?_
 refine lp rfl (p_as rfl) ?_
 refine lj_seq ?_
 refine cj_seq ?_
 refine cj_reg ?_
 refine lp rfl (p_mv rfl) ?_
 obtain ⟨y1, hy1, hm⟩ := bindS hm
 refine r_call [] cf76 rfl rfl (ok_kit_Outside a0 1 7 hy1) rfl rfl .nil (fun _ => rfl) rfl (fun _ => ?_)
 refine lp rfl (p_not rfl) ?_
 refine lp rfl (p_as rfl) ?_
 refine lj_seq ?_
 obtain rfl := Option.some.inj hm
 exact cj_rt () [] Tryz.results81 (.tmp rfl .nil) rfl rfl
theorem ok_chord_above (a0 : Int) {r : (List Int)} (hm : m_chord_above a0 = some r) :
  Ctr Tryz.prog 82 [.int .i64 a0].toArray ([] : List Ent) [] (X := SV) (fun s => s.v) (fun s => [.ro (RdS R3 (SV.v s) r)]) := by
 unfold m_chord_above at hm
 refine ctr_mk (vs := [(0, .int .i64 a0)]) Tryz.func82 rfl Tryz.ntmps82 rfl ⟨rfl, trivial⟩ (fun w0 A => ?_)
 refine cj_seq ?_
 refine cj_reg ?_
 refine lp rfl (p_as rfl) ?_
 refine lj_seq ?_
 refine cj_seq ?_
 refine cj_reg ?_
 refine r_bs R3 [0, 4, 7] rfl rfl rfl (fun _ => by kernel_rfl) rfl (fun s1 => ?_)
 refine r_bs R3 [0, 3, 7] rfl rfl rfl (fun _ => by kernel_rfl) rfl (fun s2 => ?_)
 refine r_bs R3 [0, 3, 6] rfl rfl rfl (fun _ => by kernel_rfl) rfl (fun s3 => ?_)
 refine r_bs R3 [0, 4, 8] rfl rfl rfl (fun _ => by kernel_rfl) rfl (fun s4 => ?_)
 refine r_bs R3 [0, 4, 7, 10] rfl rfl rfl (fun _ => by kernel_rfl) rfl (fun s5 => ?_)
 refine r_bs R3 [0, 4, 7, 11] rfl rfl rfl (fun _ => by kernel_rfl) rfl (fun s6 => ?_)
 refine r_bs R3 [0, 3, 7, 10] rfl rfl rfl (fun _ => by kernel_rfl) rfl (fun s7 => ?_)
 refine r_fz 6 rfl ?_
 refine r_fz 6 rfl ?_
 refine r_fz 6 rfl ?_
 refine r_fz 6 rfl ?_
 refine r_fz 6 rfl ?_
 refine r_fz 6 rfl ?_
 refine r_fz 6 rfl ?_
 refine r_fact (F := Lk N22 [[], [0, 4, 7], [0, 3, 7], [0, 3, 6], [0, 4, 8], [0, 4, 7, 10], [0, 4, 7, 11], [0, 3, 7, 10]] [([], nilS), ([0, 4, 7], s1), ([0, 3, 7], s2), ([0, 3, 6], s3), ([0, 4, 8], s4), ([0, 4, 7, 10], s5), ([0, 4, 7, 11], s6), ([0, 3, 7, 10], s7)]) (.imp (.and (.nilS R3) (.imp (.and (.ro 6 rfl) (.imp (.and (.ro 5 rfl) (.imp (.and (.ro 4 rfl) (.imp (.and (.ro 3 rfl) (.imp (.and (.ro 2 rfl) (.imp (.and (.ro 1 rfl) (.imp (.and (.ro 0 rfl) (.nilL N22)) (fun _ h => Lk.cons h.1 h.2))) (fun _ h => Lk.cons h.1 h.2))) (fun _ h => Lk.cons h.1 h.2))) (fun _ h => Lk.cons h.1 h.2))) (fun _ h => Lk.cons h.1 h.2))) (fun _ h => Lk.cons h.1 h.2))) (fun _ h => Lk.cons h.1 h.2))) (fun _ h => Lk.cons h.1 h.2)) ?_
 have hLs8 : (([([], nilS), ([0, 4, 7], s1), ([0, 3, 7], s2), ([0, 3, 6], s3), ([0, 4, 8], s4), ([0, 4, 7, 10], s5), ([0, 4, 7, 11], s6), ([0, 3, 7, 10], s7)] : List ((List Int) × SV)).map Prod.fst) = ([[], [0, 4, 7], [0, 3, 7], [0, 3, 6], [0, 4, 8], [0, 4, 7, 10], [0, 4, 7, 11], [0, 3, 7, 10]] : List (List Int)) := rfl
 refine r_bs N22.R [([], nilS), ([0, 4, 7], s1), ([0, 3, 7], s2), ([0, 3, 6], s3), ([0, 4, 8], s4), ([0, 4, 7, 10], s5), ([0, 4, 7, 11], s6), ([0, 3, 7, 10], s7)] rfl rfl rfl (fun _ => by kernel_rfl) rfl (fun s8 => ?_)
 refine lp rfl (p_mv rfl) ?_
 obtain ⟨e12, he12, hm⟩ := bindS hm
 obtain ⟨ge12, he12G⟩ := lk_getI hLs8 he12
 refine lp rfl (p_idx Tryz.underlying157 ty22 rfl rfl (.row 0 rfl) he12G) ?_
 refine lp rfl (p_lde (o := 0) ty22 rfl rfl (.row 0 rfl) (getI_spec he12G).2 rfl) ?_
 refine lp rfl (p_as rfl) ?_
 refine lj_seq ?_
 obtain rfl := Option.some.inj hm
 refine cj_fact (F := RdS R3 (SV.v ge12) e12) (.imp (.ro 1 rfl) (fun _ h => (Lk.at_ h (getI_spec he12G).2))) ?_
 exact cj_rt ge12 [0] Tryz.results82 (.tmp rfl .nil) rfl rfl
theorem ok_chord_CheckChord (a0 : TChord) {r : Int} (hm : m_chord_CheckChord a0 = some r) :
  Ctr Tryz.prog 49 [.agg (R68.enc a0).toArray].toArray ([] : List Ent) [] (X := Unit) (fun _ => .int .i64 r) (fun _ => []) := by
 unfold m_chord_CheckChord at hm
 refine ctr_mk (vs := [(0, .agg (R68.enc a0).toArray)]) Tryz.func49 rfl Tryz.ntmps49 rfl ⟨rfl, trivial⟩ (fun w0 A => ?_)
 refine cj_seq ?_
 refine cj_reg ?_
 refine r_bx (cs := [.int .i64 a0.Root, .int .i64 a0.Kind, .int .i64 a0.Turn]) rfl rfl rfl (fun b1 => ?_)
 refine lp rfl (p_as rfl) ?_
 refine lj_seq ?_
 refine cj_seq ?_
 refine cj_seq ?_
 refine cj_reg ?_
 refine lp rfl (p_fab fl68_0 rfl) ?_
 refine lp rfl (p_lbs ty3 rfl (j := 0) rfl rfl) ?_
 obtain ⟨y2, hy2, hm⟩ := bindS hm
 refine r_call [] cf76 rfl rfl (ok_kit_Outside a0.Root 0 11 hy2) rfl rfl .nil (fun _ => rfl) rfl (fun _ => ?_)
 refine lj_seq ?_
 refine cj_if (b := y2) rfl (fun hb => ?_) (fun hb => ?_)
 ·have hm := ifB_t hb hm
  refine cj_seq ?_
  refine cj_reg ?_
  refine lp rfl (p_as rfl) ?_
  refine lj_seq ?_
  obtain rfl := Option.some.inj hm
  exact cj_rt () [] Tryz.results49 (.tmp rfl .nil) rfl rfl
 ·have hm := ifB_f hb hm
  refine cj_skip ?_
  refine nj_seq ?_
  refine cj_seq ?_
  refine cj_seq ?_
  refine cj_reg ?_
  refine lp rfl (p_fab fl68_1 rfl) ?_
  refine lp rfl (p_lbs ty3 rfl (j := 0) rfl rfl) ?_
  obtain ⟨y3, hy3, hm⟩ := bindS hm
  refine r_call [] cf81 rfl rfl (ok_chord_isKind a0.Kind hy3) rfl rfl .nil (fun _ => rfl) rfl (fun _ => ?_)
  refine lp rfl (p_not rfl) ?_
  refine lj_seq ?_
  refine cj_if (b := !y3) rfl (fun hb => ?_) (fun hb => ?_)
  ·have hm := ifB_t hb hm
   refine cj_seq ?_
   refine cj_reg ?_
   refine lp rfl (p_as rfl) ?_
   refine lj_seq ?_
   obtain rfl := Option.some.inj hm
   exact cj_rt () [] Tryz.results49 (.tmp rfl .nil) rfl rfl
  ·have hm := ifB_f hb hm
   refine cj_skip ?_
   refine nj_seq ?_
   refine cj_seq ?_
   refine cj_seq ?_
   obtain ⟨y4, hy4, hm⟩ := bindS hm
   obtain ⟨y6, hy6, hm⟩ := bindS hm
   refine cj_anyT [0, 1, 2, 3, 6] [] (Sat w0 (keys ([] : List Ent)) A [.box b1 68 [.int .i64 a0.Root, .int .i64 a0.Kind, .int .i64 a0.Turn]]) (Sat w0 (keys ([] : List Ent)) A [.box b1 68 [.int .i64 a0.Root, .int .i64 a0.Kind, .int .i64 a0.Turn]]) (by kernel_rfl) ?_
   refine at_take2 0 rfl (by kernel_rfl) (by kernel_rfl) (by kernel_rfl) (fun _ h => h.picks [0] rfl) rfl rfl (p_fab fl68_2 rfl) (fun _ h => h.picks [0] rfl) ?_
   refine at_take2 1 rfl (by kernel_rfl) (by kernel_rfl) (by kernel_rfl) (fun _ h => h.picks [0] rfl) rfl rfl (p_lbs ty3 rfl (j := 0) rfl rfl) (fun _ h => h.picks [0] rfl) ?_
   refine at_take2 2 rfl (by kernel_rfl) (by kernel_rfl) (by kernel_rfl) (fun _ h => h.picks [0] rfl) rfl rfl (p_fab fl68_1 rfl) (fun _ h => h.picks [0] rfl) ?_
   refine at_take2 3 rfl (by kernel_rfl) (by kernel_rfl) (by kernel_rfl) (fun _ h => h.picks [0] rfl) rfl rfl (p_lbs ty3 rfl (j := 0) rfl rfl) (fun _ h => h.picks [0] rfl) ?_
   refine at_each (rs := [4]) (by kernel_rfl) (by decide) ?_
   refine (.cons rfl (fun I cnI => ?_) .nil)
   ·refine r_callN [] cf82 rfl rfl (ok_chord_above a0.Kind hy4) rfl rfl .nil rfl (fun s7 => ?_)
    refine lj_nil ?_
    refine cnI _ _ (sof1 rfl rfl (fun _ h => h.picks [1] rfl)) ?_
    refine at_each (rs := [5]) (by kernel_rfl) (by decide) ?_
    refine (.cons rfl (fun I cnI => ?_) .nil)
    ·refine lp rfl (p_len Tryz.underlying22 rfl (.ro 0 rfl)) ?_
     refine lj_nil ?_
     refine cnI _ _ (sof1 rfl rfl (fun _ h => h.picks [1] rfl)) ?_
     refine at_take2 6 rfl (by kernel_rfl) (by kernel_rfl) (by kernel_rfl) (fun _ h => h.picks [0] rfl) rfl rfl (p_sub rfl rfl) (fun _ h => h.picks [1] rfl) ?_
     refine at_each (rs := [7]) (by kernel_rfl) (by decide) ?_
     refine (.cons rfl (fun I cnI => ?_) .nil)
     ·refine r_call [] cf76 rfl rfl (ok_kit_Outside a0.Turn 0 (w64 ((y4.length : Int) - 1)) hy6) rfl rfl .nil (fun _ => rfl) rfl (fun _ => ?_)
      refine lj_nil ?_
      refine cnI _ _ (sof1 rfl rfl (fun _ h => h.picks [1] rfl)) ?_
      refine at_done (by kernel_rfl) ?_
      refine nj_seq ?_
      refine cj_if (b := y6) rfl (fun hb => ?_) (fun hb => ?_)
      ·have hm := ifB_t hb hm
       refine cj_seq ?_
       refine cj_reg ?_
       refine lp rfl (p_as rfl) ?_
       refine lj_seq ?_
       obtain rfl := Option.some.inj hm
       exact cj_rt () [] Tryz.results49 (.tmp rfl .nil) rfl rfl
      ·have hm := ifB_f hb hm
       refine cj_skip ?_
       refine nj_seq ?_
       refine cj_seq ?_
       refine cj_reg ?_
       refine lp rfl (p_as rfl) ?_
       refine lj_seq ?_
       obtain rfl := Option.some.inj hm
       exact cj_rt () [] Tryz.results49 (.tmp rfl .nil) rfl rfl
theorem ok_chord_rootWords  {r : (List ByteArray)} (hm : m_chord_rootWords  = some r) :
  Ctr Tryz.prog 50 [].toArray ([] : List Ent) [] (X := SV) (fun s => s.v) (fun s => [.row R9 (SV.v s) r]) := by
 unfold m_chord_rootWords at hm
 refine ctr_mk (vs := []) Tryz.func50 rfl Tryz.ntmps50 rfl trivial (fun w0 A => ?_)
 refine cj_seq ?_
 refine cj_reg ?_
 refine lp rfl (p_as rfl) ?_
 refine lj_seq ?_
 refine cj_seq ?_
 refine cj_reg ?_
 refine r_bs R9 [(ByteArray.mk [99].toArray), (ByteArray.mk [99, 35].toArray), (ByteArray.mk [100].toArray), (ByteArray.mk [100, 35].toArray), (ByteArray.mk [101].toArray), (ByteArray.mk [102].toArray), (ByteArray.mk [102, 35].toArray), (ByteArray.mk [103].toArray), (ByteArray.mk [103, 35].toArray), (ByteArray.mk [97].toArray), (ByteArray.mk [97, 35].toArray), (ByteArray.mk [98].toArray)] rfl rfl rfl (fun _ => by kernel_rfl) rfl (fun s1 => ?_)
 refine lp rfl (p_as rfl) ?_
 refine lj_seq ?_
 obtain rfl := Option.some.inj hm
 exact cj_rt s1 [0] Tryz.results50 (.tmp rfl .nil) rfl rfl
theorem ok_chord_kindWords  {r : (List ByteArray)} (hm : m_chord_kindWords  = some r) :
  Ctr Tryz.prog 51 [].toArray ([] : List Ent) [] (X := SV) (fun s => s.v) (fun s => [.row R9 (SV.v s) r]) := by
 unfold m_chord_kindWords at hm
 refine ctr_mk (vs := []) Tryz.func51 rfl Tryz.ntmps51 rfl trivial (fun w0 A => ?_)
 refine cj_seq ?_
 refine cj_reg ?_
 refine lp rfl (p_as rfl) ?_
 refine lj_seq ?_
 refine cj_seq ?_
 refine cj_reg ?_
 refine r_bs R9 [ByteArray.empty, (ByteArray.mk [109, 97, 106].toArray), (ByteArray.mk [109, 105, 110].toArray), (ByteArray.mk [100, 105, 109].toArray), (ByteArray.mk [97, 117, 103].toArray), (ByteArray.mk [55].toArray), (ByteArray.mk [109, 97, 106, 55].toArray), (ByteArray.mk [109, 105, 110, 55].toArray)] rfl rfl rfl (fun _ => by kernel_rfl) rfl (fun s1 => ?_)
 refine lp rfl (p_as rfl) ?_
 refine lj_seq ?_
 obtain rfl := Option.some.inj hm
 exact cj_rt s1 [0] Tryz.results51 (.tmp rfl .nil) rfl rfl
theorem ok_chord_Name (a0 : TChord) {r : ByteArray × Int} (hm : m_chord_Name a0 = some r) :
  Ctr Tryz.prog 25 [.agg (R68.enc a0).toArray].toArray ([] : List Ent) [PowT] (X := Unit) (fun _ => .tuple [.string r.1, .int .i64 r.2].toArray) (fun _ => []) := by
 unfold m_chord_Name at hm
 refine ctr_mk (vs := [(0, .agg (R68.enc a0).toArray)]) Tryz.func25 rfl Tryz.ntmps25 rfl ⟨rfl, trivial⟩ (fun w0 A => ?_)
 refine cj_seq ?_
 refine cj_reg ?_
 refine r_bx (cs := [.int .i64 a0.Root, .int .i64 a0.Kind, .int .i64 a0.Turn]) rfl rfl rfl (fun b1 => ?_)
 refine lp rfl (p_as rfl) ?_
 refine lp rfl (p_as rfl) ?_
 refine lj_seq ?_
 refine cj_seq ?_
 refine cj_seq ?_
 refine cj_reg ?_
 refine lp rfl (p_lbw ty68 rfl (j := 0) rfl rfl) ?_
 obtain ⟨y2, hy2, hm⟩ := bindS hm
 refine r_call [] cf49 rfl rfl (ok_chord_CheckChord a0 hy2) rfl rfl .nil (fun _ => rfl) rfl (fun _ => ?_)
 refine lp rfl (p_as rfl) ?_
 refine lj_seq ?_
 refine cj_seq ?_
 refine cj_reg ?_
 refine lp rfl (p_mv rfl) ?_
 refine lp rfl (p_neq rfl rfl) ?_
 refine lj_seq ?_
 refine cj_if (b := y2 != 0) rfl (fun hb => ?_) (fun hb => ?_)
 ·have hm := ifB_t hb hm
  refine cj_seq ?_
  refine cj_reg ?_
  refine lp rfl (p_mv rfl) ?_
  refine lp rfl (p_as rfl) ?_
  refine lp rfl (p_as rfl) ?_
  refine lj_seq ?_
  obtain rfl := Option.some.inj hm
  exact cj_rt () [] Tryz.results25 (.tmp rfl (.tmp rfl .nil)) rfl rfl
 ·have hm := ifB_f hb hm
  refine cj_skip ?_
  refine nj_seq ?_
  refine cj_seq ?_
  obtain ⟨k5, hk5, hm⟩ := bindS hm
  have hRk5 : ∀ t, k5 = .inr t → some t = some r := fun t e => by rw [e] at hm; exact hm
  refine cj_joinK (σ := ByteArray) (γ := Unit) (fun u3 => k5 = .inl u3) (fun u3 g4 => [(1, .pointer (some ⟨b1, 0, none⟩)), (2, .string ByteArray.empty), (3, .int .i64 0), (5, .string u3)]) (fun u3 g4 => Sat w0 (keys ([] : List Ent)) A [.box b1 68 [.int .i64 a0.Root, .int .i64 a0.Kind, .int .i64 a0.Turn], .ro PowT]) (fun u3 g4 hq => ?_) (fun J cnk5 => ?_)
  ·have hm := Sum.fin_l hq hm
   refine cj_seq ?_
   refine cj_seq ?_
   refine cj_reg ?_
   refine lp rfl (p_fab fl68_2 rfl) ?_
   refine lp rfl (p_lbs ty3 rfl (j := 0) rfl rfl) ?_
   refine lp rfl (p_gtr rfl rfl) ?_
   refine lj_seq ?_
   refine cj_if (b := decide (a0.Turn > 0)) rfl (fun hb => ?_) (fun hb => ?_)
   ·have hm := ifB_t hb hm
    refine cj_reg ?_
    refine lp rfl (p_mv rfl) ?_
    refine lp rfl (p_fab fl68_2 rfl) ?_
    refine lp rfl (p_lbs ty3 rfl (j := 0) rfl rfl) ?_
    obtain ⟨y18, hy18, hm⟩ := bindS hm
    refine r_call [] cf52 rfl rfl (ok_strconv_Itoa a0.Turn hy18) rfl rfl (.cons (.ro 1 rfl) .nil) (fun _ => rfl) rfl (fun _ => ?_)
    obtain ⟨c19, hc19, hm⟩ := bindS hm
    refine lp rfl (p_catM hc19 rfl rfl) ?_
    obtain ⟨c20, hc20, hm⟩ := bindS hm
    refine lp rfl (p_catM hc20 rfl rfl) ?_
    refine lp rfl (p_as rfl) ?_
    refine lj_seq ?_
    refine cj_seq ?_
    refine cj_reg ?_
    refine lp rfl (p_mv rfl) ?_
    refine lp rfl (p_as rfl) ?_
    refine lp rfl (p_as rfl) ?_
    refine lj_seq ?_
    obtain rfl := Option.some.inj hm
    exact cj_rt () [] Tryz.results25 (.tmp rfl (.tmp rfl .nil)) rfl rfl
   ·have hm := ifB_f hb hm
    refine cj_skip ?_
    refine nj_seq ?_
    refine cj_seq ?_
    refine cj_reg ?_
    refine lp rfl (p_mv rfl) ?_
    refine lp rfl (p_as rfl) ?_
    refine lp rfl (p_as rfl) ?_
    refine lj_seq ?_
    obtain rfl := Option.some.inj hm
    exact cj_rt () [] Tryz.results25 (.tmp rfl (.tmp rfl .nil)) rfl rfl
  ·have hm := hk5
   obtain ⟨y6, hy6, hm⟩ := bindS hm
   obtain ⟨e8, he8, hm⟩ := bindS hm
   obtain ⟨c9, hc9, hm⟩ := bindS hm
   obtain ⟨y10, hy10, hm⟩ := bindS hm
   obtain ⟨e12, he12, hm⟩ := bindS hm
   obtain ⟨c13, hc13, hm⟩ := bindS hm
   refine cj_anyT [1, 2, 5, 7, 8, 11, 12] [] (Sat w0 (keys ([] : List Ent)) A [.box b1 68 [.int .i64 a0.Root, .int .i64 a0.Kind, .int .i64 a0.Turn], .ro PowT]) (Sat w0 (keys ([] : List Ent)) A [.box b1 68 [.int .i64 a0.Root, .int .i64 a0.Kind, .int .i64 a0.Turn], .ro PowT]) (by kernel_rfl) ?_
   refine at_take2 1 rfl (by kernel_rfl) (by kernel_rfl) (by kernel_rfl) (fun _ h => h.picks [0, 0] rfl) rfl rfl (p_fab fl68_0 rfl) (fun _ h => h.picks [0, 0] rfl) ?_
   refine at_take2 2 rfl (by kernel_rfl) (by kernel_rfl) (by kernel_rfl) (fun _ h => h.picks [0, 0] rfl) rfl rfl (p_lbs ty3 rfl (j := 0) rfl rfl) (fun _ h => h.picks [0, 0] rfl) ?_
   refine at_take2 7 rfl (by kernel_rfl) (by kernel_rfl) (by kernel_rfl) (fun _ h => h.picks [0, 0] rfl) rfl rfl (p_fab fl68_1 rfl) (fun _ h => h.picks [0, 0] rfl) ?_
   refine at_take2 8 rfl (by kernel_rfl) (by kernel_rfl) (by kernel_rfl) (fun _ h => h.picks [0, 0] rfl) rfl rfl (p_lbs ty3 rfl (j := 0) rfl rfl) (fun _ h => h.picks [0, 0] rfl) ?_
   refine at_each (rs := [0]) (by kernel_rfl) (by decide) ?_
   refine (.cons rfl (fun I cnI => ?_) .nil)
   ·refine r_call [] cf50 rfl rfl (ok_chord_rootWords  hy6) rfl rfl .nil (fun _ => rfl) rfl (fun s14 => ?_)
    refine lj_nil ?_
    refine cnI _ _ (sof1 rfl rfl (fun _ h => h.picks [1, 1] rfl)) ?_
    refine at_each (rs := [3, 6]) (by kernel_rfl) (by decide) ?_
    refine (.cons rfl (fun I cnI => ?_) (.cons rfl (fun I cnI => ?_) .nil))
    ·refine lp rfl (p_idx Tryz.underlying37 ty9 rfl rfl (.row 0 rfl) he8) ?_
     refine lj_nil ?_
     refine cnI _ _ (sof1 rfl rfl (fun _ h => h.picks [1, 1] rfl)) ?_
     refine at_each (rs := [4, 6]) (by kernel_rfl) (by decide) ?_
     refine (.cons rfl (fun I cnI => ?_) (.cons rfl (fun I cnI => ?_) .nil))
     ·refine lp rfl (p_lde (o := 0) ty9 rfl rfl (.row 0 rfl) (getI_spec he8).2 rfl) ?_
      refine lj_nil ?_
      refine cnI _ _ (sof1 rfl rfl (fun _ h => h.picks [1, 1] rfl)) ?_
      refine at_take2 5 rfl (by kernel_rfl) (by kernel_rfl) (by kernel_rfl) (fun _ h => h.picks [0, 0] rfl) rfl rfl (p_catM hc9 rfl rfl) (fun _ h => h.picks [1, 1] rfl) ?_
      refine at_each (rs := [6]) (by kernel_rfl) (by decide) ?_
      refine (.cons rfl (fun I cnI => ?_) .nil)
      ·refine r_call [] cf51 rfl rfl (ok_chord_kindWords  hy10) rfl rfl .nil (fun _ => rfl) rfl (fun s15 => ?_)
       refine lj_nil ?_
       refine cnI _ _ (sof1 rfl rfl (fun _ h => h.picks [2, 2] rfl)) ?_
       refine at_each (rs := [9]) (by kernel_rfl) (by decide) ?_
       refine (.cons rfl (fun I cnI => ?_) .nil)
       ·refine lp rfl (p_idx Tryz.underlying37 ty9 rfl rfl (.row 0 rfl) he12) ?_
        refine lj_nil ?_
        refine cnI _ _ (sof1 rfl rfl (fun _ h => h.picks [2, 2] rfl)) ?_
        refine at_each (rs := [10]) (by kernel_rfl) (by decide) ?_
        refine (.cons rfl (fun I cnI => ?_) .nil)
        ·refine lp rfl (p_lde (o := 0) ty9 rfl rfl (.row 0 rfl) (getI_spec he12).2 rfl) ?_
         refine lj_nil ?_
         refine cnI _ _ (sof1 rfl rfl (fun _ h => h.picks [2, 2] rfl)) ?_
         refine at_take2 11 rfl (by kernel_rfl) (by kernel_rfl) (by kernel_rfl) (fun _ h => h.picks [0, 0] rfl) rfl rfl (p_catM hc13 rfl rfl) (fun _ h => h.picks [2, 2] rfl) ?_
         refine at_take2 12 rfl (by kernel_rfl) (by kernel_rfl) (by kernel_rfl) (fun _ h => h.picks [0, 0] rfl) rfl rfl (p_as rfl) (fun _ h => h.picks [2, 2] rfl) ?_
         refine at_done (by kernel_rfl) ?_
         exact cnk5 _ _ c13 () (Option.some.inj hm).symm ⟨rfl, rfl, rfl, rfl, trivial⟩ (fun _ h => h.picks [2, 2] rfl)
     ·refine r_call [] cf51 rfl rfl (ok_chord_kindWords  hy10) rfl rfl .nil (fun _ => rfl) rfl (fun s16 => ?_)
      refine lj_nil ?_
      refine cnI _ _ (sof1 rfl rfl (fun _ h => h.picks [2, 2] rfl)) ?_
      refine at_each (rs := [4, 9]) (by kernel_rfl) (by decide) ?_
      refine (.cons rfl (fun I cnI => ?_) (.cons rfl (fun I cnI => ?_) .nil))
      ·refine lp rfl (p_lde (o := 0) ty9 rfl rfl (.row 1 rfl) (getI_spec he8).2 rfl) ?_
       refine lj_nil ?_
       refine cnI _ _ (sof1 rfl rfl (fun _ h => h.picks [2, 2] rfl)) ?_
       refine at_take2 5 rfl (by kernel_rfl) (by kernel_rfl) (by kernel_rfl) (fun _ h => h.picks [0, 0] rfl) rfl rfl (p_catM hc9 rfl rfl) (fun _ h => h.picks [2, 2] rfl) ?_
       refine at_each (rs := [9]) (by kernel_rfl) (by decide) ?_
       refine (.cons rfl (fun I cnI => ?_) .nil)
       ·refine lp rfl (p_idx Tryz.underlying37 ty9 rfl rfl (.row 0 rfl) he12) ?_
        refine lj_nil ?_
        refine cnI _ _ (sof1 rfl rfl (fun _ h => h.picks [2, 2] rfl)) ?_
        refine at_each (rs := [10]) (by kernel_rfl) (by decide) ?_
        refine (.cons rfl (fun I cnI => ?_) .nil)
        ·refine lp rfl (p_lde (o := 0) ty9 rfl rfl (.row 0 rfl) (getI_spec he12).2 rfl) ?_
         refine lj_nil ?_
         refine cnI _ _ (sof1 rfl rfl (fun _ h => h.picks [2, 2] rfl)) ?_
         refine at_take2 11 rfl (by kernel_rfl) (by kernel_rfl) (by kernel_rfl) (fun _ h => h.picks [0, 0] rfl) rfl rfl (p_catM hc13 rfl rfl) (fun _ h => h.picks [2, 2] rfl) ?_
         refine at_take2 12 rfl (by kernel_rfl) (by kernel_rfl) (by kernel_rfl) (fun _ h => h.picks [0, 0] rfl) rfl rfl (p_as rfl) (fun _ h => h.picks [2, 2] rfl) ?_
         refine at_done (by kernel_rfl) ?_
         exact cnk5 _ _ c13 () (Option.some.inj hm).symm ⟨rfl, rfl, rfl, rfl, trivial⟩ (fun _ h => h.picks [2, 2] rfl)
      ·refine lp rfl (p_idx Tryz.underlying37 ty9 rfl rfl (.row 0 rfl) he12) ?_
       refine lj_nil ?_
       refine cnI _ _ (sof1 rfl rfl (fun _ h => h.picks [2, 2] rfl)) ?_
       refine at_each (rs := [4, 10]) (by kernel_rfl) (by decide) ?_
       refine (.cons rfl (fun I cnI => ?_) (.cons rfl (fun I cnI => ?_) .nil))
       ·refine lp rfl (p_lde (o := 0) ty9 rfl rfl (.row 1 rfl) (getI_spec he8).2 rfl) ?_
        refine lj_nil ?_
        refine cnI _ _ (sof1 rfl rfl (fun _ h => h.picks [2, 2] rfl)) ?_
        refine at_take2 5 rfl (by kernel_rfl) (by kernel_rfl) (by kernel_rfl) (fun _ h => h.picks [0, 0] rfl) rfl rfl (p_catM hc9 rfl rfl) (fun _ h => h.picks [2, 2] rfl) ?_
        refine at_each (rs := [10]) (by kernel_rfl) (by decide) ?_
        refine (.cons rfl (fun I cnI => ?_) .nil)
        ·refine lp rfl (p_lde (o := 0) ty9 rfl rfl (.row 0 rfl) (getI_spec he12).2 rfl) ?_
         refine lj_nil ?_
         refine cnI _ _ (sof1 rfl rfl (fun _ h => h.picks [2, 2] rfl)) ?_
         refine at_take2 11 rfl (by kernel_rfl) (by kernel_rfl) (by kernel_rfl) (fun _ h => h.picks [0, 0] rfl) rfl rfl (p_catM hc13 rfl rfl) (fun _ h => h.picks [2, 2] rfl) ?_
         refine at_take2 12 rfl (by kernel_rfl) (by kernel_rfl) (by kernel_rfl) (fun _ h => h.picks [0, 0] rfl) rfl rfl (p_as rfl) (fun _ h => h.picks [2, 2] rfl) ?_
         refine at_done (by kernel_rfl) ?_
         exact cnk5 _ _ c13 () (Option.some.inj hm).symm ⟨rfl, rfl, rfl, rfl, trivial⟩ (fun _ h => h.picks [2, 2] rfl)
       ·refine lp rfl (p_lde (o := 0) ty9 rfl rfl (.row 0 rfl) (getI_spec he12).2 rfl) ?_
        refine lj_nil ?_
        refine cnI _ _ (sof1 rfl rfl (fun _ h => h.picks [2, 2] rfl)) ?_
        refine at_each (rs := [4]) (by kernel_rfl) (by decide) ?_
        refine (.cons rfl (fun I cnI => ?_) .nil)
        ·refine lp rfl (p_lde (o := 0) ty9 rfl rfl (.row 1 rfl) (getI_spec he8).2 rfl) ?_
         refine lj_nil ?_
         refine cnI _ _ (sof1 rfl rfl (fun _ h => h.picks [2, 2] rfl)) ?_
         refine at_take2 5 rfl (by kernel_rfl) (by kernel_rfl) (by kernel_rfl) (fun _ h => h.picks [0, 0] rfl) rfl rfl (p_catM hc9 rfl rfl) (fun _ h => h.picks [2, 2] rfl) ?_
         refine at_take2 11 rfl (by kernel_rfl) (by kernel_rfl) (by kernel_rfl) (fun _ h => h.picks [0, 0] rfl) rfl rfl (p_catM hc13 rfl rfl) (fun _ h => h.picks [2, 2] rfl) ?_
         refine at_take2 12 rfl (by kernel_rfl) (by kernel_rfl) (by kernel_rfl) (fun _ h => h.picks [0, 0] rfl) rfl rfl (p_as rfl) (fun _ h => h.picks [2, 2] rfl) ?_
         refine at_done (by kernel_rfl) ?_
         exact cnk5 _ _ c13 () (Option.some.inj hm).symm ⟨rfl, rfl, rfl, rfl, trivial⟩ (fun _ h => h.picks [2, 2] rfl)
    ·refine r_call [] cf51 rfl rfl (ok_chord_kindWords  hy10) rfl rfl .nil (fun _ => rfl) rfl (fun s17 => ?_)
     refine lj_nil ?_
     refine cnI _ _ (sof1 rfl rfl (fun _ h => h.picks [2, 2] rfl)) ?_
     refine at_each (rs := [3, 9]) (by kernel_rfl) (by decide) ?_
     refine (.cons rfl (fun I cnI => ?_) (.cons rfl (fun I cnI => ?_) .nil))
     ·refine lp rfl (p_idx Tryz.underlying37 ty9 rfl rfl (.row 1 rfl) he8) ?_
      refine lj_nil ?_
      refine cnI _ _ (sof1 rfl rfl (fun _ h => h.picks [2, 2] rfl)) ?_
      refine at_each (rs := [4, 9]) (by kernel_rfl) (by decide) ?_
      refine (.cons rfl (fun I cnI => ?_) (.cons rfl (fun I cnI => ?_) .nil))
      ·refine lp rfl (p_lde (o := 0) ty9 rfl rfl (.row 1 rfl) (getI_spec he8).2 rfl) ?_
       refine lj_nil ?_
       refine cnI _ _ (sof1 rfl rfl (fun _ h => h.picks [2, 2] rfl)) ?_
       refine at_take2 5 rfl (by kernel_rfl) (by kernel_rfl) (by kernel_rfl) (fun _ h => h.picks [0, 0] rfl) rfl rfl (p_catM hc9 rfl rfl) (fun _ h => h.picks [2, 2] rfl) ?_
       refine at_each (rs := [9]) (by kernel_rfl) (by decide) ?_
       refine (.cons rfl (fun I cnI => ?_) .nil)
       ·refine lp rfl (p_idx Tryz.underlying37 ty9 rfl rfl (.row 0 rfl) he12) ?_
        refine lj_nil ?_
        refine cnI _ _ (sof1 rfl rfl (fun _ h => h.picks [2, 2] rfl)) ?_
        refine at_each (rs := [10]) (by kernel_rfl) (by decide) ?_
        refine (.cons rfl (fun I cnI => ?_) .nil)
        ·refine lp rfl (p_lde (o := 0) ty9 rfl rfl (.row 0 rfl) (getI_spec he12).2 rfl) ?_
         refine lj_nil ?_
         refine cnI _ _ (sof1 rfl rfl (fun _ h => h.picks [2, 2] rfl)) ?_
         refine at_take2 11 rfl (by kernel_rfl) (by kernel_rfl) (by kernel_rfl) (fun _ h => h.picks [0, 0] rfl) rfl rfl (p_catM hc13 rfl rfl) (fun _ h => h.picks [2, 2] rfl) ?_
         refine at_take2 12 rfl (by kernel_rfl) (by kernel_rfl) (by kernel_rfl) (fun _ h => h.picks [0, 0] rfl) rfl rfl (p_as rfl) (fun _ h => h.picks [2, 2] rfl) ?_
         refine at_done (by kernel_rfl) ?_
         exact cnk5 _ _ c13 () (Option.some.inj hm).symm ⟨rfl, rfl, rfl, rfl, trivial⟩ (fun _ h => h.picks [2, 2] rfl)
      ·refine lp rfl (p_idx Tryz.underlying37 ty9 rfl rfl (.row 0 rfl) he12) ?_
       refine lj_nil ?_
       refine cnI _ _ (sof1 rfl rfl (fun _ h => h.picks [2, 2] rfl)) ?_
       refine at_each (rs := [4, 10]) (by kernel_rfl) (by decide) ?_
       refine (.cons rfl (fun I cnI => ?_) (.cons rfl (fun I cnI => ?_) .nil))
       ·refine lp rfl (p_lde (o := 0) ty9 rfl rfl (.row 1 rfl) (getI_spec he8).2 rfl) ?_
        refine lj_nil ?_
        refine cnI _ _ (sof1 rfl rfl (fun _ h => h.picks [2, 2] rfl)) ?_
        refine at_take2 5 rfl (by kernel_rfl) (by kernel_rfl) (by kernel_rfl) (fun _ h => h.picks [0, 0] rfl) rfl rfl (p_catM hc9 rfl rfl) (fun _ h => h.picks [2, 2] rfl) ?_
        refine at_each (rs := [10]) (by kernel_rfl) (by decide) ?_
        refine (.cons rfl (fun I cnI => ?_) .nil)
        ·refine lp rfl (p_lde (o := 0) ty9 rfl rfl (.row 0 rfl) (getI_spec he12).2 rfl) ?_
         refine lj_nil ?_
         refine cnI _ _ (sof1 rfl rfl (fun _ h => h.picks [2, 2] rfl)) ?_
         refine at_take2 11 rfl (by kernel_rfl) (by kernel_rfl) (by kernel_rfl) (fun _ h => h.picks [0, 0] rfl) rfl rfl (p_catM hc13 rfl rfl) (fun _ h => h.picks [2, 2] rfl) ?_
         refine at_take2 12 rfl (by kernel_rfl) (by kernel_rfl) (by kernel_rfl) (fun _ h => h.picks [0, 0] rfl) rfl rfl (p_as rfl) (fun _ h => h.picks [2, 2] rfl) ?_
         refine at_done (by kernel_rfl) ?_
         exact cnk5 _ _ c13 () (Option.some.inj hm).symm ⟨rfl, rfl, rfl, rfl, trivial⟩ (fun _ h => h.picks [2, 2] rfl)
       ·refine lp rfl (p_lde (o := 0) ty9 rfl rfl (.row 0 rfl) (getI_spec he12).2 rfl) ?_
        refine lj_nil ?_
        refine cnI _ _ (sof1 rfl rfl (fun _ h => h.picks [2, 2] rfl)) ?_
        refine at_each (rs := [4]) (by kernel_rfl) (by decide) ?_
        refine (.cons rfl (fun I cnI => ?_) .nil)
        ·refine lp rfl (p_lde (o := 0) ty9 rfl rfl (.row 1 rfl) (getI_spec he8).2 rfl) ?_
         refine lj_nil ?_
         refine cnI _ _ (sof1 rfl rfl (fun _ h => h.picks [2, 2] rfl)) ?_
         refine at_take2 5 rfl (by kernel_rfl) (by kernel_rfl) (by kernel_rfl) (fun _ h => h.picks [0, 0] rfl) rfl rfl (p_catM hc9 rfl rfl) (fun _ h => h.picks [2, 2] rfl) ?_
         refine at_take2 11 rfl (by kernel_rfl) (by kernel_rfl) (by kernel_rfl) (fun _ h => h.picks [0, 0] rfl) rfl rfl (p_catM hc13 rfl rfl) (fun _ h => h.picks [2, 2] rfl) ?_
         refine at_take2 12 rfl (by kernel_rfl) (by kernel_rfl) (by kernel_rfl) (fun _ h => h.picks [0, 0] rfl) rfl rfl (p_as rfl) (fun _ h => h.picks [2, 2] rfl) ?_
         refine at_done (by kernel_rfl) ?_
         exact cnk5 _ _ c13 () (Option.some.inj hm).symm ⟨rfl, rfl, rfl, rfl, trivial⟩ (fun _ h => h.picks [2, 2] rfl)
     ·refine lp rfl (p_idx Tryz.underlying37 ty9 rfl rfl (.row 0 rfl) he12) ?_
      refine lj_nil ?_
      refine cnI _ _ (sof1 rfl rfl (fun _ h => h.picks [2, 2] rfl)) ?_
      refine at_each (rs := [3, 10]) (by kernel_rfl) (by decide) ?_
      refine (.cons rfl (fun I cnI => ?_) (.cons rfl (fun I cnI => ?_) .nil))
      ·refine lp rfl (p_idx Tryz.underlying37 ty9 rfl rfl (.row 1 rfl) he8) ?_
       refine lj_nil ?_
       refine cnI _ _ (sof1 rfl rfl (fun _ h => h.picks [2, 2] rfl)) ?_
       refine at_each (rs := [4, 10]) (by kernel_rfl) (by decide) ?_
       refine (.cons rfl (fun I cnI => ?_) (.cons rfl (fun I cnI => ?_) .nil))
       ·refine lp rfl (p_lde (o := 0) ty9 rfl rfl (.row 1 rfl) (getI_spec he8).2 rfl) ?_
        refine lj_nil ?_
        refine cnI _ _ (sof1 rfl rfl (fun _ h => h.picks [2, 2] rfl)) ?_
        refine at_take2 5 rfl (by kernel_rfl) (by kernel_rfl) (by kernel_rfl) (fun _ h => h.picks [0, 0] rfl) rfl rfl (p_catM hc9 rfl rfl) (fun _ h => h.picks [2, 2] rfl) ?_
        refine at_each (rs := [10]) (by kernel_rfl) (by decide) ?_
        refine (.cons rfl (fun I cnI => ?_) .nil)
        ·refine lp rfl (p_lde (o := 0) ty9 rfl rfl (.row 0 rfl) (getI_spec he12).2 rfl) ?_
         refine lj_nil ?_
         refine cnI _ _ (sof1 rfl rfl (fun _ h => h.picks [2, 2] rfl)) ?_
         refine at_take2 11 rfl (by kernel_rfl) (by kernel_rfl) (by kernel_rfl) (fun _ h => h.picks [0, 0] rfl) rfl rfl (p_catM hc13 rfl rfl) (fun _ h => h.picks [2, 2] rfl) ?_
         refine at_take2 12 rfl (by kernel_rfl) (by kernel_rfl) (by kernel_rfl) (fun _ h => h.picks [0, 0] rfl) rfl rfl (p_as rfl) (fun _ h => h.picks [2, 2] rfl) ?_
         refine at_done (by kernel_rfl) ?_
         exact cnk5 _ _ c13 () (Option.some.inj hm).symm ⟨rfl, rfl, rfl, rfl, trivial⟩ (fun _ h => h.picks [2, 2] rfl)
       ·refine lp rfl (p_lde (o := 0) ty9 rfl rfl (.row 0 rfl) (getI_spec he12).2 rfl) ?_
        refine lj_nil ?_
        refine cnI _ _ (sof1 rfl rfl (fun _ h => h.picks [2, 2] rfl)) ?_
        refine at_each (rs := [4]) (by kernel_rfl) (by decide) ?_
        refine (.cons rfl (fun I cnI => ?_) .nil)
        ·refine lp rfl (p_lde (o := 0) ty9 rfl rfl (.row 1 rfl) (getI_spec he8).2 rfl) ?_
         refine lj_nil ?_
         refine cnI _ _ (sof1 rfl rfl (fun _ h => h.picks [2, 2] rfl)) ?_
         refine at_take2 5 rfl (by kernel_rfl) (by kernel_rfl) (by kernel_rfl) (fun _ h => h.picks [0, 0] rfl) rfl rfl (p_catM hc9 rfl rfl) (fun _ h => h.picks [2, 2] rfl) ?_
         refine at_take2 11 rfl (by kernel_rfl) (by kernel_rfl) (by kernel_rfl) (fun _ h => h.picks [0, 0] rfl) rfl rfl (p_catM hc13 rfl rfl) (fun _ h => h.picks [2, 2] rfl) ?_
         refine at_take2 12 rfl (by kernel_rfl) (by kernel_rfl) (by kernel_rfl) (fun _ h => h.picks [0, 0] rfl) rfl rfl (p_as rfl) (fun _ h => h.picks [2, 2] rfl) ?_
         refine at_done (by kernel_rfl) ?_
         exact cnk5 _ _ c13 () (Option.some.inj hm).symm ⟨rfl, rfl, rfl, rfl, trivial⟩ (fun _ h => h.picks [2, 2] rfl)
      ·refine lp rfl (p_lde (o := 0) ty9 rfl rfl (.row 0 rfl) (getI_spec he12).2 rfl) ?_
       refine lj_nil ?_
       refine cnI _ _ (sof1 rfl rfl (fun _ h => h.picks [2, 2] rfl)) ?_
       refine at_each (rs := [3]) (by kernel_rfl) (by decide) ?_
       refine (.cons rfl (fun I cnI => ?_) .nil)
       ·refine lp rfl (p_idx Tryz.underlying37 ty9 rfl rfl (.row 1 rfl) he8) ?_
        refine lj_nil ?_
        refine cnI _ _ (sof1 rfl rfl (fun _ h => h.picks [2, 2] rfl)) ?_
        refine at_each (rs := [4]) (by kernel_rfl) (by decide) ?_
        refine (.cons rfl (fun I cnI => ?_) .nil)
        ·refine lp rfl (p_lde (o := 0) ty9 rfl rfl (.row 1 rfl) (getI_spec he8).2 rfl) ?_
         refine lj_nil ?_
         refine cnI _ _ (sof1 rfl rfl (fun _ h => h.picks [2, 2] rfl)) ?_
         refine at_take2 5 rfl (by kernel_rfl) (by kernel_rfl) (by kernel_rfl) (fun _ h => h.picks [0, 0] rfl) rfl rfl (p_catM hc9 rfl rfl) (fun _ h => h.picks [2, 2] rfl) ?_
         refine at_take2 11 rfl (by kernel_rfl) (by kernel_rfl) (by kernel_rfl) (fun _ h => h.picks [0, 0] rfl) rfl rfl (p_catM hc13 rfl rfl) (fun _ h => h.picks [2, 2] rfl) ?_
         refine at_take2 12 rfl (by kernel_rfl) (by kernel_rfl) (by kernel_rfl) (fun _ h => h.picks [0, 0] rfl) rfl rfl (p_as rfl) (fun _ h => h.picks [2, 2] rfl) ?_
         refine at_done (by kernel_rfl) ?_
         exact cnk5 _ _ c13 () (Option.some.inj hm).symm ⟨rfl, rfl, rfl, rfl, trivial⟩ (fun _ h => h.picks [2, 2] rfl)
theorem ok_rehearse_flagNumber (a0 : Bool) {r : Int} (hm : m_rehearse_flagNumber a0 = some r) :
  Ctr Tryz.prog 106 [.bool a0].toArray ([] : List Ent) [] (X := Unit) (fun _ => .int .i64 r) (fun _ => []) := by
 unfold m_rehearse_flagNumber at hm
 refine ctr_mk (vs := [(0, .bool a0)]) Tryz.func106 rfl Tryz.ntmps106 rfl ⟨rfl, trivial⟩ (fun w0 A => ?_)
 refine cj_seq ?_
 refine cj_reg ?_
 refine lp rfl (p_as rfl) ?_
 refine lj_seq ?_
 refine cj_seq ?_
 refine cj_seq ?_
 refine cj_reg ?_
 refine lp rfl (p_mv rfl) ?_
 refine lj_seq ?_
 refine cj_if (b := a0) rfl (fun hb => ?_) (fun hb => ?_)
 ·have hm := ifB_t hb hm
  refine cj_seq ?_
  refine cj_reg ?_
  refine lp rfl (p_as rfl) ?_
  refine lj_seq ?_
  obtain rfl := Option.some.inj hm
  exact cj_rt () [] Tryz.results106 (.tmp rfl .nil) rfl rfl
 ·have hm := ifB_f hb hm
  refine cj_skip ?_
  refine nj_seq ?_
  refine cj_seq ?_
  refine cj_reg ?_
  refine lp rfl (p_as rfl) ?_
  refine lj_seq ?_
  obtain rfl := Option.some.inj hm
  exact cj_rt () [] Tryz.results106 (.tmp rfl .nil) rfl rfl
theorem ok_rehearse_compareCame (a0 : TCame) (a1 : TCame) {r : Int} (hm : m_rehearse_compareCame a0 a1 = some r) :
  Ctr Tryz.prog 85 [.agg (R71.enc a0).toArray, .agg (R71.enc a1).toArray].toArray ([] : List Ent) [] (X := Unit) (fun _ => .int .i64 r) (fun _ => []) := by
 unfold m_rehearse_compareCame at hm
 refine ctr_mk (vs := [(0, .agg (R71.enc a0).toArray), (1, .agg (R71.enc a1).toArray)]) Tryz.func85 rfl Tryz.ntmps85 rfl ⟨rfl, rfl, trivial⟩ (fun w0 A => ?_)
 refine cj_seq ?_
 refine cj_reg ?_
 refine r_bx (cs := [.int .i64 a0.At, .string a0.Singer, .bool a0.Left]) rfl rfl rfl (fun b1 => ?_)
 refine r_bx (cs := [.int .i64 a1.At, .string a1.Singer, .bool a1.Left]) rfl rfl rfl (fun b2 => ?_)
 refine lp rfl (p_as rfl) ?_
 refine lj_seq ?_
 refine cj_seq ?_
 obtain ⟨y3, hy3, hm⟩ := bindS hm
 obtain ⟨y4, hy4, hm⟩ := bindS hm
 obtain ⟨y5, hy5, hm⟩ := bindS hm
 obtain ⟨y6, hy6, hm⟩ := bindS hm
 obtain ⟨y7, hy7, hm⟩ := bindS hm
 obtain ⟨y9, hy9, hm⟩ := bindS hm
 refine cj_anyT [0, 1, 2, 3, 5, 6, 7, 8, 10, 11, 13, 14, 19] [] (Sat w0 (keys ([] : List Ent)) A [.box b2 71 [.int .i64 a1.At, .string a1.Singer, .bool a1.Left], .box b1 71 [.int .i64 a0.At, .string a0.Singer, .bool a0.Left]]) (Sat w0 (keys ([] : List Ent)) A [.box b2 71 [.int .i64 a1.At, .string a1.Singer, .bool a1.Left], .box b1 71 [.int .i64 a0.At, .string a0.Singer, .bool a0.Left]]) (by kernel_rfl) ?_
 refine at_take2 0 rfl (by kernel_rfl) (by kernel_rfl) (by kernel_rfl) (fun _ h => h.picks [0, 0] rfl) rfl rfl (p_fab fl71_0 rfl) (fun _ h => h.picks [0, 0] rfl) ?_
 refine at_take2 1 rfl (by kernel_rfl) (by kernel_rfl) (by kernel_rfl) (fun _ h => h.picks [0, 0] rfl) rfl rfl (p_lbs ty3 rfl (j := 1) rfl rfl) (fun _ h => h.picks [0, 0] rfl) ?_
 refine at_take2 2 rfl (by kernel_rfl) (by kernel_rfl) (by kernel_rfl) (fun _ h => h.picks [0, 0] rfl) rfl rfl (p_fab fl71_0 rfl) (fun _ h => h.picks [0, 0] rfl) ?_
 refine at_take2 3 rfl (by kernel_rfl) (by kernel_rfl) (by kernel_rfl) (fun _ h => h.picks [0, 0] rfl) rfl rfl (p_lbs ty3 rfl (j := 0) rfl rfl) (fun _ h => h.picks [0, 0] rfl) ?_
 refine at_take2 5 rfl (by kernel_rfl) (by kernel_rfl) (by kernel_rfl) (fun _ h => h.picks [0, 0] rfl) rfl rfl (p_fab fl71_1 rfl) (fun _ h => h.picks [0, 0] rfl) ?_
 refine at_take2 6 rfl (by kernel_rfl) (by kernel_rfl) (by kernel_rfl) (fun _ h => h.picks [0, 0] rfl) rfl rfl (p_lbs ty9 rfl (j := 1) rfl rfl) (fun _ h => h.picks [0, 0] rfl) ?_
 refine at_take2 7 rfl (by kernel_rfl) (by kernel_rfl) (by kernel_rfl) (fun _ h => h.picks [0, 0] rfl) rfl rfl (p_fab fl71_1 rfl) (fun _ h => h.picks [0, 0] rfl) ?_
 refine at_take2 8 rfl (by kernel_rfl) (by kernel_rfl) (by kernel_rfl) (fun _ h => h.picks [0, 0] rfl) rfl rfl (p_lbs ty9 rfl (j := 0) rfl rfl) (fun _ h => h.picks [0, 0] rfl) ?_
 refine at_take2 10 rfl (by kernel_rfl) (by kernel_rfl) (by kernel_rfl) (fun _ h => h.picks [0, 0] rfl) rfl rfl (p_fab fl71_2 rfl) (fun _ h => h.picks [0, 0] rfl) ?_
 refine at_take2 11 rfl (by kernel_rfl) (by kernel_rfl) (by kernel_rfl) (fun _ h => h.picks [0, 0] rfl) rfl rfl (p_lbs ty4 rfl (j := 1) rfl rfl) (fun _ h => h.picks [0, 0] rfl) ?_
 refine at_take2 13 rfl (by kernel_rfl) (by kernel_rfl) (by kernel_rfl) (fun _ h => h.picks [0, 0] rfl) rfl rfl (p_fab fl71_2 rfl) (fun _ h => h.picks [0, 0] rfl) ?_
 refine at_take2 14 rfl (by kernel_rfl) (by kernel_rfl) (by kernel_rfl) (fun _ h => h.picks [0, 0] rfl) rfl rfl (p_lbs ty4 rfl (j := 0) rfl rfl) (fun _ h => h.picks [0, 0] rfl) ?_
 refine at_each (rs := [4]) (by kernel_rfl) (by decide) ?_
 refine (.cons rfl (fun I cnI => ?_) .nil)
 ·refine r_call [] cf101 rfl rfl (ok_cmp_Compare_int a0.At a1.At hy3) rfl rfl .nil (fun _ => rfl) rfl (fun _ => ?_)
  refine lj_nil ?_
  refine cnI _ _ (sof1 rfl rfl (fun _ h => h.picks [0, 0] rfl)) ?_
  refine at_each (rs := [9]) (by kernel_rfl) (by decide) ?_
  refine (.cons rfl (fun I cnI => ?_) .nil)
  ·refine r_call [] cf63 rfl rfl (ok_strings_Compare a0.Singer a1.Singer hy4) rfl rfl .nil (fun _ => rfl) rfl (fun _ => ?_)
   refine lj_nil ?_
   refine cnI _ _ (sof1 rfl rfl (fun _ h => h.picks [0, 0] rfl)) ?_
   refine at_each (rs := [12]) (by kernel_rfl) (by decide) ?_
   refine (.cons rfl (fun I cnI => ?_) .nil)
   ·refine r_call [] cf106 rfl rfl (ok_rehearse_flagNumber a0.Left hy5) rfl rfl .nil (fun _ => rfl) rfl (fun _ => ?_)
    refine lj_nil ?_
    refine cnI _ _ (sof1 rfl rfl (fun _ h => h.picks [0, 0] rfl)) ?_
    refine at_each (rs := [15]) (by kernel_rfl) (by decide) ?_
    refine (.cons rfl (fun I cnI => ?_) .nil)
    ·refine r_call [] cf106 rfl rfl (ok_rehearse_flagNumber a1.Left hy6) rfl rfl .nil (fun _ => rfl) rfl (fun _ => ?_)
     refine lj_nil ?_
     refine cnI _ _ (sof1 rfl rfl (fun _ h => h.picks [0, 0] rfl)) ?_
     refine at_each (rs := [16]) (by kernel_rfl) (by decide) ?_
     refine (.cons rfl (fun I cnI => ?_) .nil)
     ·refine r_call [] cf101 rfl rfl (ok_cmp_Compare_int y5 y6 hy7) rfl rfl .nil (fun _ => rfl) rfl (fun _ => ?_)
      refine lj_nil ?_
      refine cnI _ _ (sof1 rfl rfl (fun _ h => h.picks [0, 0] rfl)) ?_
      refine at_each (rs := [17]) (by kernel_rfl) (by decide) ?_
      refine (.cons rfl (fun I cnI => ?_) .nil)
      ·refine r_bs R3 [y3, y4, y7] rfl rfl rfl (fun _ => by kernel_rfl) rfl (fun s10 => ?_)
       refine lj_nil ?_
       refine cnI _ _ (sof1 rfl rfl (fun _ h => h.picks [1, 1] rfl)) ?_
       refine at_each (rs := [18]) (by kernel_rfl) (by decide) ?_
       refine (.cons rfl (fun I cnI => ?_) .nil)
       ·refine r_call [] cf100 rfl rfl (ok_cmp_Or_int s10 [y3, y4, y7] hy9) rfl rfl (.cons (.row 0 rfl) .nil) (fun _ => rfl) rfl (fun _ => ?_)
        refine lj_nil ?_
        refine cnI _ _ (sof1 rfl rfl (fun _ h => h.picks [1, 1] rfl)) ?_
        refine at_take2 19 rfl (by kernel_rfl) (by kernel_rfl) (by kernel_rfl) (fun _ h => h.picks [0, 0] rfl) rfl rfl (p_as rfl) (fun _ h => h.picks [1, 1] rfl) ?_
        refine at_done (by kernel_rfl) ?_
        refine nj_seq ?_
        obtain rfl := Option.some.inj hm
        exact cj_rt () [] Tryz.results85 (.tmp rfl .nil) rfl rfl
theorem ok_rehearse_CheckCame (s0_ : SV) (a0 : (List TCame)) {r : Int} (hm : m_rehearse_CheckCame a0 = some r) :
  Ctr Tryz.prog 53 [s0_.v].toArray ([] : List Ent) [RdS R71 (SV.v s0_) a0] (X := Unit) (fun _ => .int .i64 r) (fun _ => []) := by
 unfold m_rehearse_CheckCame at hm
 refine ctr_mk (vs := [(0, s0_.v)]) Tryz.func53 rfl Tryz.ntmps53 rfl ⟨rfl, trivial⟩ (fun w0 A => ?_)
 refine cj_seq ?_
 refine cj_reg ?_
 refine lp rfl (p_as rfl) ?_
 refine lj_seq ?_
 refine cj_seq ?_
 refine cj_seq ?_
 refine cj_reg ?_
 refine lp rfl (p_mv rfl) ?_
 refine lp rfl (p_len Tryz.underlying72 rfl (.ro 0 rfl)) ?_
 refine lp rfl (p_gtr rfl rfl) ?_
 refine lj_seq ?_
 refine cj_if (b := decide ((a0.length : Int) > 5000)) rfl (fun hb => ?_) (fun hb => ?_)
 ·have hm := ifB_t hb hm
  refine cj_seq ?_
  refine cj_reg ?_
  refine lp rfl (p_as rfl) ?_
  refine lj_seq ?_
  obtain rfl := Option.some.inj hm
  exact cj_rt () [] Tryz.results53 (.tmp rfl .nil) rfl rfl
 ·have hm := ifB_f hb hm
  refine cj_skip ?_
  refine nj_seq ?_
  refine cj_seq ?_
  refine cj_seq ?_
  refine cj_reg ?_
  refine lp rfl (p_mv rfl) ?_
  refine lp rfl (p_len Tryz.underlying72 rfl (.ro 0 rfl)) ?_
  refine lp rfl (p_mv rfl) ?_
  refine lj_seq ?_
  obtain ⟨f7, hf7, hm⟩ := bindS hm
  refine cj_range (γ := Unit) (m := (a0.length : Int)) hf7 () (fun u4 g5 => [(0, s0_.v), (2, .int .i64 0), (8, s0_.v)]) (fun u4 g5 => Sat w0 (keys ([] : List Ent)) A [.ro (RdS R71 (SV.v s0_) a0)]) ⟨rfl, rfl, rfl, rfl, rfl, trivial⟩ (fun _ h => h.picks [0] rfl) (nat_lt _) (fun _ h => (FactAt.get (F := RdS R71 (SV.v s0_) a0) (.ro 0 rfl) h).1) (fun _ _ => ⟨rfl, rfl, rfl, rfl⟩) ⟨rfl, rfl, rfl, rfl, rfl⟩ rfl rfl rfl (fun u4 g5 e => ?_) (fun aftk6 i1 x2 u4 g5 k6 hx3 hs J hJk6 hBk6 hX I cnk6 => ?_)
  ·have hm := Flow.fin_b e hm
   refine nj_seq ?_
   refine cj_seq ?_
   refine cj_reg ?_
   refine lp rfl (p_as rfl) ?_
   refine lj_seq ?_
   obtain rfl := Option.some.inj hm
   exact cj_rt () [] Tryz.results53 (.tmp rfl .nil) rfl rfl
  ·have hRk6 : ∀ t, k6 = .ret t → some t = some r := fun t e => by rw [hX t e] at hm; exact hm
   have hm := hs
   refine cj_seq ?_
   refine cj_reg ?_
   refine lp rfl (p_mv rfl) ?_
   refine lp rfl (p_idx Tryz.underlying72 ty71 rfl rfl (.ro 0 rfl) (getI_nat.trans hx3)) ?_
   refine lp rfl (p_lea ty71 rfl (.ro 0 rfl) hx3) ?_
   refine r_al ty71 rfl (fun b8 => ?_)
   refine lp rfl (p_as rfl) ?_
   refine r_sb (vs := [.int .i64 x2.At, .string x2.Singer, .bool x2.Left]) (j := 0) ty71 rfl rfl rfl rfl rfl rfl rfl ?_
   refine lj_seq ?_
   refine cj_blk ?_
   refine cj_seq ?_
   refine cj_reg ?_
   refine lp rfl (p_fab fl71_0 rfl) ?_
   refine lp rfl (p_lbs ty3 rfl (j := 0) rfl rfl) ?_
   obtain ⟨y9, hy9, hm⟩ := bindS hm
   refine r_call [] cf44 rfl rfl (ok_kit_IsMoment x2.At hy9) rfl rfl .nil (fun _ => rfl) rfl (fun _ => ?_)
   refine lp rfl (p_not rfl) ?_
   refine lp rfl (p_as rfl) ?_
   refine lj_seq ?_
   refine cj_if (b := !y9) rfl (fun hb => ?_) (fun hb => ?_)
   ·have hm := ifB_t hb hm
    refine cj_seq ?_
    refine cj_reg ?_
    refine lp rfl (p_as rfl) ?_
    refine lj_seq ?_
    have hm := hRk6 _ (Option.some.inj hm).symm
    obtain rfl := Option.some.inj hm
    exact cj_rt () [] Tryz.results53 (.tmp rfl .nil) rfl rfl
   ·have hm := ifB_f hb hm
    refine cj_seq ?_
    refine cj_reg ?_
    refine lp rfl (p_fab fl71_1 rfl) ?_
    refine lp rfl (p_lbs ty9 rfl (j := 0) rfl rfl) ?_
    obtain ⟨y10, hy10, hm⟩ := bindS hm
    refine r_call [] cf84 rfl rfl (ok_kit_IsKey x2.Singer hy10) rfl rfl .nil (fun _ => rfl) rfl (fun _ => ?_)
    refine lp rfl (p_not rfl) ?_
    refine lp rfl (p_as rfl) ?_
    refine lj_seq ?_
    refine cj_if (b := !y10) rfl (fun hb => ?_) (fun hb => ?_)
    ·have hm := ifB_t hb hm
     refine cj_seq ?_
     refine cj_reg ?_
     refine lp rfl (p_as rfl) ?_
     refine lj_seq ?_
     have hm := hRk6 _ (Option.some.inj hm).symm
     obtain rfl := Option.some.inj hm
     exact cj_rt () [] Tryz.results53 (.tmp rfl .nil) rfl rfl
    ·have hm := ifB_f hb hm
     refine cj_seq ?_
     refine cj_quiet (by kernel_rfl) (by kernel_rfl) ?_
     refine q_p rfl (p_mv rfl) ?_
     refine q_p rfl (p_gtr rfl rfl) ?_
     refine q_p rfl (p_mv rfl) ?_
     refine q_case (i := 28) (decide ((i1 : Int) > 0)) rfl (fun hb => ?_) (fun hb => ?_)
     ·have hm := ifB_t hb hm
      refine q_g true rfl rfl rfl ?_
      refine q_p rfl (p_mv rfl) ?_
      refine q_g true rfl rfl rfl ?_
      refine q_p rfl (p_mv rfl) ?_
      refine q_g true rfl rfl rfl ?_
      refine q_p rfl (p_sub rfl rfl) ?_
      refine q_g true rfl rfl rfl ?_
      obtain ⟨e11, he11, hm⟩ := bindS hm
      refine q_p rfl (p_idx Tryz.underlying72 ty71 rfl rfl (.ro 1 rfl) he11) ?_
      refine q_g true rfl rfl rfl ?_
      refine q_p rfl (p_lea ty71 rfl (.ro 1 rfl) (getI_spec he11).2) ?_
      refine q_g true rfl rfl rfl ?_
      refine q_p rfl (p_lbw ty71 rfl (j := 0) rfl rfl) ?_
      refine q_g true rfl rfl rfl ?_
      obtain ⟨y12, hy12, hm⟩ := bindS hm
      refine q_call (.int .i64 y12) cf85 rfl rfl (ok_rehearse_compareCame e11 x2 hy12) .nil (fun _ => rfl) (fun _ => rfl) rfl ?_
      refine q_g true rfl rfl rfl ?_
      refine q_p rfl (p_geq rfl rfl) ?_
      refine q_p rfl (p_pkt rfl rfl) ?_
      refine q_p rfl (p_as rfl) ?_
      refine q_nil ?_
      refine nj_seq ?_
      refine cj_if (b := decide (y12 ≥ 0)) rfl (fun hb => ?_) (fun hb => ?_)
      ·have hm := ifB_t hb hm
       refine cj_seq ?_
       refine cj_reg ?_
       refine lp rfl (p_as rfl) ?_
       refine lj_seq ?_
       have hm := hRk6 _ (Option.some.inj hm).symm
       obtain rfl := Option.some.inj hm
       exact cj_rt () [] Tryz.results53 (.tmp rfl .nil) rfl rfl
      ·have hm := ifB_f hb hm
       refine cj_skip ?_
       refine nj_blk ?_
       refine nj_blk ?_
       exact cnk6 _ _ () () (hJk6 _ (Option.some.inj hm).symm) ⟨rfl, rfl, rfl, rfl, rfl, trivial⟩ (fun _ h => h.picks [1] rfl)
     ·have hm := ifB_f hb hm
      refine q_s true rfl rfl rfl rfl ?_
      refine q_s true rfl rfl rfl rfl ?_
      refine q_s true rfl rfl rfl rfl ?_
      refine q_s true rfl rfl rfl rfl ?_
      refine q_s true rfl rfl rfl rfl ?_
      refine q_s true rfl rfl rfl rfl ?_
      refine q_s true rfl rfl rfl rfl ?_
      refine q_s true rfl rfl rfl rfl ?_
      refine q_p rfl (p_pkf rfl rfl) ?_
      refine q_p rfl (p_as rfl) ?_
      refine q_nil ?_
      refine nj_seq ?_
      refine cj_if_f rfl ?_
      refine cj_skip ?_
      refine nj_blk ?_
      refine nj_blk ?_
      exact cnk6 _ _ () () (hJk6 _ (Option.some.inj hm).symm) ⟨rfl, rfl, rfl, rfl, rfl, trivial⟩ (fun _ h => h.picks [1] rfl)
theorem ok_rehearse_joined (s0_ : SV) (a0 : (List TWindow)) {r : (List TWindow)} (hm : m_rehearse_joined a0 = some r) :
  Ctr Tryz.prog 86 [s0_.v].toArray ([] : List Ent) [RdS R113 (SV.v s0_) a0] (X := SV) (fun s => s.v) (fun s => [.row R113 (SV.v s) r]) := by
 unfold m_rehearse_joined at hm
 refine ctr_mk (vs := [(0, s0_.v)]) Tryz.func86 rfl Tryz.ntmps86 rfl ⟨rfl, trivial⟩ (fun w0 A => ?_)
 refine cj_seq ?_
 refine cj_reg ?_
 refine lp rfl (p_as rfl) ?_
 refine lj_seq ?_
 refine cj_seq ?_
 refine cj_reg ?_
 refine lp rfl (p_as rfl) ?_
 refine lj_seq ?_
 refine cj_seq ?_
 refine cj_seq ?_
 refine cj_reg ?_
 refine lp rfl (p_mv rfl) ?_
 refine lp rfl (p_len Tryz.underlying110 rfl (.ro 0 rfl)) ?_
 refine lp rfl (p_mv rfl) ?_
 refine lj_seq ?_
 refine cj_nil R113 ?_
 obtain ⟨f8, hf8, hm⟩ := bindS hm
 refine cj_range (γ := SV) (m := (a0.length : Int)) hf8 nilS (fun u5 g6 => [(2, .slice none 0 0), (3, g6.v), (7, s0_.v)]) (fun u5 g6 => Sat w0 (keys ([] : List Ent)) A [.ro (RdS R113 (SV.v s0_) a0), .row R113 (SV.v g6) u5]) ⟨rfl, rfl, rfl, rfl, rfl, trivial⟩ (fun _ h => h.picks [1, 0] rfl) (nat_lt _) (fun _ h => (FactAt.get (F := RdS R113 (SV.v s0_) a0) (.ro 1 rfl) h).1) (fun _ _ => ⟨rfl, rfl, rfl, rfl⟩) ⟨rfl, rfl, rfl, rfl, rfl⟩ rfl rfl rfl (fun u5 g6 e => ?_) (fun aftk7 i1 x2 u5 g6 k7 hx3 hs J hJk7 hBk7 hX I cnk7 => ?_)
 ·have hm := Flow.fin_b e hm
  refine nj_seq ?_
  refine cj_seq ?_
  refine cj_reg ?_
  refine lp rfl (p_mv rfl) ?_
  refine lp rfl (p_as rfl) ?_
  refine lj_seq ?_
  obtain rfl := Option.some.inj hm
  exact cj_rt g6 [1] Tryz.results86 (.tmp rfl .nil) rfl rfl
 ·have hRk7 : ∀ t, k7 = .ret t → some t = some r := fun t e => by rw [hX t e] at hm; exact hm
  have hm := hs
  refine cj_seq ?_
  refine cj_reg ?_
  refine lp rfl (p_idx Tryz.underlying110 ty113 rfl rfl (.ro 0 rfl) (getI_nat.trans hx3)) ?_
  refine lp rfl (p_lea ty113 rfl (.ro 0 rfl) hx3) ?_
  refine r_al ty113 rfl (fun b10 => ?_)
  refine r_sb (vs := [.int .i64 x2.From, .int .i64 x2.To]) (j := 0) ty113 rfl rfl rfl rfl rfl rfl rfl ?_
  refine lj_seq ?_
  refine cj_seq ?_
  refine cj_reg ?_
  refine lp rfl (p_mv rfl) ?_
  refine lp rfl (p_len Tryz.underlying110 rfl (.row 2 rfl)) ?_
  refine lp rfl (p_sub rfl rfl) ?_
  refine lp rfl (p_as rfl) ?_
  refine lj_seq ?_
  refine cj_seq ?_
  refine cj_quiet (by kernel_rfl) (by kernel_rfl) ?_
  refine q_p rfl (p_mv rfl) ?_
  refine q_p rfl (p_geq rfl rfl) ?_
  refine q_p rfl (p_mv rfl) ?_
  refine q_case (i := 18) (decide ((w64 ((u5.length : Int) - 1)) ≥ 0)) rfl (fun hb => ?_) (fun hb => ?_)
  ·have hm := ifB_t hb hm
   refine q_g true rfl rfl rfl ?_
   refine q_p rfl (p_fab fl113_0 rfl) ?_
   refine q_g true rfl rfl rfl ?_
   refine q_p rfl (p_lbs ty3 rfl (j := 0) rfl rfl) ?_
   refine q_g true rfl rfl rfl ?_
   refine q_p rfl (p_mv rfl) ?_
   refine q_g true rfl rfl rfl ?_
   refine q_p rfl (p_mv rfl) ?_
   refine q_g true rfl rfl rfl ?_
   obtain ⟨e11, he11, hm⟩ := bindS hm
   refine q_p rfl (p_idx Tryz.underlying110 ty113 rfl rfl (.row 2 rfl) he11) ?_
   refine q_g true rfl rfl rfl ?_
   refine q_p rfl (p_fae fl113_1 rfl (.row 2 rfl) (getI_spec he11).2) ?_
   refine q_g true rfl rfl rfl ?_
   refine q_p rfl (p_lde (o := 1) ty3 rfl rfl (.row 2 rfl) (getI_spec he11).2 rfl) ?_
   refine q_g true rfl rfl rfl ?_
   refine q_p rfl (p_leq rfl rfl) ?_
   refine q_p rfl (p_pkt rfl rfl) ?_
   refine q_nil ?_
   refine nj_seq ?_
   refine cj_if (b := decide (x2.From ≤ e11.To)) rfl (fun hb => ?_) (fun hb => ?_)
   ·have hm := ifB_t hb hm
    refine cj_tail 12 (by kernel_rfl) (by kernel_rfl) ?_
    refine s_p rfl (p_mv rfl) ?_
    refine s_p rfl (p_mv rfl) ?_
    refine s_p rfl (p_mv rfl) ?_
    refine s_p rfl (p_mv rfl) ?_
    obtain ⟨e12, he12, hm⟩ := bindS hm
    refine s_p rfl (p_idx Tryz.underlying110 ty113 rfl rfl (.row 2 rfl) he12) ?_
    refine s_p rfl (p_fae fl113_1 rfl (.row 2 rfl) (getI_spec he12).2) ?_
    refine s_p rfl (p_lde (o := 1) ty3 rfl rfl (.row 2 rfl) (getI_spec he12).2 rfl) ?_
    refine s_p rfl (p_fab fl113_1 rfl) ?_
    refine s_p rfl (p_lbs ty3 rfl (j := 0) rfl rfl) ?_
    refine s_p rfl (p_max rfl rfl) ?_
    obtain ⟨e13, he13, hm⟩ := bindS hm
    refine s_p rfl (p_idx Tryz.underlying110 ty113 rfl rfl (.row 2 rfl) he13) ?_
    refine s_p rfl (p_fae fl113_1 rfl (.row 2 rfl) (getI_spec he13).2) ?_
    refine s_nil ?_
    refine r_ste (k := 2) (o := 1) (vs := [.int .i64 (max e12.To x2.To)]) ty3 rfl rfl rfl rfl rfl rfl rfl (getI_spec he13).2 (TWindow.mk e13.From (max e12.To x2.To)) rfl rfl ?_
    refine lj_nil ?_
    refine nj_blk ?_
    exact cnk7 _ _ (u5.set ((w64 ((u5.length : Int) - 1)).toNat) (TWindow.mk e13.From (max e12.To x2.To))) g6 (hJk7 _ (Option.some.inj hm).symm) ⟨rfl, rfl, rfl, rfl, rfl, trivial⟩ (fun _ h => h.picks [1, 1] rfl)
   ·have hm := ifB_f hb hm
    refine cj_reg ?_
    refine lp rfl (p_mv rfl) ?_
    refine lp rfl (p_lbw ty113 rfl (j := 0) rfl rfl) ?_
    refine r_bs R113 [x2] rfl rfl rfl (fun _ => by kernel_rfl) rfl (fun s14 => ?_)
    obtain ⟨q15, hq15, hm⟩ := bindS hm
    refine r_app (k := 3) Tryz.underlying110 ty113 rfl rfl rfl rfl (.row 0 rfl) hq15 rfl (fun s16 => ?_)
    refine lp rfl (p_as rfl) ?_
    refine lj_nil ?_
    refine nj_blk ?_
    exact cnk7 _ _ q15 s16 (hJk7 _ (Option.some.inj hm).symm) ⟨rfl, rfl, rfl, rfl, rfl, trivial⟩ (fun _ h => h.picks [2, 2] rfl)
  ·have hm := ifB_f hb hm
   refine q_s true rfl rfl rfl rfl ?_
   refine q_s true rfl rfl rfl rfl ?_
   refine q_s true rfl rfl rfl rfl ?_
   refine q_s true rfl rfl rfl rfl ?_
   refine q_s true rfl rfl rfl rfl ?_
   refine q_s true rfl rfl rfl rfl ?_
   refine q_s true rfl rfl rfl rfl ?_
   refine q_s true rfl rfl rfl rfl ?_
   refine q_p rfl (p_pkf rfl rfl) ?_
   refine q_nil ?_
   refine nj_seq ?_
   refine cj_if_f rfl ?_
   refine cj_reg ?_
   refine lp rfl (p_mv rfl) ?_
   refine lp rfl (p_lbw ty113 rfl (j := 0) rfl rfl) ?_
   refine r_bs R113 [x2] rfl rfl rfl (fun _ => by kernel_rfl) rfl (fun s17 => ?_)
   obtain ⟨q18, hq18, hm⟩ := bindS hm
   refine r_app (k := 3) Tryz.underlying110 ty113 rfl rfl rfl rfl (.row 0 rfl) hq18 rfl (fun s19 => ?_)
   refine lp rfl (p_as rfl) ?_
   refine lj_nil ?_
   refine nj_blk ?_
   exact cnk7 _ _ q18 s19 (hJk7 _ (Option.some.inj hm).symm) ⟨rfl, rfl, rfl, rfl, rfl, trivial⟩ (fun _ h => h.picks [2, 2] rfl)
theorem ok_rehearse_presences (s0_ : SV) (a0 : (List TCame)) {r : (List (ByteArray × (List TWindow)))} (hm : m_rehearse_presences a0 = some r) :
  Ctr Tryz.prog 54 [s0_.v].toArray ([] : List Ent) [RdS R71 (SV.v s0_) a0] (X := (Nat × List (ByteArray × SV) × Array MapEntry × Nat)) (fun s => .map (some s.1)) (fun s => [.obj (famO kv9 SV.v (rowE R113) s.1 r s.2.1 none s.2.2.1 s.2.2.2)]) := by
 unfold m_rehearse_presences at hm
 refine ctr_mk (vs := [(0, s0_.v)]) Tryz.func54 rfl Tryz.ntmps54 rfl ⟨rfl, trivial⟩ (fun w0 A => ?_)
 refine cj_seq ?_
 refine cj_reg ?_
 refine lp rfl (p_as rfl) ?_
 refine lj_seq ?_
 refine cj_seq ?_
 refine cj_reg ?_
 refine r_mkmapF kv9 SV.v (rowE R113) rfl (fun b1 => ?_)
 refine lp rfl (p_as rfl) ?_
 refine lj_seq ?_
 refine cj_seq ?_
 refine cj_reg ?_
 refine r_mkmap kv9 vv3 rfl (fun b2 => ?_)
 refine lp rfl (p_as rfl) ?_
 refine lj_seq ?_
 refine cj_seq ?_
 refine cj_seq ?_
 refine cj_reg ?_
 refine lp rfl (p_mv rfl) ?_
 refine lp rfl (p_len Tryz.underlying72 rfl (.ro 2 rfl)) ?_
 refine lp rfl (p_mv rfl) ?_
 refine lj_seq ?_
 obtain ⟨f9, hf9, hm⟩ := bindS hm
 refine cj_range (γ := (Array MapEntry × Nat × List (ByteArray × SV) × Array MapEntry × Nat)) (m := (a0.length : Int)) hf9 (#[], 0, [], #[], 0) (fun u6 g7 => [(2, .map none), (3, .map (some b1)), (4, .map (some b2)), (15, s0_.v)]) (fun u6 g7 => Sat w0 (keys ([] : List Ent)) A [.obj (mapO kv9 b2 (mpV vv3 u6.1) g7.1 g7.2.1), .obj (famO kv9 SV.v (rowE R113) b1 u6.2 g7.2.2.1 none g7.2.2.2.1 g7.2.2.2.2), .ro (RdS R71 (SV.v s0_) a0)]) ⟨rfl, rfl, rfl, rfl, rfl, rfl, trivial⟩ (fun _ h => h.picks [0, 0, 0] rfl) (nat_lt _) (fun _ h => (FactAt.get (F := RdS R71 (SV.v s0_) a0) (.ro 2 rfl) h).1) (fun _ _ => ⟨rfl, rfl, rfl, rfl⟩) ⟨rfl, rfl, rfl, rfl, rfl⟩ rfl rfl rfl (fun u6 g7 e => ?_) (fun aftk8 i3 x4 u6 g7 k8 hx5 hs J hJk8 hBk8 hX I cnk8 => ?_)
 ·have hm := Flow.fin_b e hm
  refine nj_seq ?_
  refine cj_seq ?_
  refine cj_seq ?_
  refine cj_reg ?_
  refine lp rfl (p_mv rfl) ?_
  refine r_rng (vv := vv3) Tryz.underlying51 (.map 0 rfl) rfl rfl (fun b31 hrb32 => ?_)
  refine lj_seq ?_
  have hsq := anyOrd_spec hm
  refine cj_mrange (γ := (List (ByteArray × SV) × Array MapEntry × Nat)) (fun L hL => hsq L hL) hrb32 (g7.2.2.1, g7.2.2.2.1, g7.2.2.2.2) (fun u38 g39 => [(2, .map none), (3, .map (some b1))]) (fun u38 g39 => [.obj (mapO kv9 b2 (mpV vv3 u6.1) g7.1 g7.2.1), .obj (famO kv9 SV.v (rowE R113) b1 u38 g39.1 none g39.2.1 g39.2.2)]) ⟨rfl, rfl, rfl, trivial⟩ (fun _ h => h.picks [0, 0, 0] rfl) (fun _ _ => (.map 0 rfl)) (fun _ _ => ⟨rfl, rfl, rfl⟩) ⟨rfl, rfl, rfl⟩ rfl rfl (fun u38 g39 e => ?_) (fun aftk40 i33 x34 u38 g39 idx37 ix36 k40 hx35 hs J hJk40 hBk40 hX I cnk40 => ?_)
  ·have hm := Flow.fin_b (f := .brk u38) rfl e
   refine nj_seq ?_
   refine cj_seq ?_
   refine cj_seq ?_
   refine cj_reg ?_
   refine lp rfl (p_mv rfl) ?_
   refine r_rng (vv := SV.v) Tryz.underlying108 (.imp (.fam 1 rfl) (fun _ h => h.map)) rfl rfl (fun b48 hrb49 => ?_)
   refine lj_seq ?_
   refine cj_pure (F := FamAt kv9 SV.v (rowE R113) b1 u38 g39.1 none g39.2.1 g39.2.2) (.fam 2 rfl) (fun _ h => h.kys) (fun hky55 => ?_)
   refine cj_fact (F := fun _ => KeptK (u38.map Prod.fst) g39.2.1 g39.2.2 g39.1 g39.2.1 g39.2.2) (.tru (KeptK.refl _ hky55)) ?_
   have hsq := anyOrd_spec hm
   refine cj_frange (γ := (List (ByteArray × SV) × Array MapEntry × Nat)) (vv := SV.v) (fun u57 g58 => g58.1) (fun u57 g58 => g58.2.1) (fun u57 g58 => g58.2.2) (fun L hL => hsq L hL) hrb49 (g39.1, g39.2.1, g39.2.2) (fun u57 g58 => [(2, .map none), (3, .map (some b1))]) (fun u57 g58 => [.ro (fun _ => KeptK (u38.map Prod.fst) g39.2.1 g39.2.2 g58.1 g58.2.1 g58.2.2), .obj (mapO kv9 b2 (mpV vv3 u6.1) g7.1 g7.2.1), .obj (famO kv9 SV.v (rowE R113) b1 u57 g58.1 none g58.2.1 g58.2.2)]) ⟨rfl, rfl, rfl, trivial⟩ (fun _ h => h.picks [1, 0, 0, 0] rfl) (fun _ _ => .and (.imp (.fam 2 rfl) (fun _ h => h.map)) (.ro 0 rfl)) (fun _ _ => ⟨rfl, rfl, rfl⟩) ⟨rfl, rfl, rfl⟩ rfl rfl (fun u57 g58 e => ?_) (fun aftk59 i50 x51 u57 g58 idx54 ix53 k59 hx52 hs J hJk59 hBk59 hX I cnk59 => ?_)
   ·have hm := Flow.fin_b (f := .brk u57) rfl e
    refine NJ.sat (fun _ h => h.picks [1, 1] rfl) ?_
    refine nj_seq ?_
    refine cj_seq ?_
    refine cj_reg ?_
    refine lp rfl (p_mv rfl) ?_
    refine lp rfl (p_as rfl) ?_
    refine lj_seq ?_
    obtain rfl := Option.some.inj hm
    exact cj_rt (b1, g58.1, g58.2.1, g58.2.2) [1] Tryz.results54 (.tmp rfl .nil) rfl rfl
   ·have hRk59 : ∀ t, k59 = .ret t → some t = some r := fun t e => hX t e
    have hm := hs
    refine cj_pure (F := fun _ => KeptK (u38.map Prod.fst) g39.2.1 g39.2.2 g58.1 g58.2.1 g58.2.2) (.ro 1 rfl) (fun _ h => h) (fun hkp61 => ?_)
    refine cj_seq ?_
    refine cj_reg ?_
    refine lp rfl (p_entF (n := 0) (k := x51) (z := nilS) (.fam 3 rfl) hkp61 rfl hx52 rfl) ?_
    refine lp rfl (p_ext rfl rfl) ?_
    refine lp rfl (p_ext rfl rfl) ?_
    refine lp rfl (p_as rfl) ?_
    refine lp rfl (p_as rfl) ?_
    refine lj_seq ?_
    refine cj_reg ?_
    refine lp rfl (p_mv rfl) ?_
    refine lp rfl (p_mv rfl) ?_
    refine lp rfl (p_mv rfl) ?_
    obtain ⟨y62, hy62, hm⟩ := bindS hm
    refine r_call [] cf86 rfl rfl (ok_rehearse_joined ((lkM g58.1 x51).getD nilS) ((lkM u57 x51).getD []) hy62) rfl rfl (.cons (.imp (.fam 3 rfl) (fun _ h => h.look x51)) .nil) (fun _ => rfl) rfl (fun s63 => ?_)
    refine r_mpuK (x1 := y62) (g1 := s63) (k := x51) [4, 0] Tryz.underlying108 keyF9 rfl (.inl rfl) (KeptK.has hkp61 hx52) hkp61 rfl rfl rfl (fun es64 hkp66 => ?_)
    refine r_fact (F := fun _ => KeptK (u38.map Prod.fst) g39.2.1 g39.2.2 (putM g58.1 x51 s63) es64 g58.2.2) (.tru hkp66) ?_
    refine lj_nil ?_
    refine nj_blk ?_
    exact cnk59 _ _ (putM u57 x51 y62) (putM g58.1 x51 s63, es64, g58.2.2) (hJk59 _ (Option.some.inj hm).symm) ⟨rfl, rfl, rfl, trivial⟩ (fun _ h => h.picks [2, 0, 2, 0] rfl)
  ·have hRk40 : ∀ t, k40 = .ret t → some t = some r := fun t e => hX t e
   have hm := hs
   refine cj_seq ?_
   refine cj_reg ?_
   refine lp rfl (p_ent (kk := x34.1) (v := x34.2) (vv := vv3) (k := 0) (.map 1 rfl) rfl hx35 rfl) ?_
   refine lp rfl (p_ext rfl rfl) ?_
   refine lp rfl (p_ext rfl rfl) ?_
   refine lp rfl (p_as rfl) ?_
   refine lp rfl (p_as rfl) ?_
   refine lj_seq ?_
   refine cj_reg ?_
   refine lp rfl (p_mv rfl) ?_
   refine lp rfl (p_mv rfl) ?_
   refine lp rfl (p_mv rfl) ?_
   refine lp rfl (p_mv rfl) ?_
   refine lp rfl (p_lkm (vv := SV.v) (k := x34.1) (z := nilS) Tryz.underlying108 (keyF9) (fun _ => by kernel_rfl) (.imp (.fam 2 rfl) (fun _ h => h.map)) rfl rfl) ?_
   refine lp rfl (p_mv rfl) ?_
   refine lp rfl (p_bld [.int .i64 x34.2, .int .i64 345686400000] rfl (fun _ => by kernel_rfl)) ?_
   refine r_bs R113 [(TWindow.mk x34.2 345686400000)] rfl rfl rfl (fun _ => by kernel_rfl) rfl (fun s42 => ?_)
   refine LJ.sat (fun _ h => h.takeR 3 rfl x34.1) ?_
   obtain ⟨q44, hq44, hm⟩ := bindS hm
   refine r_app (k := 0) Tryz.underlying110 ty113 rfl rfl rfl rfl (.row 2 rfl) hq44 rfl (fun s45 => ?_)
   refine r_mpuF (x1 := q44) (g1 := s45) (k := x34.1) [1, 0] Tryz.underlying108 keyF9 rfl (.inr rfl) rfl rfl rfl (fun es46 cl47 => ?_)
   refine lj_nil ?_
   refine nj_blk ?_
   exact cnk40 _ _ (putM u38 x34.1 q44) (putM g39.1 x34.1 s45, es46, cl47) (hJk40 _ (Option.some.inj hm).symm) ⟨rfl, rfl, rfl, trivial⟩ (fun _ h => h.picks [2, 2, 0] rfl)
 ·have hRk8 : ∀ t, k8 = .ret t → some t = some r := fun t e => by rw [hX t e] at hm; exact hm
  have hm := hs
  refine cj_seq ?_
  refine cj_reg ?_
  refine lp rfl (p_idx Tryz.underlying72 ty71 rfl rfl (.ro 2 rfl) (getI_nat.trans hx5)) ?_
  refine lp rfl (p_lea ty71 rfl (.ro 2 rfl) hx5) ?_
  refine r_al ty71 rfl (fun b10 => ?_)
  refine r_sb (vs := [.int .i64 x4.At, .string x4.Singer, .bool x4.Left]) (j := 0) ty71 rfl rfl rfl rfl rfl rfl rfl ?_
  refine lj_seq ?_
  refine cj_seq ?_
  refine cj_reg ?_
  refine lp rfl (p_mv rfl) ?_
  refine lp rfl (p_fab fl71_1 rfl) ?_
  refine lp rfl (p_lbs ty9 rfl (j := 0) rfl rfl) ?_
  refine lp rfl (p_lko (vv := vv3) (k := x4.Singer) (z := 0) Tryz.underlying51 (keyF9) (fun _ => by kernel_rfl) (.map 1 rfl) rfl rfl) ?_
  refine lp rfl (p_mv rfl) ?_
  refine lp rfl (p_ext rfl rfl) ?_
  refine lp rfl (p_ext rfl rfl) ?_
  refine lp rfl (p_as rfl) ?_
  refine lp rfl (p_as rfl) ?_
  refine lj_seq ?_
  refine cj_blk ?_
  refine cj_seq ?_
  refine cj_reg ?_
  obtain ⟨k13, hk13, hm⟩ := bindS hm
  have hRk13 : ∀ t, k13 = .inr t → some t = some k8 := fun t e => by rw [e] at hm; exact hm
  refine lj_join (σ := Bool) (γ := Unit) (fun u11 => k13 = .inl u11) (fun u11 g12 => [(2, .map none), (3, .map (some b1)), (4, .map (some b2)), (6, .pointer (some ⟨b10, 0, none⟩)), (7, .int .i64 ((lkM u6.1 x4.Singer).getD 0)), (8, .bool (hasM u6.1 x4.Singer)), (15, s0_.v), (16, .int .i64 (a0.length : Int)), (17, .int .i64 (i3 : Int)), (28, .bool u11)]) (fun u11 g12 => Sat w0 (keys ([] : List Ent)) A [.box b10 71 [.int .i64 x4.At, .string x4.Singer, .bool x4.Left], .obj (mapO kv9 b2 (mpV vv3 u6.1) g7.1 g7.2.1), .obj (famO kv9 SV.v (rowE R113) b1 u6.2 g7.2.2.1 none g7.2.2.2.1 g7.2.2.2.2), .ro (RdS R71 (SV.v s0_) a0)]) (fun u11 g12 hq => ?_) (fun J cnk13 => ?_)
  ·have hm := Sum.fin_l hq hm
   refine cj_if (b := u11) rfl (fun hb => ?_) (fun hb => ?_)
   ·have hm := ifB_t hb hm
    refine cj_reg ?_
    refine lp rfl (p_mv rfl) ?_
    refine lp rfl (p_fab fl71_1 rfl) ?_
    refine lp rfl (p_lbs ty9 rfl (j := 0) rfl rfl) ?_
    refine lp rfl (p_fab fl71_0 rfl) ?_
    refine lp rfl (p_lbs ty3 rfl (j := 0) rfl rfl) ?_
    refine r_mpu (j := 1) (vv := vv3) (k := x4.Singer) (v := x4.At) Tryz.underlying51 keyF9 rfl rfl rfl rfl (fun es14 cl15 => ?_)
    refine lj_nil ?_
    refine nj_blk ?_
    refine nj_blk ?_
    exact cnk8 _ _ (putM u6.1 x4.Singer x4.At, u6.2) (es14, cl15, g7.2.2.1, g7.2.2.2.1, g7.2.2.2.2) (hJk8 _ (Option.some.inj hm).symm) ⟨rfl, rfl, rfl, rfl, rfl, rfl, trivial⟩ (fun _ h => h.picks [1, 1, 1] rfl)
   ·have hm := ifB_f hb hm
    refine cj_seq ?_
    refine cj_reg ?_
    obtain ⟨k18, hk18, hm⟩ := bindS hm
    have hRk18 : ∀ t, k18 = .inr t → some t = some k8 := fun t e => by rw [e] at hm; exact hm
    refine lj_join (σ := Bool) (γ := Unit) (fun u16 => k18 = .inl u16) (fun u16 g17 => [(2, .map none), (3, .map (some b1)), (4, .map (some b2)), (6, .pointer (some ⟨b10, 0, none⟩)), (7, .int .i64 ((lkM u6.1 x4.Singer).getD 0)), (15, s0_.v), (16, .int .i64 (a0.length : Int)), (17, .int .i64 (i3 : Int)), (41, .bool u16)]) (fun u16 g17 => Sat w0 (keys ([] : List Ent)) A [.box b10 71 [.int .i64 x4.At, .string x4.Singer, .bool x4.Left], .obj (mapO kv9 b2 (mpV vv3 u6.1) g7.1 g7.2.1), .obj (famO kv9 SV.v (rowE R113) b1 u6.2 g7.2.2.1 none g7.2.2.2.1 g7.2.2.2.2), .ro (RdS R71 (SV.v s0_) a0)]) (fun u16 g17 hq => ?_) (fun J cnk18 => ?_)
    ·have hm := Sum.fin_l hq hm
     refine cj_if (b := u16) rfl (fun hb => ?_) (fun hb => ?_)
     ·have hm := ifB_t hb hm
      refine cj_seq ?_
      refine cj_reg ?_
      refine lp rfl (p_mv rfl) ?_
      refine lp rfl (p_fab fl71_1 rfl) ?_
      refine lp rfl (p_lbs ty9 rfl (j := 0) rfl rfl) ?_
      refine r_del (j := 1) (vv := vv3) (k := x4.Singer) Tryz.underlying51 keyF9 rfl rfl rfl (fun es19 => ?_)
      refine lj_seq ?_
      refine cj_seq ?_
      refine cj_reg ?_
      refine lp rfl (p_mv rfl) ?_
      refine lp rfl (p_fab fl71_0 rfl) ?_
      refine lp rfl (p_lbs ty3 rfl (j := 0) rfl rfl) ?_
      refine lp rfl (p_lss rfl rfl) ?_
      refine lj_seq ?_
      refine cj_if (b := decide (((lkM u6.1 x4.Singer).getD 0) < x4.At)) rfl (fun hb => ?_) (fun hb => ?_)
      ·have hm := ifB_t hb hm
       obtain ⟨q22, hq22, hm⟩ := bindS hm
       refine cj_anyT [0, 1, 2, 3, 4, 5, 6, 7, 8, 9, 10] [12, 13] (Sat w0 (keys ([] : List Ent)) A [.box b10 71 [.int .i64 x4.At, .string x4.Singer, .bool x4.Left], .obj (mapO kv9 b2 (mpV vv3 (delM u6.1 x4.Singer)) es19 g7.2.1), .obj (famO kv9 SV.v (rowE R113) b1 u6.2 g7.2.2.1 none g7.2.2.2.1 g7.2.2.2.2), .ro (RdS R71 (SV.v s0_) a0)]) (Sat w0 (keys ([] : List Ent)) A [.box b10 71 [.int .i64 x4.At, .string x4.Singer, .bool x4.Left], .obj (mapO kv9 b2 (mpV vv3 (delM u6.1 x4.Singer)) es19 g7.2.1), .ro (RdS R71 (SV.v s0_) a0)]) (by kernel_rfl) ?_
       refine at_take2 0 rfl (by kernel_rfl) (by kernel_rfl) (by kernel_rfl) (fun _ h => h.picks [0, 0, 1] rfl) rfl rfl (p_mv rfl) (fun _ h => h.picks [0, 0, 1] rfl) ?_
       refine at_take2 1 rfl (by kernel_rfl) (by kernel_rfl) (by kernel_rfl) (fun _ h => h.picks [0, 0, 1] rfl) rfl rfl (p_fab fl71_1 rfl) (fun _ h => h.picks [0, 0, 1] rfl) ?_
       refine at_take2 2 rfl (by kernel_rfl) (by kernel_rfl) (by kernel_rfl) (fun _ h => h.picks [0, 0, 1] rfl) rfl rfl (p_lbs ty9 rfl (j := 0) rfl rfl) (fun _ h => h.picks [0, 0, 1] rfl) ?_
       refine at_take2 3 rfl (by kernel_rfl) (by kernel_rfl) (by kernel_rfl) (fun _ h => h.picks [0, 0, 1] rfl) rfl rfl (p_mv rfl) (fun _ h => h.picks [0, 0, 1] rfl) ?_
       refine at_take2 4 rfl (by kernel_rfl) (by kernel_rfl) (by kernel_rfl) (fun _ h => h.picks [0, 0, 1] rfl) rfl rfl (p_fab fl71_1 rfl) (fun _ h => h.picks [0, 0, 1] rfl) ?_
       refine at_take2 5 rfl (by kernel_rfl) (by kernel_rfl) (by kernel_rfl) (fun _ h => h.picks [0, 0, 1] rfl) rfl rfl (p_lbs ty9 rfl (j := 0) rfl rfl) (fun _ h => h.picks [0, 0, 1] rfl) ?_
       refine at_take1 6 rfl (by kernel_rfl) (by kernel_rfl) (by kernel_rfl) (by kernel_rfl) rfl rfl (p_lkm (vv := SV.v) (k := x4.Singer) (z := nilS) Tryz.underlying108 (keyF9) (fun _ => by kernel_rfl) (.imp (.fam 2 rfl) (fun _ h => h.map)) rfl rfl) (fun _ h => h.picks [0, 0, 0, 0] rfl) ?_
       refine at_take2 7 rfl (by kernel_rfl) (by kernel_rfl) (by kernel_rfl) (fun _ h => h.picks [0, 0, 1] rfl) rfl rfl (p_mv rfl) (fun _ h => h.picks [0, 0, 1] rfl) ?_
       refine at_take2 8 rfl (by kernel_rfl) (by kernel_rfl) (by kernel_rfl) (fun _ h => h.picks [0, 0, 1] rfl) rfl rfl (p_fab fl71_0 rfl) (fun _ h => h.picks [0, 0, 1] rfl) ?_
       refine at_take2 9 rfl (by kernel_rfl) (by kernel_rfl) (by kernel_rfl) (fun _ h => h.picks [0, 0, 1] rfl) rfl rfl (p_lbs ty3 rfl (j := 0) rfl rfl) (fun _ h => h.picks [0, 0, 1] rfl) ?_
       refine at_take2 10 rfl (by kernel_rfl) (by kernel_rfl) (by kernel_rfl) (fun _ h => h.picks [0, 0, 1] rfl) rfl rfl (p_bld [.int .i64 ((lkM u6.1 x4.Singer).getD 0), .int .i64 x4.At] rfl (fun _ => by kernel_rfl)) (fun _ h => h.picks [0, 0, 1] rfl) ?_
       refine at_each (rs := [11]) (by kernel_rfl) (by decide) ?_
       refine (.cons rfl (fun I cnI => ?_) .nil)
       ·refine r_bs R113 [(TWindow.mk ((lkM u6.1 x4.Singer).getD 0) x4.At)] rfl rfl rfl (fun _ => by kernel_rfl) rfl (fun s26 => ?_)
        refine lj_nil ?_
        refine cnI _ _ (sof1 rfl rfl (fun _ h => h.picks [1, 1, 1, 1] rfl)) ?_
        refine at_each (rs := [12]) (by kernel_rfl) (by decide) ?_
        refine (.cons rfl (fun I cnI => ?_) .nil)
        ·refine LJ.sat (fun _ h => h.takeR 3 rfl x4.Singer) ?_
         refine r_app (k := 0) Tryz.underlying110 ty113 rfl rfl rfl rfl (.row 2 rfl) hq22 rfl (fun s28 => ?_)
         refine lj_nil ?_
         refine cnI _ _ (sof2 rfl rfl (fun _ h => h.picks [3, 3, 3] rfl)) ?_
         refine at_each (rs := [13]) (by kernel_rfl) (by decide) ?_
         refine (.cons rfl (fun I cnI => ?_) .nil)
         ·refine r_mpuF (x1 := q22) (g1 := s28) (k := x4.Singer) [1, 0] Tryz.underlying108 keyF9 rfl (.inr rfl) rfl rfl rfl (fun es29 cl30 => ?_)
          refine lj_nil ?_
          refine cnI _ _ (sof2 rfl rfl (fun _ h => h.picks [2, 2, 2] rfl)) ?_
          refine at_done (by kernel_rfl) ?_
          refine nj_blk ?_
          refine nj_blk ?_
          exact cnk8 _ _ (delM u6.1 x4.Singer, putM u6.2 x4.Singer q22) (es19, g7.2.1, putM g7.2.2.1 x4.Singer s28, es29, cl30) (hJk8 _ (Option.some.inj hm).symm) ⟨rfl, rfl, rfl, rfl, rfl, rfl, trivial⟩ (fun _ h => h.picks [3, 0, 2] rfl)
      ·have hm := ifB_f hb hm
       refine cj_skip ?_
       refine nj_blk ?_
       refine nj_blk ?_
       exact cnk8 _ _ (delM u6.1 x4.Singer, u6.2) (es19, g7.2.1, g7.2.2.1, g7.2.2.2.1, g7.2.2.2.2) (hJk8 _ (Option.some.inj hm).symm) ⟨rfl, rfl, rfl, rfl, rfl, rfl, trivial⟩ (fun _ h => h.picks [1, 1, 1] rfl)
     ·have hm := ifB_f hb hm
      refine cj_skip ?_
      refine nj_blk ?_
      refine nj_blk ?_
      exact cnk8 _ _ (u6.1, u6.2) (g7.1, g7.2.1, g7.2.2.1, g7.2.2.2.1, g7.2.2.2.2) (hJk8 _ (Option.some.inj hm).symm) ⟨rfl, rfl, rfl, rfl, rfl, rfl, trivial⟩ (fun _ h => h.picks [1, 1, 1] rfl)
    ·have hm := hk18
     refine lp rfl (p_fab fl71_2 rfl) ?_
     refine lp rfl (p_lbs ty4 rfl (j := 0) rfl rfl) ?_
     refine lp rfl (p_mv rfl) ?_
     refine lcase (i := 44) x4.Left rfl (fun hb => ?_) (fun hb => ?_)
     ·have hm := ifB_t hb hm
      refine lg true rfl rfl rfl ?_
      refine lp rfl (p_mv rfl) ?_
      refine lp rfl (p_pkt rfl rfl) ?_
      refine lp rfl (p_as rfl) ?_
      refine lj_nil ?_
      exact cnk18 _ _ (hasM u6.1 x4.Singer) () (Option.some.inj hm).symm ⟨rfl, rfl, rfl, rfl, rfl, rfl, rfl, rfl, rfl, trivial⟩ (fun _ h => h.picks [0, 0, 0, 0] rfl)
     ·have hm := ifB_f hb hm
      refine ls true rfl rfl rfl rfl ?_
      refine lp rfl (p_pkf rfl rfl) ?_
      refine lp rfl (p_as rfl) ?_
      refine lj_nil ?_
      exact cnk18 _ _ false () (Option.some.inj hm).symm ⟨rfl, rfl, rfl, rfl, rfl, rfl, rfl, rfl, rfl, trivial⟩ (fun _ h => h.picks [0, 0, 0, 0] rfl)
  ·have hm := hk13
   refine lp rfl (p_fab fl71_2 rfl) ?_
   refine lp rfl (p_lbs ty4 rfl (j := 0) rfl rfl) ?_
   refine lp rfl (p_not rfl) ?_
   refine lp rfl (p_mv rfl) ?_
   refine lcase (i := 32) (!x4.Left) rfl (fun hb => ?_) (fun hb => ?_)
   ·have hm := ifB_t hb hm
    refine lg true rfl rfl rfl ?_
    refine lp rfl (p_mv rfl) ?_
    refine lg true rfl rfl rfl ?_
    refine lp rfl (p_not rfl) ?_
    refine lp rfl (p_pkt rfl rfl) ?_
    refine lp rfl (p_as rfl) ?_
    refine lj_nil ?_
    exact cnk13 _ _ (!(hasM u6.1 x4.Singer)) () (Option.some.inj hm).symm ⟨rfl, rfl, rfl, rfl, rfl, rfl, rfl, rfl, rfl, rfl, trivial⟩ (fun _ h => h.picks [0, 0, 0, 0] rfl)
   ·have hm := ifB_f hb hm
    refine ls true rfl rfl rfl rfl ?_
    refine ls true rfl rfl rfl rfl ?_
    refine lp rfl (p_pkf rfl rfl) ?_
    refine lp rfl (p_as rfl) ?_
    refine lj_nil ?_
    exact cnk13 _ _ false () (Option.some.inj hm).symm ⟨rfl, rfl, rfl, rfl, rfl, rfl, rfl, rfl, rfl, rfl, trivial⟩ (fun _ h => h.picks [0, 0, 0, 0] rfl)
theorem ok_kit_Has (a0 : TWindow) (a1 : Int) {r : Bool} (hm : m_kit_Has a0 a1 = some r) :
  Ctr Tryz.prog 57 [.agg (R113.enc a0).toArray, .int .i64 a1].toArray ([] : List Ent) [] (X := Unit) (fun _ => .bool r) (fun _ => []) := by
 unfold m_kit_Has at hm
 refine ctr_mk (vs := [(0, .agg (R113.enc a0).toArray), (1, .int .i64 a1)]) Tryz.func57 rfl Tryz.ntmps57 rfl ⟨rfl, rfl, trivial⟩ (fun w0 A => ?_)
 refine cj_seq ?_
 refine cj_reg ?_
 refine r_bx (cs := [.int .i64 a0.From, .int .i64 a0.To]) rfl rfl rfl (fun b1 => ?_)
 refine lp rfl (p_as rfl) ?_
 refine lj_seq ?_
 refine cj_seq ?_
 refine cj_reg ?_
 refine lp rfl (p_fab fl113_0 rfl) ?_
 refine lp rfl (p_lbs ty3 rfl (j := 0) rfl rfl) ?_
 refine lp rfl (p_mv rfl) ?_
 refine lp rfl (p_leq rfl rfl) ?_
 refine lp rfl (p_mv rfl) ?_
 refine lcase (i := 9) (decide (a0.From ≤ a1)) rfl (fun hb => ?_) (fun hb => ?_)
 ·have hm := ifB_t hb hm
  refine lg true rfl rfl rfl ?_
  refine lp rfl (p_mv rfl) ?_
  refine lg true rfl rfl rfl ?_
  refine lp rfl (p_fab fl113_1 rfl) ?_
  refine lg true rfl rfl rfl ?_
  refine lp rfl (p_lbs ty3 rfl (j := 0) rfl rfl) ?_
  refine lg true rfl rfl rfl ?_
  refine lp rfl (p_lss rfl rfl) ?_
  refine lp rfl (p_pkt rfl rfl) ?_
  refine lp rfl (p_as rfl) ?_
  refine lj_seq ?_
  obtain rfl := Option.some.inj hm
  exact cj_rt () [] Tryz.results57 (.tmp rfl .nil) rfl rfl
 ·have hm := ifB_f hb hm
  refine ls true rfl rfl rfl rfl ?_
  refine ls true rfl rfl rfl rfl ?_
  refine ls true rfl rfl rfl rfl ?_
  refine ls true rfl rfl rfl rfl ?_
  refine lp rfl (p_pkf rfl rfl) ?_
  refine lp rfl (p_as rfl) ?_
  refine lj_seq ?_
  obtain rfl := Option.some.inj hm
  exact cj_rt () [] Tryz.results57 (.tmp rfl .nil) rfl rfl
theorem ok_rehearse_There_1 (a0 : TWindow) (b1_ : Nat) (a1_0 : Int) {r : Bool} (hm : m_rehearse_There_1 a0 a1_0 = some r) :
  Ctr Tryz.prog 56 [.agg (R113.enc a0).toArray, .pointer (some ⟨b1_, 0, none⟩)].toArray ([] : List Ent) [BoxS b1_ 3 [.int .i64 a1_0]] (X := Unit) (fun _ => .bool r) (fun _ => []) := by
 unfold m_rehearse_There_1 at hm
 refine ctr_mk (vs := [(0, .agg (R113.enc a0).toArray), (1, .pointer (some ⟨b1_, 0, none⟩))]) Tryz.func56 rfl Tryz.ntmps56 rfl ⟨rfl, rfl, trivial⟩ (fun w0 A => ?_)
 refine cj_seq ?_
 refine cj_reg ?_
 refine r_bx (cs := [.int .i64 a0.From, .int .i64 a0.To]) rfl rfl rfl (fun b1 => ?_)
 refine lp rfl (p_as rfl) ?_
 refine lj_seq ?_
 refine cj_seq ?_
 refine cj_reg ?_
 refine lp rfl (p_lbw ty113 rfl (j := 0) rfl rfl) ?_
 refine lp rfl (p_rbs ty3 rfl (.ro 1 rfl) rfl) ?_
 obtain ⟨y2, hy2, hm⟩ := bindS hm
 refine r_call [] cf57 rfl rfl (ok_kit_Has a0 a1_0 hy2) rfl rfl .nil (fun _ => rfl) rfl (fun _ => ?_)
 refine lp rfl (p_as rfl) ?_
 refine lj_seq ?_
 obtain rfl := Option.some.inj hm
 exact cj_rt () [] Tryz.results56 (.tmp rfl .nil) rfl rfl
theorem ok_slices_IndexFunc_api_Window_api_Window__rehearse_There_1 (s0_ : SV) (a0 : (List TWindow)) (b1_c0_ : Nat) (a1_c0_0 : Int) {r : Int} (hm : m_slices_IndexFunc_api_Window_api_Window__rehearse_There_1 a0 a1_c0_0 = some r) :
  Ctr Tryz.prog 87 [s0_.v, .func (.func 56) #[] [.pointer (some ⟨b1_c0_, 0, none⟩)].toArray].toArray ([] : List Ent) [RdS R113 (SV.v s0_) a0, BoxS b1_c0_ 3 [.int .i64 a1_c0_0]] (X := Unit) (fun _ => .int .i64 r) (fun _ => []) := by
 unfold m_slices_IndexFunc_api_Window_api_Window__rehearse_There_1 at hm
 refine ctr_mk (vs := [(0, s0_.v), (1, .func (.func 56) #[] [.pointer (some ⟨b1_c0_, 0, none⟩)].toArray)]) Tryz.func87 rfl Tryz.ntmps87 rfl ⟨rfl, rfl, trivial⟩ (fun w0 A => ?_)
 refine cj_seq ?_
 refine cj_reg ?_
 refine lp rfl (p_as rfl) ?_
 refine lj_seq ?_
 refine cj_seq ?_
 refine cj_seq ?_
 refine cj_reg ?_
 refine lp rfl (p_mv rfl) ?_
 refine lp rfl (p_len Tryz.underlying110 rfl (.ro 0 rfl)) ?_
 refine lp rfl (p_mv rfl) ?_
 refine lj_seq ?_
 obtain ⟨f7, hf7, hm⟩ := bindS hm
 refine cj_range (γ := Unit) (m := (a0.length : Int)) hf7 () (fun u4 g5 => [(0, s0_.v), (1, .func (.func 56) #[] [.pointer (some ⟨b1_c0_, 0, none⟩)].toArray), (4, .int .i64 0)]) (fun u4 g5 => Sat w0 (keys ([] : List Ent)) A [.ro (RdS R113 (SV.v s0_) a0), .ro (BoxS b1_c0_ 3 [.int .i64 a1_c0_0])]) ⟨rfl, rfl, rfl, rfl, rfl, trivial⟩ (fun _ h => h.picks [0, 0] rfl) (nat_lt _) (fun _ h => (FactAt.get (F := RdS R113 (SV.v s0_) a0) (.ro 0 rfl) h).1) (fun _ _ => ⟨rfl, rfl, rfl, rfl⟩) ⟨rfl, rfl, rfl, rfl, rfl⟩ rfl rfl rfl (fun u4 g5 e => ?_) (fun aftk6 i1 x2 u4 g5 k6 hx3 hs J hJk6 hBk6 hX I cnk6 => ?_)
 ·have hm := Flow.fin_b e hm
  refine nj_seq ?_
  refine cj_seq ?_
  refine cj_reg ?_
  refine lp rfl (p_as rfl) ?_
  refine lj_seq ?_
  obtain rfl := Option.some.inj hm
  exact cj_rt () [] Tryz.results87 (.tmp rfl .nil) rfl rfl
 ·have hRk6 : ∀ t, k6 = .ret t → some t = some r := fun t e => by rw [hX t e] at hm; exact hm
  have hm := hs
  refine cj_seq ?_
  refine cj_reg ?_
  refine lp rfl (p_mv rfl) ?_
  refine lp rfl (p_as rfl) ?_
  refine lj_seq ?_
  refine cj_seq ?_
  refine cj_reg ?_
  refine lp rfl (p_mv rfl) ?_
  refine lp rfl (p_mv rfl) ?_
  refine lp rfl (p_mv rfl) ?_
  refine lp rfl (p_idx Tryz.underlying110 ty113 rfl rfl (.ro 0 rfl) (getI_nat.trans hx3)) ?_
  refine lp rfl (p_lea ty113 rfl (.ro 0 rfl) hx3) ?_
  obtain ⟨y8, hy8, hm⟩ := bindS hm
  refine r_call [] cf56 rfl rfl (ok_rehearse_There_1 x2 b1_c0_ a1_c0_0 hy8) rfl rfl (.cons (.ro 1 rfl) .nil) (fun _ => rfl) rfl (fun _ => ?_)
  refine lj_seq ?_
  refine cj_if (b := y8) rfl (fun hb => ?_) (fun hb => ?_)
  ·have hm := ifB_t hb hm
   refine cj_seq ?_
   refine cj_reg ?_
   refine lp rfl (p_mv rfl) ?_
   refine lp rfl (p_as rfl) ?_
   refine lj_seq ?_
   have hm := hRk6 _ (Option.some.inj hm).symm
   obtain rfl := Option.some.inj hm
   exact cj_rt () [] Tryz.results87 (.tmp rfl .nil) rfl rfl
  ·have hm := ifB_f hb hm
   refine cj_skip ?_
   refine nj_blk ?_
   exact cnk6 _ _ () () (hJk6 _ (Option.some.inj hm).symm) ⟨rfl, rfl, rfl, rfl, rfl, trivial⟩ (fun _ h => h.picks [0, 0] rfl)
theorem ok_slices_ContainsFunc_api_Window_api_Window__rehearse_There_1 (s0_ : SV) (a0 : (List TWindow)) (b1_c0_ : Nat) (a1_c0_0 : Int) {r : Bool} (hm : m_slices_ContainsFunc_api_Window_api_Window__rehearse_There_1 a0 a1_c0_0 = some r) :
  Ctr Tryz.prog 55 [s0_.v, .func (.func 56) #[] [.pointer (some ⟨b1_c0_, 0, none⟩)].toArray].toArray ([] : List Ent) [RdS R113 (SV.v s0_) a0, BoxS b1_c0_ 3 [.int .i64 a1_c0_0]] (X := Unit) (fun _ => .bool r) (fun _ => []) := by
 unfold m_slices_ContainsFunc_api_Window_api_Window__rehearse_There_1 at hm
 refine ctr_mk (vs := [(0, s0_.v), (1, .func (.func 56) #[] [.pointer (some ⟨b1_c0_, 0, none⟩)].toArray)]) Tryz.func55 rfl Tryz.ntmps55 rfl ⟨rfl, rfl, trivial⟩ (fun w0 A => ?_)
 refine cj_seq ?_
 refine cj_reg ?_
 refine lp rfl (p_as rfl) ?_
 refine lj_seq ?_
 refine cj_seq ?_
 refine cj_reg ?_
 refine lp rfl (p_mv rfl) ?_
 refine lp rfl (p_mv rfl) ?_
 obtain ⟨y1, hy1, hm⟩ := bindS hm
 refine r_call [] cf87 rfl rfl (ok_slices_IndexFunc_api_Window_api_Window__rehearse_There_1 s0_ a0 b1_c0_ a1_c0_0 hy1) rfl rfl (.cons (.ro 0 rfl) (.cons (.ro 1 rfl) .nil)) (fun _ => rfl) rfl (fun _ => ?_)
 refine lp rfl (p_geq rfl rfl) ?_
 refine lp rfl (p_as rfl) ?_
 refine lj_seq ?_
 obtain rfl := Option.some.inj hm
 exact cj_rt () [] Tryz.results55 (.tmp rfl .nil) rfl rfl
theorem ok_maps_Keys_map_string_bool_string_bool (m : Nat) : Ctr Tryz.prog 58 [.map (some m)].toArray ([] : List Ent) [] (X := Nat) (fun b => .func (.func 88) #[] [.pointer (some ⟨b, 0, none⟩)].toArray) (fun b => [.box b 107 [.map (some m)]]) := by
 refine ctr_mk (vs := [(0, .map (some m))]) Tryz.func58 rfl Tryz.ntmps58 rfl ⟨rfl, trivial⟩ (fun w0 A => ?_)
 refine cj_seq ?_
 refine cj_reg ?_
 refine r_bx (cs := [.map (some m)]) rfl rfl rfl (fun b => ?_)
 refine lp rfl (p_as rfl) ?_
 refine lj_seq ?_
 refine cj_seq ?_
 refine cj_reg ?_
 refine lp rfl (p_fn (cv := [.pointer (some ⟨b, 0, none⟩)]) rfl) ?_
 refine lp rfl (p_as rfl) ?_
 refine lj_seq ?_
 exact cj_rt b [0] Tryz.results58 (.tmp rfl .nil) rfl rfl
theorem ok_slices_Sorted_string__maps_Keys_map_string_bool_string_bool_1_A (bx mb : Nat) (mes : Array MapEntry) (mcl : Nat) (L : List (ByteArray × Bool)) (hl : L.length ≤ 1000000000) :
  Ctr Tryz.prog 96 [SV.v nilS, .func (.func 88) #[] [.pointer (some ⟨bx, 0, none⟩)].toArray].toArray [.row R9 (SV.v nilS) []] [BoxS bx 107 [.map (some mb)], MapAt kv9 mb (mpV vv4 L) mes mcl] (X := SV × {q : List ByteArray // q.Perm (L.map Prod.fst)}) (fun s => s.1.v) (fun s => [.row R9 (SV.v s.1) s.2.1]) := by
 refine ctr_mkM (vs := [(0, SV.v nilS), (1, .func (.func 88) #[] [.pointer (some ⟨bx, 0, none⟩)].toArray)]) Tryz.func96 rfl Tryz.ntmps96 rfl ⟨rfl, rfl, trivial⟩ (fun w0 A => ?_)
 refine cj_seq ?_
 refine cj_reg ?_
 refine r_bx (cs := [SV.v nilS]) rfl rfl rfl (fun b1 => ?_)
 refine lp rfl (p_as rfl) ?_
 refine lj_seq ?_
 refine cj_seq ?_
 refine cj_seq ?_
 refine cj_reg ?_
 refine lp rfl (p_mv rfl) ?_
 refine lj_seq ?_
 refine cj_keys (γ := SV) (fn := Tryz.f88) (vv := vv4) (ρ := List ByteArray) Tryz.func88 rfl rfl rfl Tryz.underlying107 ty107 cf88 rfl rfl (by kernel_rfl) (by kernel_rfl) (appStep_all (by_ := 16) (by decide) (by rw [List.length_map]; omega)) (fun u g => [.box b1 37 [g.v], .ro (BoxS bx 107 [.map (some mb)]), .ro (MapAt kv9 mb (mpV vv4 L) mes mcl), .row R9 (SV.v g) u]) nilS (fun _ h => h.picks [0, 1, 1, 0] rfl) (fun _ _ => (.ro 1 rfl)) (fun _ _ => (.ro 2 rfl)) (fun u g D aft => ?_) (fun i x u g k hs o1 o2 o3 oi I I0 hend hmid => ?_)
 ·refine nj_seq ?_
  refine cj_seq ?_
  refine cj_reg ?_
  refine lp rfl (p_lbs ty37 rfl (j := 1) rfl rfl) ?_
  refine lp rfl (p_as rfl) ?_
  refine lj_seq ?_
  exact cj_rtM 0 (g, ⟨u, KfP_brk aft⟩) [4] Tryz.results96 rfl (.tmp rfl .nil) rfl rfl
 ·have hm := hs
  refine cj_reg ?_
  refine lp rfl (p_as rfl) ?_
  refine lj_nil ?_
  refine hmid _ _ [.obj oi, .box b1 37 [g.v], .ro (BoxS bx 107 [.map (some mb)]), .ro (MapAt kv9 mb (mpV vv4 L) mes mcl), .row R9 (SV.v g) u] (fun _ h => h.picks [0, 0, 0, 0, 0, 0, 0] rfl) ?_
  refine cj_blk ?_
  refine cj_reg ?_
  refine lp rfl (p_lbs ty37 rfl (j := 3) rfl rfl) ?_
  refine lp rfl (p_mv rfl) ?_
  refine r_bs R9 [x] rfl rfl rfl (fun _ => by kernel_rfl) rfl (fun s13 => ?_)
  obtain ⟨q, hq, hm⟩ := bindS hm
  refine r_app (k := 7) Tryz.underlying37 ty9 rfl rfl rfl rfl (.row 0 rfl) hq rfl (fun s15 => ?_)
  refine r_sb (vs := [s15.v]) (j := 4) ty37 rfl rfl rfl rfl rfl rfl rfl ?_
  refine lj_nil ?_
  refine nj_blk ?_
  exact hend _ _ q s15 (Option.some.inj hm).symm (fun _ h => h.picks [1, 1, 1, 1, 1, 1, 1] rfl)
theorem ok_slices_Sorted_string__maps_Keys_map_string_bool_string_bool_1_C (bx mb : Nat) (mes : Array MapEntry) (mcl : Nat) (L : List (ByteArray × Bool)) (hl : L.length ≤ 1000000000) :
  Ctr Tryz.prog 71 [.func (.func 88) #[] [.pointer (some ⟨bx, 0, none⟩)].toArray].toArray ([] : List Ent) [BoxS bx 107 [.map (some mb)], MapAt kv9 mb (mpV vv4 L) mes mcl] (X := SV × {q : List ByteArray // q.Perm (L.map Prod.fst)}) (fun s => s.1.v) (fun s => [.row R9 (SV.v s.1) s.2.1]) := by
 refine ctr_mk (vs := [(0, .func (.func 88) #[] [.pointer (some ⟨bx, 0, none⟩)].toArray)]) Tryz.func71 rfl Tryz.ntmps71 rfl ⟨rfl, trivial⟩ (fun w0 A => ?_)
 refine cj_seq ?_
 refine cj_reg ?_
 refine lp rfl (p_as rfl) ?_
 refine lj_seq ?_
 refine cj_seq ?_
 refine cj_reg ?_
 refine lp rfl (p_mv rfl) ?_
 refine r_nil R9 ?_
 refine r_call [0] cf96 rfl rfl (ok_slices_Sorted_string__maps_Keys_map_string_bool_string_bool_1_A bx mb mes mcl L hl) rfl rfl (.cons (.ro 0 rfl) (.cons (.ro 1 rfl) .nil)) (fun _ => rfl) rfl (fun s3 => ?_)
 refine lp rfl (p_as rfl) ?_
 refine lj_seq ?_
 exact cj_rt s3 [0] Tryz.results71 (.tmp rfl .nil) rfl rfl
theorem ok_slices_Sorted_string__maps_Keys_map_string_bool_string_bool_1 (bx mb : Nat) (mes : Array MapEntry) (mcl : Nat) (L : List (ByteArray × Bool)) {r : List ByteArray} (hm : m_slices_Sorted_string__maps_Keys_map_string_bool_string_bool_1 L = some r) :
  Ctr Tryz.prog 40 [.func (.func 88) #[] [.pointer (some ⟨bx, 0, none⟩)].toArray].toArray ([] : List Ent) [BoxS bx 107 [.map (some mb)], MapAt kv9 mb (mpV vv4 L) mes mcl] (X := SV) (fun s => s.v) (fun s => [.row R9 (SV.v s) r]) := by
 unfold m_slices_Sorted_string__maps_Keys_map_string_bool_string_bool_1 at hm
 split at hm
 case isFalse => cases hm
 rename_i hl
 refine ctr_mk (vs := [(0, .func (.func 88) #[] [.pointer (some ⟨bx, 0, none⟩)].toArray)]) Tryz.func40 rfl Tryz.ntmps40 rfl ⟨rfl, trivial⟩ (fun w0 A => ?_)
 refine cj_seq ?_
 refine cj_reg ?_
 refine lp rfl (p_as rfl) ?_
 refine lj_seq ?_
 refine cj_seq ?_
 refine cj_reg ?_
 refine lp rfl (p_mv rfl) ?_
 refine r_call [] cf71 rfl rfl (ok_slices_Sorted_string__maps_Keys_map_string_bool_string_bool_1_C bx mb mes mcl L hl) rfl rfl (.cons (.ro 0 rfl) (.cons (.ro 1 rfl) .nil)) (fun _ => rfl) rfl (fun s2 => ?_)
 obtain ⟨s2, q, hq⟩ := s2
 have hm := (m_Sort_perm hq).trans hm
 refine lp rfl (p_as rfl) ?_
 refine lj_seq ?_
 refine cj_seq ?_
 refine cj_reg ?_
 refine lp rfl (p_mv rfl) ?_
 refine r_call [0] cf72 rfl rfl (ok_slices_Sort_string_string s2 q hm) rfl rfl .nil (fun _ => rfl) rfl (fun _ => ?_)
 refine lj_seq ?_
 refine cj_seq ?_
 refine cj_reg ?_
 refine lp rfl (p_mv rfl) ?_
 refine lp rfl (p_as rfl) ?_
 refine lj_seq ?_
 exact cj_rt s2 [0] Tryz.results40 (.tmp rfl .nil) rfl rfl
theorem ok_rehearse_There (s0_ : SV) (a0 : (List TCame)) (a1 : Int) {r : (List ByteArray) × Int} (hm : m_rehearse_There a0 a1 = some r) :
  Ctr Tryz.prog 26 [s0_.v, .int .i64 a1].toArray ([] : List Ent) [RdS R71 (SV.v s0_) a0] (X := SV) (fun s => .tuple [s.v, .int .i64 r.2].toArray) (fun s => [.row R9 (SV.v s) r.1]) := by
 unfold m_rehearse_There at hm
 refine ctr_mk (vs := [(0, s0_.v), (1, .int .i64 a1)]) Tryz.func26 rfl Tryz.ntmps26 rfl ⟨rfl, rfl, trivial⟩ (fun w0 A => ?_)
 refine cj_seq ?_
 refine cj_reg ?_
 refine r_bx (cs := [.int .i64 a1]) rfl rfl rfl (fun b1 => ?_)
 refine lp rfl (p_as rfl) ?_
 refine lp rfl (p_as rfl) ?_
 refine lj_seq ?_
 refine cj_seq ?_
 refine cj_seq ?_
 refine cj_reg ?_
 refine lp rfl (p_mv rfl) ?_
 obtain ⟨y2, hy2, hm⟩ := bindS hm
 refine r_call [] cf53 rfl rfl (ok_rehearse_CheckCame s0_ a0 hy2) rfl rfl (.cons (.ro 1 rfl) .nil) (fun _ => rfl) rfl (fun _ => ?_)
 refine lp rfl (p_as rfl) ?_
 refine lj_seq ?_
 refine cj_seq ?_
 refine cj_reg ?_
 refine lp rfl (p_mv rfl) ?_
 refine lp rfl (p_neq rfl rfl) ?_
 refine lj_seq ?_
 refine cj_if (b := y2 != 0) rfl (fun hb => ?_) (fun hb => ?_)
 ·have hm := ifB_t hb hm
  refine cj_seq ?_
  refine cj_reg ?_
  refine lp rfl (p_mv rfl) ?_
  refine lp rfl (p_as rfl) ?_
  refine lp rfl (p_as rfl) ?_
  refine lj_seq ?_
  obtain rfl := Option.some.inj hm
  refine cj_nil R9 ?_
  exact cj_rt nilS [0] Tryz.results26 (.tmp rfl (.tmp rfl .nil)) rfl rfl
 ·have hm := ifB_f hb hm
  refine cj_skip ?_
  refine nj_seq ?_
  refine cj_seq ?_
  refine cj_seq ?_
  refine cj_reg ?_
  refine lp rfl (p_lbs ty3 rfl (j := 0) rfl rfl) ?_
  obtain ⟨y4, hy4, hm⟩ := bindS hm
  refine r_call [] cf44 rfl rfl (ok_kit_IsMoment a1 hy4) rfl rfl .nil (fun _ => rfl) rfl (fun _ => ?_)
  refine lp rfl (p_not rfl) ?_
  refine lj_seq ?_
  refine cj_if (b := !y4) rfl (fun hb => ?_) (fun hb => ?_)
  ·have hm := ifB_t hb hm
   refine cj_seq ?_
   refine cj_reg ?_
   refine lp rfl (p_as rfl) ?_
   refine lp rfl (p_as rfl) ?_
   refine lj_seq ?_
   obtain rfl := Option.some.inj hm
   refine cj_nil R9 ?_
   exact cj_rt nilS [0] Tryz.results26 (.tmp rfl (.tmp rfl .nil)) rfl rfl
  ·have hm := ifB_f hb hm
   refine cj_skip ?_
   refine nj_seq ?_
   refine cj_seq ?_
   refine cj_reg ?_
   refine r_mkmap kv9 vv4 rfl (fun b6 => ?_)
   refine lp rfl (p_as rfl) ?_
   refine lj_seq ?_
   refine cj_seq ?_
   refine cj_seq ?_
   refine cj_reg ?_
   refine lp rfl (p_mv rfl) ?_
   obtain ⟨y7, hy7, hm⟩ := bindS hm
   refine r_call [] cf54 rfl rfl (ok_rehearse_presences s0_ a0 hy7) rfl rfl (.cons (.ro 2 rfl) .nil) (fun _ => rfl) rfl (fun ⟨b8, gz9, gz10, gz11⟩ => ?_)
   refine r_rng (vv := SV.v) Tryz.underlying108 (.imp (.fam 0 rfl) (fun _ h => h.map)) rfl rfl (fun b12 hrb13 => ?_)
   refine lj_seq ?_
   refine cj_pure (F := FamAt kv9 SV.v (rowE R113) b8 y7 gz9 none gz10 gz11) (.fam 1 rfl) (fun _ h => h.kys) (fun hky19 => ?_)
   refine cj_fact (F := fun _ => KeptK (y7.map Prod.fst) gz10 gz11 gz9 gz10 gz11) (.tru (KeptK.refl _ hky19)) ?_
   have hsq := anyOrd_spec hm
   refine cj_frange (γ := (Array MapEntry × Nat)) (vv := SV.v) (fun u21 g22 => gz9) (fun u21 g22 => gz10) (fun u21 g22 => gz11) (fun L hL => hsq L hL) hrb13 (#[], 0) (fun u21 g22 => [(3, .pointer (some ⟨b1, 0, none⟩)), (4, .slice none 0 0), (5, .int .i64 0), (7, .map (some b6))]) (fun u21 g22 => [.ro (fun _ => KeptK (y7.map Prod.fst) gz10 gz11 gz9 gz10 gz11), .obj (famO kv9 SV.v (rowE R113) b8 y7 gz9 none gz10 gz11), .obj (mapO kv9 b6 (mpV vv4 u21) g22.1 g22.2), .box b1 3 [.int .i64 a1]]) ⟨rfl, rfl, rfl, rfl, rfl, trivial⟩ (fun _ h => h.picks [1, 0, 0, 0, 0] rfl) (fun _ _ => .and (.imp (.fam 1 rfl) (fun _ h => h.map)) (.ro 0 rfl)) (fun _ _ => ⟨rfl, rfl, rfl⟩) ⟨rfl, rfl, rfl⟩ rfl rfl (fun u21 g22 e => ?_) (fun aftk23 i14 x15 u21 g22 idx18 ix17 k23 hx16 hs J hJk23 hBk23 hX I cnk23 => ?_)
   ·have hm := Flow.fin_b (f := .brk u21) rfl e
    refine NJ.sat (fun _ h => h.picks [1, 1, 1] rfl) ?_
    refine nj_seq ?_
    refine cj_seq ?_
    refine cj_reg ?_
    refine lp rfl (p_mv rfl) ?_
    refine r_call [] cf58 rfl rfl (ok_maps_Keys_map_string_bool_string_bool b6) rfl rfl .nil (fun _ => rfl) rfl (fun b29 => ?_)
    refine r_fzb 0 rfl ?_
    obtain ⟨y30, hy30, hm⟩ := bindS hm
    refine r_call [] cf40 rfl rfl (ok_slices_Sorted_string__maps_Keys_map_string_bool_string_bool_1 b29 b6 g22.1 g22.2 u21 hy30) rfl rfl (.cons (.ro 0 rfl) (.cons (.map 2 rfl) .nil)) (fun _ => rfl) rfl (fun s31 => ?_)
    refine lp rfl (p_as rfl) ?_
    refine lp rfl (p_as rfl) ?_
    refine lj_seq ?_
    obtain rfl := Option.some.inj hm
    exact cj_rt s31 [0] Tryz.results26 (.tmp rfl (.tmp rfl .nil)) rfl rfl
   ·have hRk23 : ∀ t, k23 = .ret t → some t = some r := fun t e => hX t e
    have hm := hs
    refine cj_pure (F := fun _ => KeptK (y7.map Prod.fst) gz10 gz11 gz9 gz10 gz11) (.ro 1 rfl) (fun _ h => h) (fun hkp25 => ?_)
    refine cj_seq ?_
    refine cj_reg ?_
    refine lp rfl (p_entF (n := 0) (k := x15) (z := nilS) (.fam 2 rfl) hkp25 rfl hx16 rfl) ?_
    refine lp rfl (p_ext rfl rfl) ?_
    refine lp rfl (p_ext rfl rfl) ?_
    refine lp rfl (p_as rfl) ?_
    refine lp rfl (p_as rfl) ?_
    refine lj_seq ?_
    refine cj_seq ?_
    refine cj_reg ?_
    refine lp rfl (p_mv rfl) ?_
    refine lp rfl (p_fn (cv := [.pointer (some ⟨b1, 0, none⟩)]) rfl) ?_
    obtain ⟨y26, hy26, hm⟩ := bindS hm
    refine r_call [] cf55 rfl rfl (ok_slices_ContainsFunc_api_Window_api_Window__rehearse_There_1 ((lkM gz9 x15).getD nilS) ((lkM y7 x15).getD []) b1 a1 hy26) rfl rfl (.cons (.imp (.fam 2 rfl) (fun _ h => h.look x15)) (.cons (.imp (.box 4 rfl) (fun _ h => h)) .nil)) (fun _ => rfl) rfl (fun _ => ?_)
    refine lj_seq ?_
    refine cj_if (b := y26) rfl (fun hb => ?_) (fun hb => ?_)
    ·have hm := ifB_t hb hm
     refine cj_reg ?_
     refine lp rfl (p_mv rfl) ?_
     refine lp rfl (p_mv rfl) ?_
     refine r_mpu (j := 3) (vv := vv4) (k := x15) (v := true) Tryz.underlying107 keyF9 rfl rfl rfl rfl (fun es27 cl28 => ?_)
     refine lj_nil ?_
     refine nj_blk ?_
     exact cnk23 _ _ (putM u21 x15 true) (es27, cl28) (hJk23 _ (Option.some.inj hm).symm) ⟨rfl, rfl, rfl, rfl, rfl, trivial⟩ (fun _ h => h.picks [0, 0, 0, 0, 0] rfl)
    ·have hm := ifB_f hb hm
     refine cj_skip ?_
     refine nj_blk ?_
     exact cnk23 _ _ u21 (g22.1, g22.2) (hJk23 _ (Option.some.inj hm).symm) ⟨rfl, rfl, rfl, rfl, rfl, trivial⟩ (fun _ h => h.picks [0, 0, 0, 0, 0] rfl)
theorem ok_concert_CheckItems_1 (a0 : TItem) (s0_3_ : SV) (b1_ : Nat) (a1_0 : ByteArray) (a1_1 : ByteArray) (a1_2 : Int) (s1_3_ : SV) (a1_3 : (List ByteArray)) {r : Bool} (hm : m_concert_CheckItems_1 a0 a1_0 a1_1 a1_2 a1_3 = some r) :
  Ctr Tryz.prog 108 [.agg [.string a0.Key, .string a0.Places, .int .i64 a0.Long, s0_3_.v].toArray, .pointer (some ⟨b1_, 0, none⟩)].toArray ([] : List Ent) [RdS R9 (SV.v s0_3_) a0.Parts, BoxS b1_ 75 [.string a1_0, .string a1_1, .int .i64 a1_2, s1_3_.v], RdS R9 (SV.v s1_3_) a1_3] (X := Unit) (fun _ => .bool r) (fun _ => []) := by
 unfold m_concert_CheckItems_1 at hm
 refine ctr_mk (vs := [(0, .agg [.string a0.Key, .string a0.Places, .int .i64 a0.Long, s0_3_.v].toArray), (1, .pointer (some ⟨b1_, 0, none⟩))]) Tryz.func108 rfl Tryz.ntmps108 rfl ⟨rfl, rfl, trivial⟩ (fun w0 A => ?_)
 refine cj_seq ?_
 refine cj_reg ?_
 refine r_bx (cs := [.string a0.Key, .string a0.Places, .int .i64 a0.Long, s0_3_.v]) rfl rfl rfl (fun b1 => ?_)
 refine lp rfl (p_as rfl) ?_
 refine lj_seq ?_
 refine cj_seq ?_
 refine cj_reg ?_
 refine lp rfl (p_fab fl75_0 rfl) ?_
 refine lp rfl (p_lbs ty9 rfl (j := 0) rfl rfl) ?_
 refine lp rfl (p_fab fl75_0 rfl) ?_
 refine lp rfl (p_rbs ty9 rfl (.ro 2 rfl) rfl) ?_
 refine lp rfl (p_eqs rfl rfl) ?_
 refine lp rfl (p_as rfl) ?_
 refine lj_seq ?_
 obtain rfl := Option.some.inj hm
 exact cj_rt () [] Tryz.results108 (.tmp rfl .nil) rfl rfl
theorem ok_slices_IndexFunc_api_Item_api_Item__concert_CheckItems_1 (s0_ : SV) (xg0_ : List (TItem × SV)) (a0 : (List TItem)) (b1_c0_ : Nat) (a1_c0_0 : ByteArray) (a1_c0_1 : ByteArray) (a1_c0_2 : Int) (s1_c0_3_ : SV) (a1_c0_3 : (List ByteArray)) {r : Int} (hm : m_slices_IndexFunc_api_Item_api_Item__concert_CheckItems_1 a0 a1_c0_0 a1_c0_1 a1_c0_2 a1_c0_3 = some r) :
  Ctr Tryz.prog 138 [s0_.v, .func (.func 108) #[] [.pointer (some ⟨b1_c0_, 0, none⟩)].toArray].toArray ([] : List Ent) [Lk N75 a0 xg0_, RdS N75.R (SV.v s0_) xg0_, BoxS b1_c0_ 75 [.string a1_c0_0, .string a1_c0_1, .int .i64 a1_c0_2, s1_c0_3_.v], RdS R9 (SV.v s1_c0_3_) a1_c0_3] (X := Unit) (fun _ => .int .i64 r) (fun _ => []) := by
 unfold m_slices_IndexFunc_api_Item_api_Item__concert_CheckItems_1 at hm
 refine ctr_mk (vs := [(0, s0_.v), (1, .func (.func 108) #[] [.pointer (some ⟨b1_c0_, 0, none⟩)].toArray)]) Tryz.func138 rfl Tryz.ntmps138 rfl ⟨rfl, rfl, trivial⟩ (fun w0 A => ?_)
 refine cj_pure (F := Lk N75 a0 xg0_) (.ro 0 rfl) (fun _ h => h.1) (fun hL0_ => ?_)
 refine cj_seq ?_
 refine cj_reg ?_
 refine lp rfl (p_as rfl) ?_
 refine lj_seq ?_
 refine cj_seq ?_
 refine cj_seq ?_
 refine cj_reg ?_
 refine lp rfl (p_mv rfl) ?_
 refine lp rfl (p_lenG hL0_ Tryz.underlying76 rfl (.ro 1 rfl)) ?_
 refine lp rfl (p_mv rfl) ?_
 refine lj_seq ?_
 obtain ⟨f7, hf7, hm⟩ := bindS hm
 refine cj_range (γ := Unit) (m := (a0.length : Int)) hf7 () (fun u4 g5 => [(0, s0_.v), (1, .func (.func 108) #[] [.pointer (some ⟨b1_c0_, 0, none⟩)].toArray), (4, .int .i64 0)]) (fun u4 g5 => Sat w0 (keys ([] : List Ent)) A [.ro (Lk N75 a0 xg0_), .ro (RdS N75.R (SV.v s0_) xg0_), .ro (BoxS b1_c0_ 75 [.string a1_c0_0, .string a1_c0_1, .int .i64 a1_c0_2, s1_c0_3_.v]), .ro (RdS R9 (SV.v s1_c0_3_) a1_c0_3)]) ⟨rfl, rfl, rfl, rfl, rfl, trivial⟩ (fun _ h => h.picks [0, 0, 0, 0] rfl) (nat_lt _) (fun _ h => by have h1 := (FactAt.get (F := RdS N75.R (SV.v s0_) xg0_) (.ro 1 rfl) h).1; rw [lk_len hL0_] at h1; exact h1) (fun _ _ => ⟨rfl, rfl, rfl, rfl⟩) ⟨rfl, rfl, rfl, rfl, rfl⟩ rfl rfl rfl (fun u4 g5 e => ?_) (fun aftk6 i1 x2 u4 g5 k6 hx3 hs J hJk6 hBk6 hX I cnk6 => ?_)
 ·have hm := Flow.fin_b e hm
  refine nj_seq ?_
  refine cj_seq ?_
  refine cj_reg ?_
  refine lp rfl (p_as rfl) ?_
  refine lj_seq ?_
  obtain rfl := Option.some.inj hm
  exact cj_rt () [] Tryz.results138 (.tmp rfl .nil) rfl rfl
 ·have hRk6 : ∀ t, k6 = .ret t → some t = some r := fun t e => by rw [hX t e] at hm; exact hm
  have hm := hs
  refine cj_seq ?_
  refine cj_reg ?_
  refine lp rfl (p_mv rfl) ?_
  refine lp rfl (p_as rfl) ?_
  refine lj_seq ?_
  refine cj_seq ?_
  refine cj_reg ?_
  refine lp rfl (p_mv rfl) ?_
  refine lp rfl (p_mv rfl) ?_
  refine lp rfl (p_mv rfl) ?_
  obtain ⟨gx2, hx3G⟩ := lk_get hL0_ hx3
  refine lp rfl (p_idx Tryz.underlying76 ty75 rfl rfl (.ro 1 rfl) (getI_nat.trans hx3G)) ?_
  refine lp rfl (p_leaN (cs := [.string x2.Key, .string x2.Places, .int .i64 x2.Long, gx2.v]) ty75 rfl (.ro 1 rfl) hx3G rfl) ?_
  obtain ⟨y8, hy8, hm⟩ := bindS hm
  refine r_call [] cf108 rfl rfl (ok_concert_CheckItems_1 x2 gx2 b1_c0_ a1_c0_0 a1_c0_1 a1_c0_2 s1_c0_3_ a1_c0_3 hy8) rfl rfl (.cons (.imp (.ro 0 rfl) (fun _ h => (Lk.at_ h hx3G))) (.cons (.ro 2 rfl) (.cons (.ro 3 rfl) .nil))) (fun _ => rfl) rfl (fun _ => ?_)
  refine lj_seq ?_
  refine cj_if (b := y8) rfl (fun hb => ?_) (fun hb => ?_)
  ·have hm := ifB_t hb hm
   refine cj_seq ?_
   refine cj_reg ?_
   refine lp rfl (p_mv rfl) ?_
   refine lp rfl (p_as rfl) ?_
   refine lj_seq ?_
   have hm := hRk6 _ (Option.some.inj hm).symm
   obtain rfl := Option.some.inj hm
   exact cj_rt () [] Tryz.results138 (.tmp rfl .nil) rfl rfl
  ·have hm := ifB_f hb hm
   refine cj_skip ?_
   refine nj_blk ?_
   exact cnk6 _ _ () () (hJk6 _ (Option.some.inj hm).symm) ⟨rfl, rfl, rfl, rfl, rfl, trivial⟩ (fun _ h => h.picks [0, 0, 0, 0] rfl)
theorem ok_slices_ContainsFunc_api_Item_api_Item__concert_CheckItems_1 (s0_ : SV) (xg0_ : List (TItem × SV)) (a0 : (List TItem)) (b1_c0_ : Nat) (a1_c0_0 : ByteArray) (a1_c0_1 : ByteArray) (a1_c0_2 : Int) (s1_c0_3_ : SV) (a1_c0_3 : (List ByteArray)) {r : Bool} (hm : m_slices_ContainsFunc_api_Item_api_Item__concert_CheckItems_1 a0 a1_c0_0 a1_c0_1 a1_c0_2 a1_c0_3 = some r) :
  Ctr Tryz.prog 107 [s0_.v, .func (.func 108) #[] [.pointer (some ⟨b1_c0_, 0, none⟩)].toArray].toArray ([] : List Ent) [Lk N75 a0 xg0_, RdS N75.R (SV.v s0_) xg0_, BoxS b1_c0_ 75 [.string a1_c0_0, .string a1_c0_1, .int .i64 a1_c0_2, s1_c0_3_.v], RdS R9 (SV.v s1_c0_3_) a1_c0_3] (X := Unit) (fun _ => .bool r) (fun _ => []) := by
 unfold m_slices_ContainsFunc_api_Item_api_Item__concert_CheckItems_1 at hm
 refine ctr_mk (vs := [(0, s0_.v), (1, .func (.func 108) #[] [.pointer (some ⟨b1_c0_, 0, none⟩)].toArray)]) Tryz.func107 rfl Tryz.ntmps107 rfl ⟨rfl, rfl, trivial⟩ (fun w0 A => ?_)
 refine cj_pure (F := Lk N75 a0 xg0_) (.ro 0 rfl) (fun _ h => h.1) (fun hL0_ => ?_)
 refine cj_seq ?_
 refine cj_reg ?_
 refine lp rfl (p_as rfl) ?_
 refine lj_seq ?_
 refine cj_seq ?_
 refine cj_reg ?_
 refine lp rfl (p_mv rfl) ?_
 refine lp rfl (p_mv rfl) ?_
 obtain ⟨y1, hy1, hm⟩ := bindS hm
 refine r_call [] cf138 rfl rfl (ok_slices_IndexFunc_api_Item_api_Item__concert_CheckItems_1 s0_ xg0_ a0 b1_c0_ a1_c0_0 a1_c0_1 a1_c0_2 s1_c0_3_ a1_c0_3 hy1) rfl rfl (.cons (.ro 0 rfl) (.cons (.ro 1 rfl) (.cons (.ro 2 rfl) (.cons (.ro 3 rfl) .nil)))) (fun _ => rfl) rfl (fun _ => ?_)
 refine lp rfl (p_geq rfl rfl) ?_
 refine lp rfl (p_as rfl) ?_
 refine lj_seq ?_
 obtain rfl := Option.some.inj hm
 exact cj_rt () [] Tryz.results107 (.tmp rfl .nil) rfl rfl
theorem ok_concert_partsFault (s0_ : SV) (a0 : (List ByteArray)) {r : Int} (hm : m_concert_partsFault a0 = some r) :
  Ctr Tryz.prog 109 [s0_.v].toArray ([] : List Ent) [RdS R9 (SV.v s0_) a0] (X := Unit) (fun _ => .int .i64 r) (fun _ => []) := by
 unfold m_concert_partsFault at hm
 refine ctr_mk (vs := [(0, s0_.v)]) Tryz.func109 rfl Tryz.ntmps109 rfl ⟨rfl, trivial⟩ (fun w0 A => ?_)
 refine cj_seq ?_
 refine cj_reg ?_
 refine lp rfl (p_as rfl) ?_
 refine lj_seq ?_
 refine cj_seq ?_
 refine cj_seq ?_
 refine cj_reg ?_
 refine lp rfl (p_mv rfl) ?_
 refine lp rfl (p_len Tryz.underlying37 rfl (.ro 0 rfl)) ?_
 refine lp rfl (p_eql rfl rfl) ?_
 refine lj_seq ?_
 refine cj_if (b := (a0.length : Int) == 0) rfl (fun hb => ?_) (fun hb => ?_)
 ·have hm := ifB_t hb hm
  refine cj_seq ?_
  refine cj_reg ?_
  refine lp rfl (p_as rfl) ?_
  refine lj_seq ?_
  obtain rfl := Option.some.inj hm
  exact cj_rt () [] Tryz.results109 (.tmp rfl .nil) rfl rfl
 ·have hm := ifB_f hb hm
  refine cj_skip ?_
  refine nj_seq ?_
  refine cj_seq ?_
  refine cj_seq ?_
  refine cj_reg ?_
  refine lp rfl (p_mv rfl) ?_
  refine lp rfl (p_len Tryz.underlying37 rfl (.ro 0 rfl)) ?_
  refine lp rfl (p_gtr rfl rfl) ?_
  refine lj_seq ?_
  refine cj_if (b := decide ((a0.length : Int) > 12)) rfl (fun hb => ?_) (fun hb => ?_)
  ·have hm := ifB_t hb hm
   refine cj_seq ?_
   refine cj_reg ?_
   refine lp rfl (p_as rfl) ?_
   refine lj_seq ?_
   obtain rfl := Option.some.inj hm
   exact cj_rt () [] Tryz.results109 (.tmp rfl .nil) rfl rfl
  ·have hm := ifB_f hb hm
   refine cj_skip ?_
   refine nj_seq ?_
   refine cj_seq ?_
   refine cj_seq ?_
   refine cj_reg ?_
   refine lp rfl (p_mv rfl) ?_
   refine lp rfl (p_len Tryz.underlying37 rfl (.ro 0 rfl)) ?_
   refine lp rfl (p_mv rfl) ?_
   refine lj_seq ?_
   obtain ⟨f7, hf7, hm⟩ := bindS hm
   refine cj_range (γ := Unit) (m := (a0.length : Int)) hf7 () (fun u4 g5 => [(0, s0_.v), (2, .int .i64 0), (11, s0_.v)]) (fun u4 g5 => Sat w0 (keys ([] : List Ent)) A [.ro (RdS R9 (SV.v s0_) a0)]) ⟨rfl, rfl, rfl, rfl, rfl, trivial⟩ (fun _ h => h.picks [0] rfl) (nat_lt _) (fun _ h => (FactAt.get (F := RdS R9 (SV.v s0_) a0) (.ro 0 rfl) h).1) (fun _ _ => ⟨rfl, rfl, rfl, rfl⟩) ⟨rfl, rfl, rfl, rfl, rfl⟩ rfl rfl rfl (fun u4 g5 e => ?_) (fun aftk6 i1 x2 u4 g5 k6 hx3 hs J hJk6 hBk6 hX I cnk6 => ?_)
   ·have hm := Flow.fin_b e hm
    refine nj_seq ?_
    refine cj_seq ?_
    refine cj_reg ?_
    refine lp rfl (p_as rfl) ?_
    refine lj_seq ?_
    obtain rfl := Option.some.inj hm
    exact cj_rt () [] Tryz.results109 (.tmp rfl .nil) rfl rfl
   ·have hRk6 : ∀ t, k6 = .ret t → some t = some r := fun t e => by rw [hX t e] at hm; exact hm
    have hm := hs
    refine cj_seq ?_
    refine cj_reg ?_
    refine lp rfl (p_mv rfl) ?_
    refine lp rfl (p_idx Tryz.underlying37 ty9 rfl rfl (.ro 0 rfl) (getI_nat.trans hx3)) ?_
    refine lp rfl (p_lde (o := 0) ty9 rfl rfl (.ro 0 rfl) hx3 rfl) ?_
    refine lp rfl (p_as rfl) ?_
    refine lp rfl (p_as rfl) ?_
    refine lj_seq ?_
    refine cj_seq ?_
    refine cj_seq ?_
    refine cj_reg ?_
    refine lp rfl (p_mv rfl) ?_
    obtain ⟨y8, hy8, hm⟩ := bindS hm
    refine r_call [] cf84 rfl rfl (ok_kit_IsKey x2 hy8) rfl rfl .nil (fun _ => rfl) rfl (fun _ => ?_)
    refine lp rfl (p_not rfl) ?_
    refine lj_seq ?_
    refine cj_if (b := !y8) rfl (fun hb => ?_) (fun hb => ?_)
    ·have hm := ifB_t hb hm
     refine cj_seq ?_
     refine cj_reg ?_
     refine lp rfl (p_as rfl) ?_
     refine lj_seq ?_
     have hm := hRk6 _ (Option.some.inj hm).symm
     obtain rfl := Option.some.inj hm
     exact cj_rt () [] Tryz.results109 (.tmp rfl .nil) rfl rfl
    ·have hm := ifB_f hb hm
     refine cj_skip ?_
     refine nj_seq ?_
     refine cj_seq ?_
     refine cj_reg ?_
     obtain ⟨k11, hk11, hm⟩ := bindS hm
     have hRk11 : ∀ t, k11 = .inr t → some t = some k6 := fun t e => by rw [e] at hm; exact hm
     refine lj_join (σ := Bool) (γ := Unit) (fun u9 => k11 = .inl u9) (fun u9 g10 => [(0, s0_.v), (2, .int .i64 0), (11, s0_.v), (12, .int .i64 (a0.length : Int)), (13, .int .i64 (i1 : Int)), (31, .bool u9)]) (fun u9 g10 => Sat w0 (keys ([] : List Ent)) A [.ro (RdS R9 (SV.v s0_) a0)]) (fun u9 g10 hq => ?_) (fun J cnk11 => ?_)
     ·have hm := Sum.fin_l hq hm
      refine cj_if (b := u9) rfl (fun hb => ?_) (fun hb => ?_)
      ·have hm := ifB_t hb hm
       refine cj_seq ?_
       refine cj_reg ?_
       refine lp rfl (p_as rfl) ?_
       refine lj_seq ?_
       have hm := hRk6 _ (Option.some.inj hm).symm
       obtain rfl := Option.some.inj hm
       exact cj_rt () [] Tryz.results109 (.tmp rfl .nil) rfl rfl
      ·have hm := ifB_f hb hm
       refine cj_skip ?_
       refine nj_blk ?_
       exact cnk6 _ _ () () (hJk6 _ (Option.some.inj hm).symm) ⟨rfl, rfl, rfl, rfl, rfl, trivial⟩ (fun _ h => h.picks [0] rfl)
     ·have hm := hk11
      refine lp rfl (p_mv rfl) ?_
      refine lp rfl (p_gtr rfl rfl) ?_
      refine lp rfl (p_mv rfl) ?_
      refine lcase (i := 23) (decide ((i1 : Int) > 0)) rfl (fun hb => ?_) (fun hb => ?_)
      ·have hm := ifB_t hb hm
       refine lg true rfl rfl rfl ?_
       refine lp rfl (p_mv rfl) ?_
       refine lg true rfl rfl rfl ?_
       refine lp rfl (p_mv rfl) ?_
       refine lg true rfl rfl rfl ?_
       refine lp rfl (p_mv rfl) ?_
       refine lg true rfl rfl rfl ?_
       refine lp rfl (p_sub rfl rfl) ?_
       refine lg true rfl rfl rfl ?_
       obtain ⟨e12, he12, hm⟩ := bindS hm
       refine lp rfl (p_idx Tryz.underlying37 ty9 rfl rfl (.ro 0 rfl) he12) ?_
       refine lg true rfl rfl rfl ?_
       refine lp rfl (p_lde (o := 0) ty9 rfl rfl (.ro 0 rfl) (getI_spec he12).2 rfl) ?_
       refine lg true rfl rfl rfl ?_
       refine lp rfl (p_les rfl rfl) ?_
       refine lp rfl (p_pkt rfl rfl) ?_
       refine lj_nil ?_
       exact cnk11 _ _ (Op.bytesLess x2.toList e12.toList || x2.toList == e12.toList) () (Option.some.inj hm).symm ⟨rfl, rfl, rfl, rfl, rfl, rfl, trivial⟩ (fun _ h => h.picks [0] rfl)
      ·have hm := ifB_f hb hm
       refine ls true rfl rfl rfl rfl ?_
       refine ls true rfl rfl rfl rfl ?_
       refine ls true rfl rfl rfl rfl ?_
       refine ls true rfl rfl rfl rfl ?_
       refine ls true rfl rfl rfl rfl ?_
       refine ls true rfl rfl rfl rfl ?_
       refine ls true rfl rfl rfl rfl ?_
       refine lp rfl (p_pkf rfl rfl) ?_
       refine lj_nil ?_
       exact cnk11 _ _ false () (Option.some.inj hm).symm ⟨rfl, rfl, rfl, rfl, rfl, rfl, trivial⟩ (fun _ h => h.picks [0] rfl)
theorem ok_concert_CheckItems (s0_ : SV) (xg0_ : List (TItem × SV)) (a0 : (List TItem)) {r : Int} (hm : m_concert_CheckItems a0 = some r) :
  Ctr Tryz.prog 89 [s0_.v].toArray ([] : List Ent) [Lk N75 a0 xg0_, RdS N75.R (SV.v s0_) xg0_] (X := Unit) (fun _ => .int .i64 r) (fun _ => []) := by
 unfold m_concert_CheckItems at hm
 refine ctr_mk (vs := [(0, s0_.v)]) Tryz.func89 rfl Tryz.ntmps89 rfl ⟨rfl, trivial⟩ (fun w0 A => ?_)
 refine cj_pure (F := Lk N75 a0 xg0_) (.ro 0 rfl) (fun _ h => h.1) (fun hL0_ => ?_)
 refine cj_seq ?_
 refine cj_reg ?_
 refine lp rfl (p_as rfl) ?_
 refine lj_seq ?_
 refine cj_seq ?_
 refine cj_seq ?_
 refine cj_reg ?_
 refine lp rfl (p_mv rfl) ?_
 refine lp rfl (p_lenG hL0_ Tryz.underlying76 rfl (.ro 1 rfl)) ?_
 refine lp rfl (p_gtr rfl rfl) ?_
 refine lj_seq ?_
 refine cj_if (b := decide ((a0.length : Int) > 60)) rfl (fun hb => ?_) (fun hb => ?_)
 ·have hm := ifB_t hb hm
  refine cj_seq ?_
  refine cj_reg ?_
  refine lp rfl (p_as rfl) ?_
  refine lj_seq ?_
  obtain rfl := Option.some.inj hm
  exact cj_rt () [] Tryz.results89 (.tmp rfl .nil) rfl rfl
 ·have hm := ifB_f hb hm
  refine cj_skip ?_
  refine nj_seq ?_
  refine cj_seq ?_
  refine cj_seq ?_
  refine cj_reg ?_
  refine lp rfl (p_mv rfl) ?_
  refine lp rfl (p_lenG hL0_ Tryz.underlying76 rfl (.ro 1 rfl)) ?_
  refine lp rfl (p_mv rfl) ?_
  refine lj_seq ?_
  obtain ⟨f7, hf7, hm⟩ := bindS hm
  refine cj_range (γ := Unit) (m := (a0.length : Int)) hf7 () (fun u4 g5 => [(0, s0_.v), (2, .int .i64 0), (9, s0_.v)]) (fun u4 g5 => Sat w0 (keys ([] : List Ent)) A [.ro (Lk N75 a0 xg0_), .ro (RdS N75.R (SV.v s0_) xg0_)]) ⟨rfl, rfl, rfl, rfl, rfl, trivial⟩ (fun _ h => h.picks [0, 0] rfl) (nat_lt _) (fun _ h => by have h1 := (FactAt.get (F := RdS N75.R (SV.v s0_) xg0_) (.ro 1 rfl) h).1; rw [lk_len hL0_] at h1; exact h1) (fun _ _ => ⟨rfl, rfl, rfl, rfl⟩) ⟨rfl, rfl, rfl, rfl, rfl⟩ rfl rfl rfl (fun u4 g5 e => ?_) (fun aftk6 i1 x2 u4 g5 k6 hx3 hs J hJk6 hBk6 hX I cnk6 => ?_)
  ·have hm := Flow.fin_b e hm
   refine nj_seq ?_
   refine cj_seq ?_
   refine cj_reg ?_
   refine lp rfl (p_as rfl) ?_
   refine lj_seq ?_
   obtain rfl := Option.some.inj hm
   exact cj_rt () [] Tryz.results89 (.tmp rfl .nil) rfl rfl
  ·have hRk6 : ∀ t, k6 = .ret t → some t = some r := fun t e => by rw [hX t e] at hm; exact hm
   have hm := hs
   refine cj_seq ?_
   refine cj_reg ?_
   refine lp rfl (p_mv rfl) ?_
   obtain ⟨gx2, hx3G⟩ := lk_get hL0_ hx3
   refine lp rfl (p_idx Tryz.underlying76 ty75 rfl rfl (.ro 1 rfl) (getI_nat.trans hx3G)) ?_
   refine lp rfl (p_leaN (cs := [.string x2.Key, .string x2.Places, .int .i64 x2.Long, gx2.v]) ty75 rfl (.ro 1 rfl) hx3G rfl) ?_
   refine r_al ty75 rfl (fun b8 => ?_)
   refine lp rfl (p_as rfl) ?_
   refine r_sb (vs := [.string x2.Key, .string x2.Places, .int .i64 x2.Long, gx2.v]) (j := 0) ty75 rfl rfl rfl rfl rfl rfl rfl ?_
   refine lj_seq ?_
   refine cj_seq ?_
   refine cj_blk ?_
   refine cj_seq ?_
   refine cj_reg ?_
   obtain ⟨k11, hk11, hm⟩ := bindS hm
   have hRk11 : ∀ t, k11 = .inr t → some t = some k6 := fun t e => by rw [e] at hm; exact hm
   refine lj_join (σ := Bool) (γ := Unit) (fun u9 => k11 = .inl u9) (fun u9 g10 => [(0, s0_.v), (2, .int .i64 0), (3, .int .i64 (i1 : Int)), (4, .pointer (some ⟨b8, 0, none⟩)), (9, s0_.v), (10, .int .i64 (a0.length : Int)), (11, .int .i64 (i1 : Int)), (16, .bool u9)]) (fun u9 g10 => Sat w0 (keys ([] : List Ent)) A [.box b8 75 [.string x2.Key, .string x2.Places, .int .i64 x2.Long, gx2.v], .ro (Lk N75 a0 xg0_), .ro (RdS N75.R (SV.v s0_) xg0_)]) (fun u9 g10 hq => ?_) (fun J cnk11 => ?_)
   ·have hm := Sum.fin_l hq hm
    refine cj_if (b := u9) rfl (fun hb => ?_) (fun hb => ?_)
    ·have hm := ifB_t hb hm
     refine cj_seq ?_
     refine cj_reg ?_
     refine lp rfl (p_as rfl) ?_
     refine lj_seq ?_
     have hm := hRk6 _ (Option.some.inj hm).symm
     obtain rfl := Option.some.inj hm
     exact cj_rt () [] Tryz.results89 (.tmp rfl .nil) rfl rfl
    ·have hm := ifB_f hb hm
     refine cj_seq ?_
     refine cj_reg ?_
     refine lp rfl (p_mv rfl) ?_
     refine lp rfl (p_mv rfl) ?_
     obtain ⟨q14, hq14, hm⟩ := bindS hm
     obtain ⟨q14G, hq14G, hLq14, hsq14⟩ := lk_cut hL0_ hq14
     refine lp rfl (p_cut Tryz.underlying76 ty75 rfl rfl rfl rfl rfl (.ro 2 rfl) rfl rfl hq14G) ?_
     refine lp rfl (p_fn (cv := [.pointer (some ⟨b8, 0, none⟩)]) rfl) ?_
     obtain ⟨y15, hy15, hm⟩ := bindS hm
     refine r_call [] cf107 rfl rfl (ok_slices_ContainsFunc_api_Item_api_Item__concert_CheckItems_1 (s0_.sub N75.R.sz (0 : Int).toNat (i1 : Int).toNat) q14G q14 b8 x2.Key x2.Places x2.Long gx2 x2.Parts hy15) rfl rfl (.cons (.imp (.ro 1 rfl) (fun _ h => Lk.sub h hLq14 hsq14)) (.cons (.imp (.ro 2 rfl) (fun _ h => h.cut hq14G)) (.cons (.imp (.box 0 rfl) (fun _ h => h)) (.cons (.imp (.ro 1 rfl) (fun _ h => (Lk.at_ h hx3G))) .nil)))) (fun _ => rfl) rfl (fun _ => ?_)
     refine lp rfl (p_as rfl) ?_
     refine lj_seq ?_
     refine cj_if (b := y15) rfl (fun hb => ?_) (fun hb => ?_)
     ·have hm := ifB_t hb hm
      refine cj_seq ?_
      refine cj_reg ?_
      refine lp rfl (p_as rfl) ?_
      refine lj_seq ?_
      have hm := hRk6 _ (Option.some.inj hm).symm
      obtain rfl := Option.some.inj hm
      exact cj_rt () [] Tryz.results89 (.tmp rfl .nil) rfl rfl
     ·have hm := ifB_f hb hm
      refine cj_seq ?_
      refine cj_reg ?_
      refine lp rfl (p_fab fl75_2 rfl) ?_
      refine lp rfl (p_lbs ty3 rfl (j := 0) rfl rfl) ?_
      obtain ⟨y16, hy16, hm⟩ := bindS hm
      refine r_call [] cf76 rfl rfl (ok_kit_Outside x2.Long 1 86400000 hy16) rfl rfl .nil (fun _ => rfl) rfl (fun _ => ?_)
      refine lp rfl (p_as rfl) ?_
      refine lj_seq ?_
      refine cj_if (b := y16) rfl (fun hb => ?_) (fun hb => ?_)
      ·have hm := ifB_t hb hm
       refine cj_seq ?_
       refine cj_reg ?_
       refine lp rfl (p_as rfl) ?_
       refine lj_seq ?_
       have hm := hRk6 _ (Option.some.inj hm).symm
       obtain rfl := Option.some.inj hm
       exact cj_rt () [] Tryz.results89 (.tmp rfl .nil) rfl rfl
      ·have hm := ifB_f hb hm
       refine cj_skip ?_
       refine nj_blk ?_
       refine nj_seq ?_
       refine cj_seq ?_
       refine cj_reg ?_
       refine lp rfl (p_fab fl75_3 rfl) ?_
       refine lp rfl (p_lbs ty37 rfl (j := 0) rfl rfl) ?_
       obtain ⟨y17, hy17, hm⟩ := bindS hm
       refine r_call [] cf109 rfl rfl (ok_concert_partsFault gx2 x2.Parts hy17) rfl rfl (.cons (.imp (.ro 1 rfl) (fun _ h => (Lk.at_ h hx3G))) .nil) (fun _ => rfl) rfl (fun _ => ?_)
       refine lp rfl (p_as rfl) ?_
       refine lj_seq ?_
       refine cj_seq ?_
       refine cj_reg ?_
       refine lp rfl (p_mv rfl) ?_
       refine lp rfl (p_neq rfl rfl) ?_
       refine lj_seq ?_
       refine cj_if (b := y17 != 0) rfl (fun hb => ?_) (fun hb => ?_)
       ·have hm := ifB_t hb hm
        refine cj_seq ?_
        refine cj_reg ?_
        refine lp rfl (p_mv rfl) ?_
        refine lp rfl (p_as rfl) ?_
        refine lj_seq ?_
        have hm := hRk6 _ (Option.some.inj hm).symm
        obtain rfl := Option.some.inj hm
        exact cj_rt () [] Tryz.results89 (.tmp rfl .nil) rfl rfl
       ·have hm := ifB_f hb hm
        refine cj_skip ?_
        refine nj_blk ?_
        exact cnk6 _ _ () () (hJk6 _ (Option.some.inj hm).symm) ⟨rfl, rfl, rfl, rfl, rfl, trivial⟩ (fun _ h => h.picks [1, 1] rfl)
   ·have hm := hk11
    refine lp rfl (p_fab fl75_0 rfl) ?_
    refine lp rfl (p_lbs ty9 rfl (j := 0) rfl rfl) ?_
    obtain ⟨y12, hy12, hm⟩ := bindS hm
    refine r_call [] cf84 rfl rfl (ok_kit_IsKey x2.Key hy12) rfl rfl .nil (fun _ => rfl) rfl (fun _ => ?_)
    refine lp rfl (p_not rfl) ?_
    refine lp rfl (p_mv rfl) ?_
    refine lcase (i := 21) (!y12) rfl (fun hb => ?_) (fun hb => ?_)
    ·have hm := ifB_t hb hm
     refine ls false rfl rfl rfl rfl ?_
     refine ls false rfl rfl rfl rfl ?_
     refine ls false rfl rfl rfl rfl ?_
     refine ls false rfl rfl rfl rfl ?_
     refine lp rfl (p_pkt rfl rfl) ?_
     refine lp rfl (p_as rfl) ?_
     refine lj_nil ?_
     exact cnk11 _ _ true () (Option.some.inj hm).symm ⟨rfl, rfl, rfl, rfl, rfl, rfl, rfl, rfl, trivial⟩ (fun _ h => h.picks [0, 0, 0] rfl)
    ·have hm := ifB_f hb hm
     refine lg false rfl rfl rfl ?_
     refine lp rfl (p_fab fl75_1 rfl) ?_
     refine lg false rfl rfl rfl ?_
     refine lp rfl (p_lbs ty9 rfl (j := 0) rfl rfl) ?_
     refine lg false rfl rfl rfl ?_
     obtain ⟨y13, hy13, hm⟩ := bindS hm
     refine r_call [] cf84 rfl rfl (ok_kit_IsKey x2.Places hy13) rfl rfl .nil (fun _ => rfl) rfl (fun _ => ?_)
     refine lg false rfl rfl rfl ?_
     refine lp rfl (p_not rfl) ?_
     refine lp rfl (p_pkf rfl rfl) ?_
     refine lp rfl (p_as rfl) ?_
     refine lj_nil ?_
     exact cnk11 _ _ (!y13) () (Option.some.inj hm).symm ⟨rfl, rfl, rfl, rfl, rfl, rfl, rfl, rfl, trivial⟩ (fun _ h => h.picks [0, 0, 0] rfl)
end Go.Proofs.YtgfbgcdnnkehbaaGreatDoor
