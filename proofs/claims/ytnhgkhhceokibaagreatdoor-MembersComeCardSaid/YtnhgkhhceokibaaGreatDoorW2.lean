/- The walks. Written by program. -/
import Derived.Test.YtnhgkhhceokibaaGreatDoorW1
namespace Go.Proofs.YtnhgkhhceokibaaGreatDoor
open Go Go.J Go.G
set_option maxRecDepth 100000
set_option linter.unusedVariables false
set_option linter.unusedSimpArgs false
theorem ok_club_books_act (b0_ : Nat) (a0_0 : Int) (b0_1_ : Nat) (Z0_1_ : List (ByteArray × SV)) (es0_1_ : Array MapEntry) (cl0_1_ : Nat) (a0_1 : (List (ByteArray × (List Tclub_stay)))) (b0_2_ : Nat) (es0_2_ : Array MapEntry) (cl0_2_ : Nat) (a0_2 : (List (ByteArray × Int))) (b0_3_ : Nat) (Z0_3_ : List (ByteArray × Option (Nat × Nat × Array MapEntry × Nat × SV))) (es0_3_ : Array MapEntry) (cl0_3_ : Nat) (a0_3 : (List (ByteArray × (Bool × (List (ByteArray × Bool)) × (List ByteArray))))) (s0_4_ : SV) (a0_4 : (List Int)) (a1 : TAct) {r : (List (ByteArray × (List Tclub_stay))) × (List (ByteArray × Int)) × (List (ByteArray × (Bool × (List (ByteArray × Bool)) × (List ByteArray))))} (hm : m_club_books_act a0_0 a0_1 a0_2 a0_3 a0_4 a1 = some r) :
  Ctr Tryz.prog 63 [.pointer (some ⟨b0_, 0, none⟩), .agg (R53.enc a1).toArray].toArray [.box b0_ 64 [.int .i64 a0_0, .map (some b0_1_), .map (some b0_2_), .map (some b0_3_), s0_4_.v], .obj (famO kv9 SV.v (rowE R70) b0_1_ a0_1 Z0_1_ none es0_1_ cl0_1_), .obj (mapO kv9 b0_2_ (mpV vv3 a0_2) es0_2_ cl0_2_), .obj (famO kv9 (vvP Fh120) (entsP Fe120) b0_3_ a0_3 Z0_3_ none es0_3_ cl0_3_)] [RdS R3 (SV.v s0_4_) a0_4] (X := (List (ByteArray × SV) × Array MapEntry × Nat × Array MapEntry × Nat × List (ByteArray × Option (Nat × Nat × Array MapEntry × Nat × SV)) × Array MapEntry × Nat)) (fun s => .tuple [].toArray) (fun s => [.box b0_ 64 [.int .i64 a0_0, .map (some b0_1_), .map (some b0_2_), .map (some b0_3_), s0_4_.v], .obj (famO kv9 SV.v (rowE R70) b0_1_ r.1 s.1 none s.2.1 s.2.2.1), .obj (mapO kv9 b0_2_ (mpV vv3 r.2.1) s.2.2.2.1 s.2.2.2.2.1), .obj (famO kv9 (vvP Fh120) (entsP Fe120) b0_3_ r.2.2 s.2.2.2.2.2.1 none s.2.2.2.2.2.2.1 s.2.2.2.2.2.2.2)]) := by
 unfold m_club_books_act at hm
 refine ctr_mk (vs := [(0, .pointer (some ⟨b0_, 0, none⟩)), (1, .agg (R53.enc a1).toArray)]) Tryz.func63 rfl Tryz.ntmps63 rfl ⟨rfl, rfl, trivial⟩ (fun w0 A => ?_)
 refine cj_seq ?_
 refine cj_reg ?_
 refine r_bx (cs := [.string a1.Site, .int .i64 a1.No, .int .i64 a1.At, .int .i64 a1.Kind, .string a1.Who, .string a1.Motion, .int .i64 a1.Cents, .bool a1.Yes, .string a1.Of, .int .i64 a1.Other]) rfl rfl rfl (fun b1 => ?_)
 refine lj_seq ?_
 refine cj_seq ?_
 refine cj_reg ?_
 refine lp rfl (p_fab fl53_3 rfl) ?_
 refine lp rfl (p_lbs ty3 rfl (j := 0) rfl rfl) ?_
 refine lj_seq ?_
 refine cj_blk ?_
 refine cj_seq ?_
 refine cj_reg ?_
 refine lp rfl (p_eql rfl rfl) ?_
 refine lp rfl (p_as rfl) ?_
 refine lj_seq ?_
 refine cj_if (b := a1.Kind == 1) rfl (fun hb => ?_) (fun hb => ?_)
 ·have hm := ifB_t hb hm
  obtain ⟨q4, hq4, hm⟩ := bindS hm
  refine cj_anyT [0, 1, 2, 3, 4, 5, 6, 7, 8, 9, 10, 11, 12, 13, 14, 15, 16, 17] [19, 20] (Sat w0 (keys [.box b0_ 64 [.int .i64 a0_0, .map (some b0_1_), .map (some b0_2_), .map (some b0_3_), s0_4_.v], .obj (famO kv9 SV.v (rowE R70) b0_1_ a0_1 Z0_1_ none es0_1_ cl0_1_), .obj (mapO kv9 b0_2_ (mpV vv3 a0_2) es0_2_ cl0_2_), .obj (famO kv9 (vvP Fh120) (entsP Fe120) b0_3_ a0_3 Z0_3_ none es0_3_ cl0_3_)]) A [.box b1 53 [.string a1.Site, .int .i64 a1.No, .int .i64 a1.At, .int .i64 a1.Kind, .string a1.Who, .string a1.Motion, .int .i64 a1.Cents, .bool a1.Yes, .string a1.Of, .int .i64 a1.Other], .box b0_ 64 [.int .i64 a0_0, .map (some b0_1_), .map (some b0_2_), .map (some b0_3_), s0_4_.v], .obj (famO kv9 SV.v (rowE R70) b0_1_ a0_1 Z0_1_ none es0_1_ cl0_1_), .obj (mapO kv9 b0_2_ (mpV vv3 a0_2) es0_2_ cl0_2_), .obj (famO kv9 (vvP Fh120) (entsP Fe120) b0_3_ a0_3 Z0_3_ none es0_3_ cl0_3_), .ro (RdS R3 (SV.v s0_4_) a0_4)]) (Sat w0 (keys [.box b0_ 64 [.int .i64 a0_0, .map (some b0_1_), .map (some b0_2_), .map (some b0_3_), s0_4_.v], .obj (famO kv9 SV.v (rowE R70) b0_1_ a0_1 Z0_1_ none es0_1_ cl0_1_), .obj (mapO kv9 b0_2_ (mpV vv3 a0_2) es0_2_ cl0_2_), .obj (famO kv9 (vvP Fh120) (entsP Fe120) b0_3_ a0_3 Z0_3_ none es0_3_ cl0_3_)]) A [.box b1 53 [.string a1.Site, .int .i64 a1.No, .int .i64 a1.At, .int .i64 a1.Kind, .string a1.Who, .string a1.Motion, .int .i64 a1.Cents, .bool a1.Yes, .string a1.Of, .int .i64 a1.Other], .box b0_ 64 [.int .i64 a0_0, .map (some b0_1_), .map (some b0_2_), .map (some b0_3_), s0_4_.v], .obj (mapO kv9 b0_2_ (mpV vv3 a0_2) es0_2_ cl0_2_), .obj (famO kv9 (vvP Fh120) (entsP Fe120) b0_3_ a0_3 Z0_3_ none es0_3_ cl0_3_), .ro (RdS R3 (SV.v s0_4_) a0_4)]) (by kernel_rfl) ?_
  refine at_take2 0 rfl (by kernel_rfl) (by kernel_rfl) (by kernel_rfl) (fun _ h => h.picks [0, 0, 1, 1, 1] rfl) rfl rfl (p_mv rfl) (fun _ h => h.picks [0, 0, 1, 1, 1] rfl) ?_
  refine at_take2 1 rfl (by kernel_rfl) (by kernel_rfl) (by kernel_rfl) (fun _ h => h.picks [0, 0, 1, 1, 1] rfl) rfl rfl (p_nc rfl) (fun _ h => h.picks [0, 0, 1, 1, 1] rfl) ?_
  refine at_take2 2 rfl (by kernel_rfl) (by kernel_rfl) (by kernel_rfl) (fun _ h => h.picks [0, 0, 1, 1, 1] rfl) rfl rfl (p_fab fl64_1 rfl) (fun _ h => h.picks [0, 0, 1, 1, 1] rfl) ?_
  refine at_take2 3 rfl (by kernel_rfl) (by kernel_rfl) (by kernel_rfl) (fun _ h => h.picks [0, 0, 1, 1, 1] rfl) rfl rfl (p_lbs ty61 rfl (j := 1) rfl rfl) (fun _ h => h.picks [0, 0, 1, 1, 1] rfl) ?_
  refine at_take2 4 rfl (by kernel_rfl) (by kernel_rfl) (by kernel_rfl) (fun _ h => h.picks [0, 0, 1, 1, 1] rfl) rfl rfl (p_fab fl53_4 rfl) (fun _ h => h.picks [0, 0, 1, 1, 1] rfl) ?_
  refine at_take2 5 rfl (by kernel_rfl) (by kernel_rfl) (by kernel_rfl) (fun _ h => h.picks [0, 0, 1, 1, 1] rfl) rfl rfl (p_lbs ty9 rfl (j := 0) rfl rfl) (fun _ h => h.picks [0, 0, 1, 1, 1] rfl) ?_
  refine at_take2 6 rfl (by kernel_rfl) (by kernel_rfl) (by kernel_rfl) (fun _ h => h.picks [0, 0, 1, 1, 1] rfl) rfl rfl (p_mv rfl) (fun _ h => h.picks [0, 0, 1, 1, 1] rfl) ?_
  refine at_take2 7 rfl (by kernel_rfl) (by kernel_rfl) (by kernel_rfl) (fun _ h => h.picks [0, 0, 1, 1, 1] rfl) rfl rfl (p_nc rfl) (fun _ h => h.picks [0, 0, 1, 1, 1] rfl) ?_
  refine at_take2 8 rfl (by kernel_rfl) (by kernel_rfl) (by kernel_rfl) (fun _ h => h.picks [0, 0, 1, 1, 1] rfl) rfl rfl (p_fab fl64_1 rfl) (fun _ h => h.picks [0, 0, 1, 1, 1] rfl) ?_
  refine at_take2 9 rfl (by kernel_rfl) (by kernel_rfl) (by kernel_rfl) (fun _ h => h.picks [0, 0, 1, 1, 1] rfl) rfl rfl (p_lbs ty61 rfl (j := 1) rfl rfl) (fun _ h => h.picks [0, 0, 1, 1, 1] rfl) ?_
  refine at_take2 10 rfl (by kernel_rfl) (by kernel_rfl) (by kernel_rfl) (fun _ h => h.picks [0, 0, 1, 1, 1] rfl) rfl rfl (p_fab fl53_4 rfl) (fun _ h => h.picks [0, 0, 1, 1, 1] rfl) ?_
  refine at_take2 11 rfl (by kernel_rfl) (by kernel_rfl) (by kernel_rfl) (fun _ h => h.picks [0, 0, 1, 1, 1] rfl) rfl rfl (p_lbs ty9 rfl (j := 0) rfl rfl) (fun _ h => h.picks [0, 0, 1, 1, 1] rfl) ?_
  refine at_take1 12 rfl (by kernel_rfl) (by kernel_rfl) (by kernel_rfl) (by kernel_rfl) rfl rfl (p_lkm (vv := SV.v) (k := a1.Who) (z := nilS) Tryz.underlying61 (keyF9) (fun _ => by kernel_rfl) (.imp (.fam 2 rfl) (fun _ h => h.map)) rfl rfl) (fun _ h => h.picks [0, 0, 0, 0, 0, 0] rfl) ?_
  refine at_take2 13 rfl (by kernel_rfl) (by kernel_rfl) (by kernel_rfl) (fun _ h => h.picks [0, 0, 1, 1, 1] rfl) rfl rfl (p_fab fl53_2 rfl) (fun _ h => h.picks [0, 0, 1, 1, 1] rfl) ?_
  refine at_take2 14 rfl (by kernel_rfl) (by kernel_rfl) (by kernel_rfl) (fun _ h => h.picks [0, 0, 1, 1, 1] rfl) rfl rfl (p_lbs ty3 rfl (j := 0) rfl rfl) (fun _ h => h.picks [0, 0, 1, 1, 1] rfl) ?_
  refine at_take2 15 rfl (by kernel_rfl) (by kernel_rfl) (by kernel_rfl) (fun _ h => h.picks [0, 0, 1, 1, 1] rfl) rfl rfl (p_fab fl53_6 rfl) (fun _ h => h.picks [0, 0, 1, 1, 1] rfl) ?_
  refine at_take2 16 rfl (by kernel_rfl) (by kernel_rfl) (by kernel_rfl) (fun _ h => h.picks [0, 0, 1, 1, 1] rfl) rfl rfl (p_lbs ty3 rfl (j := 0) rfl rfl) (fun _ h => h.picks [0, 0, 1, 1, 1] rfl) ?_
  refine at_take2 17 rfl (by kernel_rfl) (by kernel_rfl) (by kernel_rfl) (fun _ h => h.picks [0, 0, 1, 1, 1] rfl) rfl rfl (p_bld [.int .i64 a1.At, .int .i64 (-1), .int .i64 a1.Cents] rfl (fun _ => by kernel_rfl)) (fun _ h => h.picks [0, 0, 1, 1, 1] rfl) ?_
  refine at_each (rs := [18]) (by kernel_rfl) (by decide) ?_
  refine (.cons rfl (fun I cnI => ?_) .nil)
  ·refine r_bs R70 [(Tclub_stay.mk a1.At (-1) a1.Cents)] rfl rfl rfl (fun _ => by kernel_rfl) rfl (fun s8 => ?_)
   refine lj_nil ?_
   refine cnI _ _ (sof1 rfl rfl (fun _ h => h.picks [1, 1, 1, 1, 1, 1] rfl)) ?_
   refine at_each (rs := [19]) (by kernel_rfl) (by decide) ?_
   refine (.cons rfl (fun I cnI => ?_) .nil)
   ·refine LJ.sat (fun _ h => h.takeR 3 rfl a1.Who) ?_
    refine r_app (k := 0) Tryz.underlying68 ty70 rfl rfl rfl rfl (.row 2 rfl) hq4 rfl (fun s10 => ?_)
    refine lj_nil ?_
    refine cnI _ _ (sof2 rfl rfl (fun _ h => h.picks [3, 3, 3, 3, 3] rfl)) ?_
    refine at_each (rs := [20]) (by kernel_rfl) (by decide) ?_
    refine (.cons rfl (fun I cnI => ?_) .nil)
    ·refine r_mpuF (x1 := q4) (g1 := s10) (k := a1.Who) [1, 0] Tryz.underlying61 keyF9 rfl (.inr rfl) rfl rfl rfl (fun es11 cl12 => ?_)
     refine lj_nil ?_
     refine cnI _ _ (sof2 rfl rfl (fun _ h => h.picks [2, 2, 2, 2, 2] rfl)) ?_
     refine at_done (by kernel_rfl) ?_
     refine nj_blk ?_
     obtain rfl := Option.some.inj hm
     exact nj_rt ((putM Z0_1_ a1.Who s10), es11, cl12, es0_2_, cl0_2_, Z0_3_, es0_3_, cl0_3_) [3, 0, 2, 2] Tryz.results63 .nil rfl rfl
 ·have hm := ifB_f hb hm
  refine cj_seq ?_
  refine cj_reg ?_
  refine lp rfl (p_eql rfl rfl) ?_
  refine lp rfl (p_as rfl) ?_
  refine lj_seq ?_
  refine cj_if (b := a1.Kind == 2) rfl (fun hb => ?_) (fun hb => ?_)
  ·have hm := ifB_t hb hm
   refine cj_seq ?_
   refine cj_quiet (by kernel_rfl) (by kernel_rfl) ?_
   refine q_p rfl (p_mv rfl) ?_
   refine q_p rfl (p_nc rfl) ?_
   refine q_p rfl (p_fab fl64_1 rfl) ?_
   refine q_p rfl (p_lbs ty61 rfl (j := 1) rfl rfl) ?_
   refine q_p rfl (p_fab fl53_4 rfl) ?_
   refine q_p rfl (p_lbs ty9 rfl (j := 0) rfl rfl) ?_
   refine q_p rfl (p_lkm (vv := SV.v) (k := a1.Who) (z := nilS) Tryz.underlying61 (keyF9) (fun _ => by kernel_rfl) (.imp (.fam 2 rfl) (fun _ h => h.map)) rfl rfl) ?_
   refine q_p rfl (p_as rfl) ?_
   refine q_nil ?_
   refine nj_seq ?_
   refine cj_reg ?_
   refine lp rfl (p_mv rfl) ?_
   refine lp rfl (p_mv rfl) ?_
   refine lp rfl (p_len Tryz.underlying68 rfl (.imp (.fam 2 rfl) (fun _ h => h.look a1.Who))) ?_
   refine lp rfl (p_sub rfl rfl) ?_
   refine lp rfl (p_fab fl53_2 rfl) ?_
   refine lp rfl (p_lbs ty3 rfl (j := 0) rfl rfl) ?_
   obtain ⟨e13, he13, hm⟩ := bindS hm
   refine lp rfl (p_idx Tryz.underlying68 ty70 rfl rfl (.imp (.fam 2 rfl) (fun _ h => h.look a1.Who)) he13) ?_
   refine lp rfl (p_fae fl70_1 rfl (.imp (.fam 2 rfl) (fun _ h => h.look a1.Who)) (getI_spec he13).2) ?_
   refine LJ.sat (fun _ h => h.takeR 2 rfl a1.Who) ?_
   refine r_ste (k := 0) (o := 1) (vs := [.int .i64 a1.At]) ty3 rfl rfl rfl rfl rfl rfl rfl (getI_spec he13).2 (Tclub_stay.mk e13.since a1.At e13.cents) rfl rfl ?_
   refine LJ.sat (fun _ h => h.giveR [1, 0] rfl) ?_
   refine lj_nil ?_
   refine nj_blk ?_
   obtain rfl := Option.some.inj hm
   exact nj_rt (Z0_1_, es0_1_, cl0_1_, es0_2_, cl0_2_, Z0_3_, es0_3_, cl0_3_) [2, 0, 1, 1] Tryz.results63 .nil rfl rfl
  ·have hm := ifB_f hb hm
   refine cj_seq ?_
   refine cj_reg ?_
   refine lp rfl (p_eql rfl rfl) ?_
   refine lp rfl (p_as rfl) ?_
   refine lj_seq ?_
   refine cj_if (b := a1.Kind == 3) rfl (fun hb => ?_) (fun hb => ?_)
   ·have hm := ifB_t hb hm
    refine cj_tail 10 (by kernel_rfl) (by kernel_rfl) ?_
    refine s_p rfl (p_mv rfl) ?_
    refine s_p rfl (p_nc rfl) ?_
    refine s_p rfl (p_fab fl64_2 rfl) ?_
    refine s_p rfl (p_lbs ty50 rfl (j := 1) rfl rfl) ?_
    refine s_p rfl (p_fab fl53_4 rfl) ?_
    refine s_p rfl (p_lbs ty9 rfl (j := 0) rfl rfl) ?_
    refine s_p rfl (p_lkm (vv := vv3) (k := a1.Who) (z := 0) Tryz.underlying50 (keyF9) (fun _ => by kernel_rfl) (.map 3 rfl) rfl rfl) ?_
    refine s_p rfl (p_fab fl53_6 rfl) ?_
    refine s_p rfl (p_lbs ty3 rfl (j := 0) rfl rfl) ?_
    refine s_p rfl (p_add rfl rfl) ?_
    refine s_nil ?_
    refine r_mpu (j := 3) (vv := vv3) (k := a1.Who) (v := (w64 (((lkM a0_2 a1.Who).getD 0) + a1.Cents))) Tryz.underlying50 keyF9 rfl rfl rfl rfl (fun es15 cl16 => ?_)
    refine lj_nil ?_
    refine nj_blk ?_
    obtain rfl := Option.some.inj hm
    exact nj_rt (Z0_1_, es0_1_, cl0_1_, es15, cl16, Z0_3_, es0_3_, cl0_3_) [1, 1, 1, 1] Tryz.results63 .nil rfl rfl
   ·have hm := ifB_f hb hm
    refine cj_seq ?_
    refine cj_reg ?_
    refine lp rfl (p_eql rfl rfl) ?_
    refine lp rfl (p_as rfl) ?_
    refine lj_seq ?_
    refine cj_if (b := a1.Kind == 4) rfl (fun hb => ?_) (fun hb => ?_)
    ·have hm := ifB_t hb hm
     refine cj_anyT [0, 1, 2, 3, 4, 5, 7] [9] (Sat w0 (keys [.box b0_ 64 [.int .i64 a0_0, .map (some b0_1_), .map (some b0_2_), .map (some b0_3_), s0_4_.v], .obj (famO kv9 SV.v (rowE R70) b0_1_ a0_1 Z0_1_ none es0_1_ cl0_1_), .obj (mapO kv9 b0_2_ (mpV vv3 a0_2) es0_2_ cl0_2_), .obj (famO kv9 (vvP Fh120) (entsP Fe120) b0_3_ a0_3 Z0_3_ none es0_3_ cl0_3_)]) A [.box b1 53 [.string a1.Site, .int .i64 a1.No, .int .i64 a1.At, .int .i64 a1.Kind, .string a1.Who, .string a1.Motion, .int .i64 a1.Cents, .bool a1.Yes, .string a1.Of, .int .i64 a1.Other], .box b0_ 64 [.int .i64 a0_0, .map (some b0_1_), .map (some b0_2_), .map (some b0_3_), s0_4_.v], .obj (famO kv9 SV.v (rowE R70) b0_1_ a0_1 Z0_1_ none es0_1_ cl0_1_), .obj (mapO kv9 b0_2_ (mpV vv3 a0_2) es0_2_ cl0_2_), .obj (famO kv9 (vvP Fh120) (entsP Fe120) b0_3_ a0_3 Z0_3_ none es0_3_ cl0_3_), .ro (RdS R3 (SV.v s0_4_) a0_4)]) (Sat w0 (keys [.box b0_ 64 [.int .i64 a0_0, .map (some b0_1_), .map (some b0_2_), .map (some b0_3_), s0_4_.v], .obj (famO kv9 SV.v (rowE R70) b0_1_ a0_1 Z0_1_ none es0_1_ cl0_1_), .obj (mapO kv9 b0_2_ (mpV vv3 a0_2) es0_2_ cl0_2_), .obj (famO kv9 (vvP Fh120) (entsP Fe120) b0_3_ a0_3 Z0_3_ none es0_3_ cl0_3_)]) A [.box b1 53 [.string a1.Site, .int .i64 a1.No, .int .i64 a1.At, .int .i64 a1.Kind, .string a1.Who, .string a1.Motion, .int .i64 a1.Cents, .bool a1.Yes, .string a1.Of, .int .i64 a1.Other], .box b0_ 64 [.int .i64 a0_0, .map (some b0_1_), .map (some b0_2_), .map (some b0_3_), s0_4_.v], .obj (famO kv9 SV.v (rowE R70) b0_1_ a0_1 Z0_1_ none es0_1_ cl0_1_), .obj (mapO kv9 b0_2_ (mpV vv3 a0_2) es0_2_ cl0_2_), .ro (RdS R3 (SV.v s0_4_) a0_4)]) (by kernel_rfl) ?_
     refine at_take2 0 rfl (by kernel_rfl) (by kernel_rfl) (by kernel_rfl) (fun _ h => h.picks [0, 0, 0, 0, 1] rfl) rfl rfl (p_mv rfl) (fun _ h => h.picks [0, 0, 0, 0, 1] rfl) ?_
     refine at_take2 1 rfl (by kernel_rfl) (by kernel_rfl) (by kernel_rfl) (fun _ h => h.picks [0, 0, 0, 0, 1] rfl) rfl rfl (p_nc rfl) (fun _ h => h.picks [0, 0, 0, 0, 1] rfl) ?_
     refine at_take2 2 rfl (by kernel_rfl) (by kernel_rfl) (by kernel_rfl) (fun _ h => h.picks [0, 0, 0, 0, 1] rfl) rfl rfl (p_fab fl64_3 rfl) (fun _ h => h.picks [0, 0, 0, 0, 1] rfl) ?_
     refine at_take2 3 rfl (by kernel_rfl) (by kernel_rfl) (by kernel_rfl) (fun _ h => h.picks [0, 0, 0, 0, 1] rfl) rfl rfl (p_lbs ty62 rfl (j := 1) rfl rfl) (fun _ h => h.picks [0, 0, 0, 0, 1] rfl) ?_
     refine at_take2 4 rfl (by kernel_rfl) (by kernel_rfl) (by kernel_rfl) (fun _ h => h.picks [0, 0, 0, 0, 1] rfl) rfl rfl (p_fab fl53_5 rfl) (fun _ h => h.picks [0, 0, 0, 0, 1] rfl) ?_
     refine at_take2 5 rfl (by kernel_rfl) (by kernel_rfl) (by kernel_rfl) (fun _ h => h.picks [0, 0, 0, 0, 1] rfl) rfl rfl (p_lbs ty9 rfl (j := 0) rfl rfl) (fun _ h => h.picks [0, 0, 0, 0, 1] rfl) ?_
     refine at_each (rs := [6]) (by kernel_rfl) (by decide) ?_
     refine (.cons rfl (fun I cnI => ?_) .nil)
     ·refine r_mkmap kv9 vv4 rfl (fun b22 => ?_)
      refine lj_nil ?_
      refine cnI _ _ (sof1 rfl rfl (fun _ h => h.picks [1, 1, 1, 1, 1, 1] rfl)) ?_
      refine at_take2 7 rfl (by kernel_rfl) (by kernel_rfl) (by kernel_rfl) (fun _ h => h.picks [0, 0, 0, 0, 1] rfl) rfl rfl (p_bld [.bool false, .map (some b22), .slice none 0 0] rfl (fun _ => by kernel_rfl)) (fun _ h => h.picks [1, 1, 1, 1, 2] rfl) ?_
      refine at_each (rs := [8]) (by kernel_rfl) (by decide) ?_
      refine (.cons rfl (fun I cnI => ?_) .nil)
      ·refine r_bx (cs := [.bool false, .map (some b22), .slice none 0 0]) rfl rfl rfl (fun b23 => ?_)
       refine lj_nil ?_
       refine cnI _ _ (sof1 rfl rfl (fun _ h => h.picks [2, 2, 2, 2, 2, 2] rfl)) ?_
       refine at_each (rs := [9]) (by kernel_rfl) (by decide) ?_
       refine (.cons rfl (fun I cnI => ?_) .nil)
       ·refine r_nil R9 ?_
        refine r_mpuF (x1 := (false, ([] : (List (ByteArray × Bool))), ([] : List ByteArray))) (g1 := some (b23, b22, (#[]), 0, nilS)) (k := a1.Motion) [7, 1, 1, 0] Tryz.underlying62 keyF9 rfl (.inl rfl) rfl rfl rfl (fun es25 cl26 => ?_)
        refine lj_nil ?_
        refine cnI _ _ (sof2 rfl rfl (fun _ h => h.picks [1, 1, 1, 1, 1] rfl)) ?_
        refine at_done (by kernel_rfl) ?_
        refine nj_blk ?_
        obtain rfl := Option.some.inj hm
        exact nj_rt (Z0_1_, es0_1_, cl0_1_, es0_2_, cl0_2_, (putM Z0_3_ a1.Motion (some (b23, b22, (#[]), 0, nilS))), es25, cl26) [2, 2, 2, 0] Tryz.results63 .nil rfl rfl
    ·have hm := ifB_f hb hm
     refine cj_seq ?_
     refine cj_reg ?_
     refine lp rfl (p_eql rfl rfl) ?_
     refine lp rfl (p_as rfl) ?_
     refine lj_seq ?_
     refine cj_if (b := a1.Kind == 5) rfl (fun hb => ?_) (fun hb => ?_)
     ·have hm := ifB_t hb hm
      refine cj_takeP 4 rfl a1.Motion fro120 (fun hx27 hz28 => ?_) (fun t30 q31 hx27 hq29 => ?_)
      ·have hm := optB_n hx27 hm
       refine cj_tail 14 (by kernel_rfl) (by kernel_rfl) ?_
       refine s_p rfl (p_mv rfl) ?_
       refine s_p rfl (p_nc rfl) ?_
       refine s_p rfl (p_fab fl64_3 rfl) ?_
       refine s_p rfl (p_lbs ty62 rfl (j := 1) rfl rfl) ?_
       refine s_p rfl (p_fab fl53_5 rfl) ?_
       refine s_p rfl (p_lbs ty9 rfl (j := 0) rfl rfl) ?_
       refine s_p rfl (p_lkPN (k := a1.Motion) Tryz.underlying62 (keyF9) (fun _ => by kernel_rfl) (.fam 4 rfl) hz28 rfl rfl) ?_
       cases hm
      ·have hm := optB_s hx27 hm
       refine cj_tail 14 (by kernel_rfl) (by kernel_rfl) ?_
       refine s_p rfl (p_mv rfl) ?_
       refine s_p rfl (p_nc rfl) ?_
       refine s_p rfl (p_fab fl64_3 rfl) ?_
       refine s_p rfl (p_lbs ty62 rfl (j := 5) rfl rfl) ?_
       refine s_p rfl (p_fab fl53_5 rfl) ?_
       refine s_p rfl (p_lbs ty9 rfl (j := 4) rfl rfl) ?_
       refine s_p rfl (p_lkP (k := a1.Motion) Tryz.underlying62 (keyF9) (fun _ => by kernel_rfl) (.fam 3 rfl) hq29 rfl rfl) ?_
       refine s_p rfl (p_nc rfl) ?_
       refine s_p rfl (p_fab fl122_1 rfl) ?_
       refine s_p rfl (p_lbs ty107 rfl (j := 0) rfl rfl) ?_
       refine s_p rfl (p_fab fl53_4 rfl) ?_
       refine s_p rfl (p_lbs ty9 rfl (j := 4) rfl rfl) ?_
       refine s_p rfl (p_fab fl53_7 rfl) ?_
       refine s_p rfl (p_lbs ty4 rfl (j := 4) rfl rfl) ?_
       refine s_nil ?_
       refine r_mpu (j := 1) (vv := vv4) (k := a1.Who) (v := a1.Yes) Tryz.underlying107 keyF9 rfl rfl rfl rfl (fun es35 cl36 => ?_)
       refine LJ.sat (fun _ h => h.giveP (t := (t30.1, (putM t30.2.1 a1.Who a1.Yes), t30.2.2)) (q' := (q31.1, q31.2.1, es35, cl36, q31.2.2.2.2)) [3, 0, 0, 0] rfl hq29 rfl) ?_
       refine lj_nil ?_
       refine nj_blk ?_
       obtain rfl := Option.some.inj hm
       exact nj_rt (Z0_1_, es0_1_, cl0_1_, es0_2_, cl0_2_, (repM Z0_3_ a1.Motion (some (q31.1, q31.2.1, es35, cl36, q31.2.2.2.2))), es0_3_, cl0_3_) [2, 2, 2, 0] Tryz.results63 .nil rfl rfl
     ·have hm := ifB_f hb hm
      refine cj_seq ?_
      refine cj_reg ?_
      refine lp rfl (p_eql rfl rfl) ?_
      refine lp rfl (p_as rfl) ?_
      refine lj_seq ?_
      refine cj_if (b := a1.Kind == 6) rfl (fun hb => ?_) (fun hb => ?_)
      ·have hm := ifB_t hb hm
       refine cj_seq ?_
       refine cj_takeP 4 rfl a1.Motion fro120 (fun hx40 hz41 => ?_) (fun t43 q44 hx40 hq42 => ?_)
       ·have hm := optB_n hx40 hm
        refine cj_quiet (by kernel_rfl) (by kernel_rfl) ?_
        refine q_p rfl (p_mv rfl) ?_
        refine q_p rfl (p_nc rfl) ?_
        refine q_p rfl (p_fab fl64_3 rfl) ?_
        refine q_p rfl (p_lbs ty62 rfl (j := 1) rfl rfl) ?_
        refine q_p rfl (p_fab fl53_5 rfl) ?_
        refine q_p rfl (p_lbs ty9 rfl (j := 0) rfl rfl) ?_
        refine q_p rfl (p_lkPN (k := a1.Motion) Tryz.underlying62 (keyF9) (fun _ => by kernel_rfl) (.fam 4 rfl) hz41 rfl rfl) ?_
        refine q_p rfl (p_as rfl) ?_
        refine q_nil ?_
        refine nj_seq ?_
        refine cj_reg ?_
        refine lp rfl (p_mv rfl) ?_
        refine lp rfl (p_mv rfl) ?_
        refine lp rfl (p_mv rfl) ?_
        obtain ⟨y45, hy45, hm⟩ := bindS hm
        refine r_call [1] cf27 rfl rfl (ok_club_books_members b0_ a0_0 b0_1_ Z0_1_ es0_1_ cl0_1_ a0_1 b0_2_ es0_2_ cl0_2_ a0_2 b0_3_ Z0_3_ es0_3_ cl0_3_ a0_3 s0_4_ a0_4 hy45) rfl rfl (.cons (.fam 1 rfl) (.cons (.map 2 rfl) (.cons (.fam 3 rfl) (.cons (.ro 4 rfl) .nil)))) (fun _ => rfl) rfl (fun s46 => ?_)
        cases hm
       ·have hm := optB_s hx40 hm
        refine cj_quiet (by kernel_rfl) (by kernel_rfl) ?_
        refine q_p rfl (p_mv rfl) ?_
        refine q_p rfl (p_nc rfl) ?_
        refine q_p rfl (p_fab fl64_3 rfl) ?_
        refine q_p rfl (p_lbs ty62 rfl (j := 5) rfl rfl) ?_
        refine q_p rfl (p_fab fl53_5 rfl) ?_
        refine q_p rfl (p_lbs ty9 rfl (j := 4) rfl rfl) ?_
        refine q_p rfl (p_lkP (k := a1.Motion) Tryz.underlying62 (keyF9) (fun _ => by kernel_rfl) (.fam 3 rfl) hq42 rfl rfl) ?_
        refine q_p rfl (p_as rfl) ?_
        refine q_nil ?_
        refine NJ.sat (fun _ h => h.giveP0 [3, 0, 0, 0] rfl hx40 hq42) ?_
        refine nj_seq ?_
        refine cj_reg ?_
        refine lp rfl (p_mv rfl) ?_
        refine lp rfl (p_mv rfl) ?_
        refine lp rfl (p_mv rfl) ?_
        obtain ⟨y53, hy53, hm⟩ := bindS hm
        refine r_call [2] cf27 rfl rfl (ok_club_books_members b0_ a0_0 b0_1_ Z0_1_ es0_1_ cl0_1_ a0_1 b0_2_ es0_2_ cl0_2_ a0_2 b0_3_ Z0_3_ es0_3_ cl0_3_ a0_3 s0_4_ a0_4 hy53) rfl rfl (.cons (.fam 2 rfl) (.cons (.map 3 rfl) (.cons (.fam 0 rfl) (.cons (.ro 4 rfl) .nil)))) (fun _ => rfl) rfl (fun s54 => ?_)
        refine LJ.sat (fun _ h => h.takeK 2 rfl fro120 hx40 hq42) ?_
        refine lp rfl (p_nc rfl) ?_
        refine lp rfl (p_fab fl122_0 rfl) ?_
        refine r_sb (vs := [.bool true]) (j := 0) ty4 rfl rfl rfl rfl rfl rfl rfl ?_
        refine lp rfl (p_nc rfl) ?_
        refine lp rfl (p_fab fl122_2 rfl) ?_
        refine r_sb (vs := [s54.v]) (j := 0) ty34 rfl rfl rfl rfl rfl rfl rfl ?_
        refine LJ.sat (fun _ h => h.giveP (t := (true, t43.2.1, y53)) (q' := (q44.1, q44.2.1, q44.2.2.1, q44.2.2.2.1, s54)) [3, 0, 0, 1] rfl hq42 rfl) ?_
        refine lj_nil ?_
        refine nj_blk ?_
        obtain rfl := Option.some.inj hm
        exact nj_rt (Z0_1_, es0_1_, cl0_1_, es0_2_, cl0_2_, (repM Z0_3_ a1.Motion (some (q44.1, q44.2.1, q44.2.2.1, q44.2.2.2.1, s54))), es0_3_, cl0_3_) [2, 3, 3, 0] Tryz.results63 .nil rfl rfl
      ·have hm := ifB_f hb hm
       refine cj_skip ?_
       refine nj_blk ?_
       obtain rfl := Option.some.inj hm
       exact nj_rt (Z0_1_, es0_1_, cl0_1_, es0_2_, cl0_2_, Z0_3_, es0_3_, cl0_3_) [1, 1, 1, 1] Tryz.results63 .nil rfl rfl
theorem ok_club_booksAt (s0_ : SV) (a0 : (List TAct)) (a1 : Int) {r : (Int × (List (ByteArray × (List Tclub_stay))) × (List (ByteArray × Int)) × (List (ByteArray × (Bool × (List (ByteArray × Bool)) × (List ByteArray)))) × (List Int))} (hm : m_club_booksAt a0 a1 = some r) :
  Ctr Tryz.prog 42 [s0_.v, .int .i64 a1].toArray ([] : List Ent) [RdS R53 (SV.v s0_) a0] (X := (Nat × Nat × List (ByteArray × SV) × Array MapEntry × Nat × Nat × Array MapEntry × Nat × Nat × List (ByteArray × Option (Nat × Nat × Array MapEntry × Nat × SV)) × Array MapEntry × Nat × SV)) (fun s => .pointer (some ⟨s.1, 0, none⟩)) (fun s => [.box s.1 64 [.int .i64 r.1, .map (some s.2.1), .map (some s.2.2.2.2.2.1), .map (some s.2.2.2.2.2.2.2.2.1), s.2.2.2.2.2.2.2.2.2.2.2.2.v], .obj (famO kv9 SV.v (rowE R70) s.2.1 r.2.1 s.2.2.1 none s.2.2.2.1 s.2.2.2.2.1), .obj (mapO kv9 s.2.2.2.2.2.1 (mpV vv3 r.2.2.1) s.2.2.2.2.2.2.1 s.2.2.2.2.2.2.2.1), .obj (famO kv9 (vvP Fh120) (entsP Fe120) s.2.2.2.2.2.2.2.2.1 r.2.2.2.1 s.2.2.2.2.2.2.2.2.2.1 none s.2.2.2.2.2.2.2.2.2.2.1 s.2.2.2.2.2.2.2.2.2.2.2.1), .row R3 (SV.v s.2.2.2.2.2.2.2.2.2.2.2.2) r.2.2.2.2]) := by
 unfold m_club_booksAt at hm
 refine ctr_mk (vs := [(0, s0_.v), (1, .int .i64 a1)]) Tryz.func42 rfl Tryz.ntmps42 rfl ⟨rfl, rfl, trivial⟩ (fun w0 A => ?_)
 refine cj_seq ?_
 refine cj_reg ?_
 refine lp rfl (p_as rfl) ?_
 refine lj_seq ?_
 refine cj_seq ?_
 refine cj_reg ?_
 refine lp rfl (p_mv rfl) ?_
 refine r_mkmapF kv9 SV.v (rowE R70) rfl (fun b1 => ?_)
 refine r_mkmap kv9 vv3 rfl (fun b2 => ?_)
 refine r_mkmapF kv9 (vvP Fh120) (entsP Fe120) rfl (fun b3 => ?_)
 refine lp rfl (p_bld [.int .i64 a1, .map (some b1), .map (some b2), .map (some b3), .slice none 0 0] rfl (fun _ => by kernel_rfl)) ?_
 refine r_bx (cs := [.int .i64 a1, .map (some b1), .map (some b2), .map (some b3), .slice none 0 0]) rfl rfl rfl (fun b4 => ?_)
 refine lp rfl (p_as rfl) ?_
 refine lj_seq ?_
 refine cj_seq ?_
 refine cj_seq ?_
 refine cj_reg ?_
 refine lp rfl (p_mv rfl) ?_
 refine lp rfl (p_mv rfl) ?_
 obtain ⟨y5, hy5, hm⟩ := bindS hm
 refine r_call [] cf61 rfl rfl (ok_club_counting s0_ a0 a1 hy5) rfl rfl (.cons (.ro 4 rfl) .nil) (fun _ => rfl) rfl (fun s6 => ?_)
 refine lp rfl (p_len Tryz.underlying22 rfl (.row 0 rfl)) ?_
 refine lp rfl (p_mv rfl) ?_
 refine lj_seq ?_
 refine cj_nil R3 ?_
 obtain ⟨f14, hf14, hm⟩ := bindS hm
 refine cj_range (γ := (List (ByteArray × Option (Nat × Nat × Array MapEntry × Nat × SV)) × Array MapEntry × Nat × Array MapEntry × Nat × List (ByteArray × SV) × Array MapEntry × Nat × SV)) (m := (y5.length : Int)) hf14 ([], #[], 0, #[], 0, [], #[], 0, nilS) (fun u11 g12 => [(0, s0_.v), (4, .pointer none), (5, .pointer (some ⟨b4, 0, none⟩)), (16, s6.v)]) (fun u11 g12 => Sat w0 (keys ([] : List Ent)) A [.row R3 (SV.v s6) y5, .box b4 64 [.int .i64 a1, .map (some b1), .map (some b2), .map (some b3), g12.2.2.2.2.2.2.2.2.v], .obj (famO kv9 (vvP Fh120) (entsP Fe120) b3 u11.1 g12.1 none g12.2.1 g12.2.2.1), .obj (mapO kv9 b2 (mpV vv3 u11.2.1) g12.2.2.2.1 g12.2.2.2.2.1), .obj (famO kv9 SV.v (rowE R70) b1 u11.2.2.1 g12.2.2.2.2.2.1 none g12.2.2.2.2.2.2.1 g12.2.2.2.2.2.2.2.1), .ro (RdS R53 (SV.v s0_) a0), .row R3 (SV.v g12.2.2.2.2.2.2.2.2) u11.2.2.2]) ⟨rfl, rfl, rfl, rfl, rfl, rfl, trivial⟩ (fun _ h => h.picks [1, 1, 1, 1, 1, 1, 0] rfl) (nat_lt _) (fun _ h => (FactAt.get (F := RdS R3 (SV.v s6) y5) (.row 1 rfl) h).1) (fun _ _ => ⟨rfl, rfl, rfl, rfl⟩) ⟨rfl, rfl, rfl, rfl, rfl⟩ rfl rfl rfl (fun u11 g12 e => ?_) (fun aftk13 i7 x8 u11 g12 k13 hx9 hs J hJk13 hBk13 hX I cnk13 => ?_)
 ·have hm := Flow.fin_b e hm
  refine nj_seq ?_
  refine cj_seq ?_
  refine cj_reg ?_
  refine lp rfl (p_mv rfl) ?_
  refine lp rfl (p_as rfl) ?_
  refine lj_seq ?_
  obtain rfl := Option.some.inj hm
  exact cj_rt (b4, b1, g12.2.2.2.2.2.1, g12.2.2.2.2.2.2.1, g12.2.2.2.2.2.2.2.1, b2, g12.2.2.2.1, g12.2.2.2.2.1, b3, g12.1, g12.2.1, g12.2.2.1, g12.2.2.2.2.2.2.2.2) [1, 3, 2, 1, 2] Tryz.results42 (.tmp rfl .nil) rfl rfl
 ·have hRk13 : ∀ t, k13 = .ret t → some t = some r := fun t e => by rw [hX t e] at hm; exact hm
  have hm := hs
  refine cj_seq ?_
  refine cj_reg ?_
  refine lp rfl (p_idx Tryz.underlying22 ty3 rfl rfl (.row 0 rfl) (getI_nat.trans hx9)) ?_
  refine lp rfl (p_lde (o := 0) ty3 rfl rfl (.row 0 rfl) hx9 rfl) ?_
  refine lp rfl (p_as rfl) ?_
  refine lj_seq ?_
  refine cj_seq ?_
  refine cj_reg ?_
  refine lp rfl (p_mv rfl) ?_
  refine lp rfl (p_mv rfl) ?_
  refine lp rfl (p_mv rfl) ?_
  obtain ⟨e16, he16, hm⟩ := bindS hm
  refine lp rfl (p_idx Tryz.underlying26 ty53 rfl rfl (.ro 5 rfl) he16) ?_
  refine lp rfl (p_lea ty53 rfl (.ro 5 rfl) (getI_spec he16).2) ?_
  obtain ⟨y17, hy17, hm⟩ := bindS hm
  refine r_call [1, 1] cf62 rfl rfl (ok_club_books_permits b4 a1 b1 g12.2.2.2.2.2.1 g12.2.2.2.2.2.2.1 g12.2.2.2.2.2.2.2.1 u11.2.2.1 b2 g12.2.2.2.1 g12.2.2.2.2.1 u11.2.1 b3 g12.1 g12.2.1 g12.2.2.1 u11.1 g12.2.2.2.2.2.2.2.2 u11.2.2.2 e16 hy17) rfl rfl (.cons (.fam 2 rfl) (.cons (.map 1 rfl) (.cons (.row 4 rfl) .nil))) (fun _ => rfl) rfl (fun _ => ?_)
  refine lj_seq ?_
  refine cj_if (b := y17) rfl (fun hb => ?_) (fun hb => ?_)
  ·have hm := ifB_t hb hm
   refine cj_reg ?_
   refine lp rfl (p_mv rfl) ?_
   refine lp rfl (p_mv rfl) ?_
   refine lp rfl (p_mv rfl) ?_
   obtain ⟨e18, he18, hm⟩ := bindS hm
   refine lp rfl (p_idx Tryz.underlying26 ty53 rfl rfl (.ro 5 rfl) he18) ?_
   refine lp rfl (p_lea ty53 rfl (.ro 5 rfl) (getI_spec he18).2) ?_
   obtain ⟨y19, hy19, hm⟩ := bindS hm
   refine r_call [0, 3, 2, 0] cf63 rfl rfl (ok_club_books_act b4 a1 b1 g12.2.2.2.2.2.1 g12.2.2.2.2.2.2.1 g12.2.2.2.2.2.2.2.1 u11.2.2.1 b2 g12.2.2.2.1 g12.2.2.2.2.1 u11.2.1 b3 g12.1 g12.2.1 g12.2.2.1 u11.1 g12.2.2.2.2.2.2.2.2 u11.2.2.2 e18 hy19) rfl rfl (.cons (.row 2 rfl) .nil) (fun _ => rfl) rfl (fun ⟨gz20, gz21, gz22, gz23, gz24, gz25, gz26, gz27⟩ => ?_)
   refine lj_nil ?_
   refine nj_blk ?_
   exact cnk13 _ _ (y19.2.2, y19.2.1, y19.1, u11.2.2.2) (gz25, gz26, gz27, gz23, gz24, gz20, gz21, gz22, g12.2.2.2.2.2.2.2.2) (hJk13 _ (Option.some.inj hm).symm) ⟨rfl, rfl, rfl, rfl, rfl, rfl, trivial⟩ (fun _ h => h.picks [4, 0, 2, 1, 0, 0, 0] rfl)
  ·have hm := ifB_f hb hm
   refine cj_reg ?_
   refine lp rfl (p_mv rfl) ?_
   refine lp rfl (p_mv rfl) ?_
   refine lp rfl (p_nc rfl) ?_
   refine lp rfl (p_fab fl64_4 rfl) ?_
   refine lp rfl (p_lbs ty22 rfl (j := 0) rfl rfl) ?_
   refine lp rfl (p_mv rfl) ?_
   refine r_bs R3 [x8] rfl rfl rfl (fun _ => by kernel_rfl) rfl (fun s28 => ?_)
   obtain ⟨q29, hq29, hm⟩ := bindS hm
   refine r_app (k := 7) Tryz.underlying22 ty3 rfl rfl rfl rfl (.row 0 rfl) hq29 rfl (fun s30 => ?_)
   refine lp rfl (p_nc rfl) ?_
   refine lp rfl (p_fab fl64_4 rfl) ?_
   refine r_sb (vs := [s30.v]) (j := 1) ty22 rfl rfl rfl rfl rfl rfl rfl ?_
   refine lj_nil ?_
   refine nj_blk ?_
   exact cnk13 _ _ (u11.1, u11.2.1, u11.2.2.1, q29) (g12.1, g12.2.1, g12.2.2.1, g12.2.2.2.1, g12.2.2.2.2.1, g12.2.2.2.2.2.1, g12.2.2.2.2.2.2.1, g12.2.2.2.2.2.2.2.1, s30) (hJk13 _ (Option.some.inj hm).symm) ⟨rfl, rfl, rfl, rfl, rfl, rfl, trivial⟩ (fun _ h => h.picks [3, 1, 1, 1, 1, 1, 1] rfl)
theorem ok_club_checkedAt (s0_ : SV) (a0 : (List TAct)) (a1 : Int) {r : (Option (Int × (List (ByteArray × (List Tclub_stay))) × (List (ByteArray × Int)) × (List (ByteArray × (Bool × (List (ByteArray × Bool)) × (List ByteArray)))) × (List Int))) × Int} (hm : m_club_checkedAt a0 a1 = some r) :
  Ctr Tryz.prog 26 [s0_.v, .int .i64 a1].toArray ([] : List Ent) [RdS R53 (SV.v s0_) a0] (X := (Nat × Nat × List (ByteArray × SV) × Array MapEntry × Nat × Nat × Array MapEntry × Nat × Nat × List (ByteArray × Option (Nat × Nat × Array MapEntry × Nat × SV)) × Array MapEntry × Nat × SV)) (fun s => .tuple [optV r.1 (.pointer (some ⟨s.1, 0, none⟩)), .int .i64 r.2].toArray) (fun s => (optE r.1 (fun t_ => [.box s.1 64 [.int .i64 t_.1, .map (some s.2.1), .map (some s.2.2.2.2.2.1), .map (some s.2.2.2.2.2.2.2.2.1), s.2.2.2.2.2.2.2.2.2.2.2.2.v], .obj (famO kv9 SV.v (rowE R70) s.2.1 t_.2.1 s.2.2.1 none s.2.2.2.1 s.2.2.2.2.1), .obj (mapO kv9 s.2.2.2.2.2.1 (mpV vv3 t_.2.2.1) s.2.2.2.2.2.2.1 s.2.2.2.2.2.2.2.1), .obj (famO kv9 (vvP Fh120) (entsP Fe120) s.2.2.2.2.2.2.2.2.1 t_.2.2.2.1 s.2.2.2.2.2.2.2.2.2.1 none s.2.2.2.2.2.2.2.2.2.2.1 s.2.2.2.2.2.2.2.2.2.2.2.1), .row R3 (SV.v s.2.2.2.2.2.2.2.2.2.2.2.2) t_.2.2.2.2])) ++ []) := by
 unfold m_club_checkedAt at hm
 refine ctr_mk (vs := [(0, s0_.v), (1, .int .i64 a1)]) Tryz.func26 rfl Tryz.ntmps26 rfl ⟨rfl, rfl, trivial⟩ (fun w0 A => ?_)
 refine cj_seq ?_
 refine cj_reg ?_
 refine lp rfl (p_as rfl) ?_
 refine lp rfl (p_as rfl) ?_
 refine lj_seq ?_
 refine cj_seq ?_
 refine cj_seq ?_
 refine cj_reg ?_
 refine lp rfl (p_mv rfl) ?_
 refine lp rfl (p_mv rfl) ?_
 obtain ⟨y1, hy1, hm⟩ := bindS hm
 refine r_call [] cf41 rfl rfl (ok_club_askedFault s0_ a0 a1 hy1) rfl rfl (.cons (.ro 0 rfl) .nil) (fun _ => rfl) rfl (fun _ => ?_)
 refine lp rfl (p_as rfl) ?_
 refine lj_seq ?_
 refine cj_seq ?_
 refine cj_reg ?_
 refine lp rfl (p_mv rfl) ?_
 refine lp rfl (p_neq rfl rfl) ?_
 refine lj_seq ?_
 refine cj_if (b := y1 != 0) rfl (fun hb => ?_) (fun hb => ?_)
 ·have hm := ifB_t hb hm
  refine cj_seq ?_
  refine cj_reg ?_
  refine lp rfl (p_mv rfl) ?_
  refine lp rfl (p_as rfl) ?_
  refine lp rfl (p_as rfl) ?_
  refine lj_seq ?_
  obtain rfl := Option.some.inj hm
  exact cj_rt (0, 0, [], #[], 0, 0, #[], 0, 0, [], #[], 0, nilS) [] Tryz.results26 (.tmp rfl (.tmp rfl .nil)) rfl rfl
 ·have hm := ifB_f hb hm
  refine cj_skip ?_
  refine nj_seq ?_
  refine cj_seq ?_
  refine cj_reg ?_
  refine lp rfl (p_mv rfl) ?_
  refine lp rfl (p_mv rfl) ?_
  obtain ⟨y2, hy2, hm⟩ := bindS hm
  refine r_call [] cf42 rfl rfl (ok_club_booksAt s0_ a0 a1 hy2) rfl rfl (.cons (.ro 0 rfl) .nil) (fun _ => rfl) rfl (fun ⟨b3, b4, gz5, gz6, gz7, b8, gz9, gz10, b11, gz12, gz13, gz14, s15⟩ => ?_)
  refine lp rfl (p_as rfl) ?_
  refine lp rfl (p_as rfl) ?_
  refine lj_seq ?_
  obtain rfl := Option.some.inj hm
  exact cj_rt (b3, b4, gz5, gz6, gz7, b8, gz9, gz10, b11, gz12, gz13, gz14, s15) [0, 0, 0, 0, 0] Tryz.results26 (.tmp rfl (.tmp rfl .nil)) rfl rfl
theorem ok_club_Refused (s0_ : SV) (a0 : (List TAct)) (a1 : Int) {r : (List Int) × Int} (hm : m_club_Refused a0 a1 = some r) :
  Ctr Tryz.prog 8 [s0_.v, .int .i64 a1].toArray ([] : List Ent) [RdS R53 (SV.v s0_) a0] (X := SV) (fun s => .tuple [s.v, .int .i64 r.2].toArray) (fun s => [.row R3 (SV.v s) r.1]) := by
 unfold m_club_Refused at hm
 refine ctr_mk (vs := [(0, s0_.v), (1, .int .i64 a1)]) Tryz.func8 rfl Tryz.ntmps8 rfl ⟨rfl, rfl, trivial⟩ (fun w0 A => ?_)
 refine cj_seq ?_
 refine cj_reg ?_
 refine lp rfl (p_as rfl) ?_
 refine lp rfl (p_as rfl) ?_
 refine lj_seq ?_
 refine cj_seq ?_
 refine cj_reg ?_
 refine lp rfl (p_mv rfl) ?_
 refine lp rfl (p_mv rfl) ?_
 obtain ⟨y1, hy1, hm⟩ := bindS hm
 refine optB_cases hm (fun ho3 hm => ?_) (fun t2 ho3 hm => ?_)
 ·have hc4 := (ok_club_checkedAt s0_ a0 a1 hy1)
  rw [ho3] at hc4
  simp only [optE_none, optE_some, optV_none, optV_some, List.nil_append, List.cons_append] at hc4
  refine r_call [] cf26 rfl rfl hc4 rfl rfl (.cons (.ro 0 rfl) .nil) (fun _ => rfl) rfl (fun ⟨b5, b6, gz7, gz8, gz9, b10, gz11, gz12, b13, gz14, gz15, gz16, s17⟩ => ?_)
  refine lp rfl (p_mv rfl) ?_
  refine lp rfl (p_ext rfl rfl) ?_
  refine lp rfl (p_ext rfl rfl) ?_
  refine lp rfl (p_as rfl) ?_
  refine lp rfl (p_as rfl) ?_
  refine lj_seq ?_
  refine cj_seq ?_
  refine cj_seq ?_
  refine cj_reg ?_
  refine lp rfl (p_mv rfl) ?_
  refine lp rfl (p_neq rfl rfl) ?_
  refine lj_seq ?_
  refine cj_if (b := y1.2 != 0) rfl (fun hb => ?_) (fun hb => ?_)
  ·have hm := ifB_t hb hm
   refine cj_seq ?_
   refine cj_reg ?_
   refine lp rfl (p_mv rfl) ?_
   refine lp rfl (p_as rfl) ?_
   refine lp rfl (p_as rfl) ?_
   refine lj_seq ?_
   obtain rfl := Option.some.inj hm
   refine cj_nil R3 ?_
   exact cj_rt nilS [0] Tryz.results8 (.tmp rfl (.tmp rfl .nil)) rfl rfl
  ·have hm := ifB_f hb hm
   refine cj_skip ?_
   refine nj_seq ?_
   refine cj_seq ?_
   refine cj_reg ?_
   refine lp rfl (p_mv rfl) ?_
   cases hm
 ·have hc4 := (ok_club_checkedAt s0_ a0 a1 hy1)
  rw [ho3] at hc4
  simp only [optE_none, optE_some, optV_none, optV_some, List.nil_append, List.cons_append] at hc4
  refine r_call [] cf26 rfl rfl hc4 rfl rfl (.cons (.ro 0 rfl) .nil) (fun _ => rfl) rfl (fun ⟨b19, b20, gz21, gz22, gz23, b24, gz25, gz26, b27, gz28, gz29, gz30, s31⟩ => ?_)
  refine lp rfl (p_mv rfl) ?_
  refine lp rfl (p_ext rfl rfl) ?_
  refine lp rfl (p_ext rfl rfl) ?_
  refine lp rfl (p_as rfl) ?_
  refine lp rfl (p_as rfl) ?_
  refine lj_seq ?_
  refine cj_seq ?_
  refine cj_seq ?_
  refine cj_reg ?_
  refine lp rfl (p_mv rfl) ?_
  refine lp rfl (p_neq rfl rfl) ?_
  refine lj_seq ?_
  refine cj_if (b := y1.2 != 0) rfl (fun hb => ?_) (fun hb => ?_)
  ·have hm := ifB_t hb hm
   refine cj_seq ?_
   refine cj_reg ?_
   refine lp rfl (p_mv rfl) ?_
   refine lp rfl (p_as rfl) ?_
   refine lp rfl (p_as rfl) ?_
   refine lj_seq ?_
   obtain rfl := Option.some.inj hm
   refine cj_nil R3 ?_
   exact cj_rt nilS [0] Tryz.results8 (.tmp rfl (.tmp rfl .nil)) rfl rfl
  ·have hm := ifB_f hb hm
   refine cj_skip ?_
   refine nj_seq ?_
   refine cj_seq ?_
   refine cj_reg ?_
   refine lp rfl (p_mv rfl) ?_
   refine lp rfl (p_nc rfl) ?_
   refine lp rfl (p_fab fl64_4 rfl) ?_
   refine lp rfl (p_lbs ty22 rfl (j := 0) rfl rfl) ?_
   refine lp rfl (p_as rfl) ?_
   refine lp rfl (p_as rfl) ?_
   refine lj_seq ?_
   obtain rfl := Option.some.inj hm
   exact cj_rt s31 [4] Tryz.results8 (.tmp rfl (.tmp rfl .nil)) rfl rfl
theorem ok_club_Members (s0_ : SV) (a0 : (List TAct)) (a1 : Int) {r : (List ByteArray) × Int} (hm : m_club_Members a0 a1 = some r) :
  Ctr Tryz.prog 9 [s0_.v, .int .i64 a1].toArray ([] : List Ent) [RdS R53 (SV.v s0_) a0] (X := SV) (fun s => .tuple [s.v, .int .i64 r.2].toArray) (fun s => [.row R9 (SV.v s) r.1]) := by
 unfold m_club_Members at hm
 refine ctr_mk (vs := [(0, s0_.v), (1, .int .i64 a1)]) Tryz.func9 rfl Tryz.ntmps9 rfl ⟨rfl, rfl, trivial⟩ (fun w0 A => ?_)
 refine cj_seq ?_
 refine cj_reg ?_
 refine lp rfl (p_as rfl) ?_
 refine lp rfl (p_as rfl) ?_
 refine lj_seq ?_
 refine cj_seq ?_
 refine cj_reg ?_
 refine lp rfl (p_mv rfl) ?_
 refine lp rfl (p_mv rfl) ?_
 obtain ⟨y1, hy1, hm⟩ := bindS hm
 refine optB_cases hm (fun ho3 hm => ?_) (fun t2 ho3 hm => ?_)
 ·have hc4 := (ok_club_checkedAt s0_ a0 a1 hy1)
  rw [ho3] at hc4
  simp only [optE_none, optE_some, optV_none, optV_some, List.nil_append, List.cons_append] at hc4
  refine r_call [] cf26 rfl rfl hc4 rfl rfl (.cons (.ro 0 rfl) .nil) (fun _ => rfl) rfl (fun ⟨b5, b6, gz7, gz8, gz9, b10, gz11, gz12, b13, gz14, gz15, gz16, s17⟩ => ?_)
  refine lp rfl (p_mv rfl) ?_
  refine lp rfl (p_ext rfl rfl) ?_
  refine lp rfl (p_ext rfl rfl) ?_
  refine lp rfl (p_as rfl) ?_
  refine lp rfl (p_as rfl) ?_
  refine lj_seq ?_
  refine cj_seq ?_
  refine cj_seq ?_
  refine cj_reg ?_
  refine lp rfl (p_mv rfl) ?_
  refine lp rfl (p_neq rfl rfl) ?_
  refine lj_seq ?_
  refine cj_if (b := y1.2 != 0) rfl (fun hb => ?_) (fun hb => ?_)
  ·have hm := ifB_t hb hm
   refine cj_seq ?_
   refine cj_reg ?_
   refine lp rfl (p_mv rfl) ?_
   refine lp rfl (p_as rfl) ?_
   refine lp rfl (p_as rfl) ?_
   refine lj_seq ?_
   obtain rfl := Option.some.inj hm
   refine cj_nil R9 ?_
   exact cj_rt nilS [0] Tryz.results9 (.tmp rfl (.tmp rfl .nil)) rfl rfl
  ·have hm := ifB_f hb hm
   refine cj_skip ?_
   refine nj_seq ?_
   refine cj_seq ?_
   refine cj_reg ?_
   refine lp rfl (p_mv rfl) ?_
   cases hm
 ·have hc4 := (ok_club_checkedAt s0_ a0 a1 hy1)
  rw [ho3] at hc4
  simp only [optE_none, optE_some, optV_none, optV_some, List.nil_append, List.cons_append] at hc4
  refine r_call [] cf26 rfl rfl hc4 rfl rfl (.cons (.ro 0 rfl) .nil) (fun _ => rfl) rfl (fun ⟨b19, b20, gz21, gz22, gz23, b24, gz25, gz26, b27, gz28, gz29, gz30, s31⟩ => ?_)
  refine lp rfl (p_mv rfl) ?_
  refine lp rfl (p_ext rfl rfl) ?_
  refine lp rfl (p_ext rfl rfl) ?_
  refine lp rfl (p_as rfl) ?_
  refine lp rfl (p_as rfl) ?_
  refine lj_seq ?_
  refine cj_seq ?_
  refine cj_seq ?_
  refine cj_reg ?_
  refine lp rfl (p_mv rfl) ?_
  refine lp rfl (p_neq rfl rfl) ?_
  refine lj_seq ?_
  refine cj_if (b := y1.2 != 0) rfl (fun hb => ?_) (fun hb => ?_)
  ·have hm := ifB_t hb hm
   refine cj_seq ?_
   refine cj_reg ?_
   refine lp rfl (p_mv rfl) ?_
   refine lp rfl (p_as rfl) ?_
   refine lp rfl (p_as rfl) ?_
   refine lj_seq ?_
   obtain rfl := Option.some.inj hm
   refine cj_nil R9 ?_
   exact cj_rt nilS [0] Tryz.results9 (.tmp rfl (.tmp rfl .nil)) rfl rfl
  ·have hm := ifB_f hb hm
   refine cj_skip ?_
   refine nj_seq ?_
   refine cj_seq ?_
   refine cj_reg ?_
   refine lp rfl (p_mv rfl) ?_
   obtain ⟨y33, hy33, hm⟩ := bindS hm
   refine r_call [0] cf27 rfl rfl (ok_club_books_members b19 t2.1 b20 gz21 gz22 gz23 t2.2.1 b24 gz25 gz26 t2.2.2.1 b27 gz28 gz29 gz30 t2.2.2.2.1 s31 t2.2.2.2.2 hy33) rfl rfl (.cons (.fam 0 rfl) (.cons (.map 1 rfl) (.cons (.fam 2 rfl) (.cons (.row 3 rfl) .nil)))) (fun _ => rfl) rfl (fun s34 => ?_)
   refine lp rfl (p_as rfl) ?_
   refine lp rfl (p_as rfl) ?_
   refine lj_seq ?_
   obtain rfl := Option.some.inj hm
   exact cj_rt s34 [0] Tryz.results9 (.tmp rfl (.tmp rfl .nil)) rfl rfl
theorem ok_club_named (s0_ : SV) (a0 : (List TAct)) (a1 : ByteArray) (a2 : Int) {r : (Option (Int × (List (ByteArray × (List Tclub_stay))) × (List (ByteArray × Int)) × (List (ByteArray × (Bool × (List (ByteArray × Bool)) × (List ByteArray)))) × (List Int))) × Int} (hm : m_club_named a0 a1 a2 = some r) :
  Ctr Tryz.prog 28 [s0_.v, .string a1, .int .i64 a2].toArray ([] : List Ent) [RdS R53 (SV.v s0_) a0] (X := (Nat × Nat × List (ByteArray × SV) × Array MapEntry × Nat × Nat × Array MapEntry × Nat × Nat × List (ByteArray × Option (Nat × Nat × Array MapEntry × Nat × SV)) × Array MapEntry × Nat × SV)) (fun s => .tuple [optV r.1 (.pointer (some ⟨s.1, 0, none⟩)), .int .i64 r.2].toArray) (fun s => (optE r.1 (fun t_ => [.box s.1 64 [.int .i64 t_.1, .map (some s.2.1), .map (some s.2.2.2.2.2.1), .map (some s.2.2.2.2.2.2.2.2.1), s.2.2.2.2.2.2.2.2.2.2.2.2.v], .obj (famO kv9 SV.v (rowE R70) s.2.1 t_.2.1 s.2.2.1 none s.2.2.2.1 s.2.2.2.2.1), .obj (mapO kv9 s.2.2.2.2.2.1 (mpV vv3 t_.2.2.1) s.2.2.2.2.2.2.1 s.2.2.2.2.2.2.2.1), .obj (famO kv9 (vvP Fh120) (entsP Fe120) s.2.2.2.2.2.2.2.2.1 t_.2.2.2.1 s.2.2.2.2.2.2.2.2.2.1 none s.2.2.2.2.2.2.2.2.2.2.1 s.2.2.2.2.2.2.2.2.2.2.2.1), .row R3 (SV.v s.2.2.2.2.2.2.2.2.2.2.2.2) t_.2.2.2.2])) ++ []) := by
 unfold m_club_named at hm
 refine ctr_mk (vs := [(0, s0_.v), (1, .string a1), (2, .int .i64 a2)]) Tryz.func28 rfl Tryz.ntmps28 rfl ⟨rfl, rfl, rfl, trivial⟩ (fun w0 A => ?_)
 refine cj_seq ?_
 refine cj_reg ?_
 refine lp rfl (p_as rfl) ?_
 refine lp rfl (p_as rfl) ?_
 refine lj_seq ?_
 refine cj_seq ?_
 refine cj_reg ?_
 refine lp rfl (p_mv rfl) ?_
 refine lp rfl (p_mv rfl) ?_
 obtain ⟨y1, hy1, hm⟩ := bindS hm
 refine optB_cases hm (fun ho3 hm => ?_) (fun t2 ho3 hm => ?_)
 ·have hc4 := (ok_club_checkedAt s0_ a0 a2 hy1)
  rw [ho3] at hc4
  simp only [optE_none, optE_some, optV_none, optV_some, List.nil_append, List.cons_append] at hc4
  refine r_call [] cf26 rfl rfl hc4 rfl rfl (.cons (.ro 0 rfl) .nil) (fun _ => rfl) rfl (fun ⟨b5, b6, gz7, gz8, gz9, b10, gz11, gz12, b13, gz14, gz15, gz16, s17⟩ => ?_)
  refine lp rfl (p_mv rfl) ?_
  refine lp rfl (p_ext rfl rfl) ?_
  refine lp rfl (p_ext rfl rfl) ?_
  refine lp rfl (p_as rfl) ?_
  refine lp rfl (p_as rfl) ?_
  refine lj_seq ?_
  refine cj_seq ?_
  refine cj_seq ?_
  refine cj_reg ?_
  refine lp rfl (p_mv rfl) ?_
  refine lp rfl (p_neq rfl rfl) ?_
  refine lj_seq ?_
  refine cj_if (b := y1.2 != 0) rfl (fun hb => ?_) (fun hb => ?_)
  ·have hm := ifB_t hb hm
   refine cj_seq ?_
   refine cj_reg ?_
   refine lp rfl (p_mv rfl) ?_
   refine lp rfl (p_as rfl) ?_
   refine lp rfl (p_as rfl) ?_
   refine lj_seq ?_
   obtain rfl := Option.some.inj hm
   exact cj_rt (0, 0, [], #[], 0, 0, #[], 0, 0, [], #[], 0, nilS) [] Tryz.results28 (.tmp rfl (.tmp rfl .nil)) rfl rfl
  ·have hm := ifB_f hb hm
   refine cj_skip ?_
   refine nj_seq ?_
   refine cj_seq ?_
   refine cj_seq ?_
   refine cj_reg ?_
   refine lp rfl (p_mv rfl) ?_
   obtain ⟨y18, hy18, hm⟩ := bindS hm
   refine r_call [] cf45 rfl rfl (ok_kit_IsKey a1 hy18) rfl rfl .nil (fun _ => rfl) rfl (fun _ => ?_)
   refine lp rfl (p_not rfl) ?_
   refine lj_seq ?_
   refine cj_if (b := !y18) rfl (fun hb => ?_) (fun hb => ?_)
   ·have hm := ifB_t hb hm
    refine cj_seq ?_
    refine cj_reg ?_
    refine lp rfl (p_as rfl) ?_
    refine lp rfl (p_as rfl) ?_
    refine lj_seq ?_
    obtain rfl := Option.some.inj hm
    exact cj_rt (0, 0, [], #[], 0, 0, #[], 0, 0, [], #[], 0, nilS) [] Tryz.results28 (.tmp rfl (.tmp rfl .nil)) rfl rfl
   ·have hm := ifB_f hb hm
    refine cj_skip ?_
    refine nj_seq ?_
    refine cj_seq ?_
    refine cj_reg ?_
    refine lp rfl (p_mv rfl) ?_
    refine lp rfl (p_as rfl) ?_
    refine lp rfl (p_as rfl) ?_
    refine lj_seq ?_
    obtain rfl := Option.some.inj hm
    exact cj_rt (0, 0, [], #[], 0, 0, #[], 0, 0, [], #[], 0, nilS) [] Tryz.results28 (.tmp rfl (.tmp rfl .nil)) rfl rfl
 ·have hc4 := (ok_club_checkedAt s0_ a0 a2 hy1)
  rw [ho3] at hc4
  simp only [optE_none, optE_some, optV_none, optV_some, List.nil_append, List.cons_append] at hc4
  refine r_call [] cf26 rfl rfl hc4 rfl rfl (.cons (.ro 0 rfl) .nil) (fun _ => rfl) rfl (fun ⟨b19, b20, gz21, gz22, gz23, b24, gz25, gz26, b27, gz28, gz29, gz30, s31⟩ => ?_)
  refine lp rfl (p_mv rfl) ?_
  refine lp rfl (p_ext rfl rfl) ?_
  refine lp rfl (p_ext rfl rfl) ?_
  refine lp rfl (p_as rfl) ?_
  refine lp rfl (p_as rfl) ?_
  refine lj_seq ?_
  refine cj_seq ?_
  refine cj_seq ?_
  refine cj_reg ?_
  refine lp rfl (p_mv rfl) ?_
  refine lp rfl (p_neq rfl rfl) ?_
  refine lj_seq ?_
  refine cj_if (b := y1.2 != 0) rfl (fun hb => ?_) (fun hb => ?_)
  ·have hm := ifB_t hb hm
   refine cj_seq ?_
   refine cj_reg ?_
   refine lp rfl (p_mv rfl) ?_
   refine lp rfl (p_as rfl) ?_
   refine lp rfl (p_as rfl) ?_
   refine lj_seq ?_
   obtain rfl := Option.some.inj hm
   exact cj_rt (0, 0, [], #[], 0, 0, #[], 0, 0, [], #[], 0, nilS) [] Tryz.results28 (.tmp rfl (.tmp rfl .nil)) rfl rfl
  ·have hm := ifB_f hb hm
   refine cj_skip ?_
   refine nj_seq ?_
   refine cj_seq ?_
   refine cj_seq ?_
   refine cj_reg ?_
   refine lp rfl (p_mv rfl) ?_
   obtain ⟨y32, hy32, hm⟩ := bindS hm
   refine r_call [] cf45 rfl rfl (ok_kit_IsKey a1 hy32) rfl rfl .nil (fun _ => rfl) rfl (fun _ => ?_)
   refine lp rfl (p_not rfl) ?_
   refine lj_seq ?_
   refine cj_if (b := !y32) rfl (fun hb => ?_) (fun hb => ?_)
   ·have hm := ifB_t hb hm
    refine cj_seq ?_
    refine cj_reg ?_
    refine lp rfl (p_as rfl) ?_
    refine lp rfl (p_as rfl) ?_
    refine lj_seq ?_
    obtain rfl := Option.some.inj hm
    exact cj_rt (0, 0, [], #[], 0, 0, #[], 0, 0, [], #[], 0, nilS) [] Tryz.results28 (.tmp rfl (.tmp rfl .nil)) rfl rfl
   ·have hm := ifB_f hb hm
    refine cj_skip ?_
    refine nj_seq ?_
    refine cj_seq ?_
    refine cj_reg ?_
    refine lp rfl (p_mv rfl) ?_
    refine lp rfl (p_as rfl) ?_
    refine lp rfl (p_as rfl) ?_
    refine lj_seq ?_
    obtain rfl := Option.some.inj hm
    exact cj_rt (b19, b20, gz21, gz22, gz23, b24, gz25, gz26, b27, gz28, gz29, gz30, s31) [0, 0, 0, 0, 0] Tryz.results28 (.tmp rfl (.tmp rfl .nil)) rfl rfl
theorem ok_club_Since (s0_ : SV) (a0 : (List TAct)) (a1 : ByteArray) (a2 : Int) {r : Int × Bool × Int} (hm : m_club_Since a0 a1 a2 = some r) :
  Ctr Tryz.prog 10 [s0_.v, .string a1, .int .i64 a2].toArray ([] : List Ent) [RdS R53 (SV.v s0_) a0] (X := Unit) (fun _ => .tuple [.int .i64 r.1, .bool r.2.1, .int .i64 r.2.2].toArray) (fun _ => []) := by
 unfold m_club_Since at hm
 refine ctr_mk (vs := [(0, s0_.v), (1, .string a1), (2, .int .i64 a2)]) Tryz.func10 rfl Tryz.ntmps10 rfl ⟨rfl, rfl, rfl, trivial⟩ (fun w0 A => ?_)
 refine cj_seq ?_
 refine cj_reg ?_
 refine lp rfl (p_as rfl) ?_
 refine lp rfl (p_as rfl) ?_
 refine lp rfl (p_as rfl) ?_
 refine lj_seq ?_
 refine cj_seq ?_
 refine cj_reg ?_
 refine lp rfl (p_mv rfl) ?_
 refine lp rfl (p_mv rfl) ?_
 refine lp rfl (p_mv rfl) ?_
 obtain ⟨y1, hy1, hm⟩ := bindS hm
 refine optB_cases hm (fun ho3 hm => ?_) (fun t2 ho3 hm => ?_)
 ·have hc4 := (ok_club_named s0_ a0 a1 a2 hy1)
  rw [ho3] at hc4
  simp only [optE_none, optE_some, optV_none, optV_some, List.nil_append, List.cons_append] at hc4
  refine r_call [] cf28 rfl rfl hc4 rfl rfl (.cons (.ro 0 rfl) .nil) (fun _ => rfl) rfl (fun ⟨b5, b6, gz7, gz8, gz9, b10, gz11, gz12, b13, gz14, gz15, gz16, s17⟩ => ?_)
  refine lp rfl (p_mv rfl) ?_
  refine lp rfl (p_ext rfl rfl) ?_
  refine lp rfl (p_ext rfl rfl) ?_
  refine lp rfl (p_as rfl) ?_
  refine lp rfl (p_as rfl) ?_
  refine lj_seq ?_
  refine cj_seq ?_
  refine cj_seq ?_
  refine cj_reg ?_
  refine lp rfl (p_mv rfl) ?_
  refine lp rfl (p_neq rfl rfl) ?_
  refine lj_seq ?_
  refine cj_if (b := y1.2 != 0) rfl (fun hb => ?_) (fun hb => ?_)
  ·have hm := ifB_t hb hm
   refine cj_seq ?_
   refine cj_reg ?_
   refine lp rfl (p_mv rfl) ?_
   refine lp rfl (p_as rfl) ?_
   refine lp rfl (p_as rfl) ?_
   refine lp rfl (p_as rfl) ?_
   refine lj_seq ?_
   obtain rfl := Option.some.inj hm
   exact cj_rt () [] Tryz.results10 (.tmp rfl (.tmp rfl (.tmp rfl .nil))) rfl rfl
  ·have hm := ifB_f hb hm
   refine cj_skip ?_
   refine nj_seq ?_
   refine cj_seq ?_
   refine cj_seq ?_
   refine cj_reg ?_
   refine lp rfl (p_mv rfl) ?_
   refine lp rfl (p_mv rfl) ?_
   cases hm
 ·have hc4 := (ok_club_named s0_ a0 a1 a2 hy1)
  rw [ho3] at hc4
  simp only [optE_none, optE_some, optV_none, optV_some, List.nil_append, List.cons_append] at hc4
  refine r_call [] cf28 rfl rfl hc4 rfl rfl (.cons (.ro 0 rfl) .nil) (fun _ => rfl) rfl (fun ⟨b18, b19, gz20, gz21, gz22, b23, gz24, gz25, b26, gz27, gz28, gz29, s30⟩ => ?_)
  refine lp rfl (p_mv rfl) ?_
  refine lp rfl (p_ext rfl rfl) ?_
  refine lp rfl (p_ext rfl rfl) ?_
  refine lp rfl (p_as rfl) ?_
  refine lp rfl (p_as rfl) ?_
  refine lj_seq ?_
  refine cj_seq ?_
  refine cj_seq ?_
  refine cj_reg ?_
  refine lp rfl (p_mv rfl) ?_
  refine lp rfl (p_neq rfl rfl) ?_
  refine lj_seq ?_
  refine cj_if (b := y1.2 != 0) rfl (fun hb => ?_) (fun hb => ?_)
  ·have hm := ifB_t hb hm
   refine cj_seq ?_
   refine cj_reg ?_
   refine lp rfl (p_mv rfl) ?_
   refine lp rfl (p_as rfl) ?_
   refine lp rfl (p_as rfl) ?_
   refine lp rfl (p_as rfl) ?_
   refine lj_seq ?_
   obtain rfl := Option.some.inj hm
   exact cj_rt () [] Tryz.results10 (.tmp rfl (.tmp rfl (.tmp rfl .nil))) rfl rfl
  ·have hm := ifB_f hb hm
   refine cj_skip ?_
   refine nj_seq ?_
   refine cj_seq ?_
   refine cj_seq ?_
   refine cj_reg ?_
   refine lp rfl (p_mv rfl) ?_
   refine lp rfl (p_mv rfl) ?_
   obtain ⟨y31, hy31, hm⟩ := bindS hm
   refine r_call [0] cf29 rfl rfl (ok_club_books_isMember b18 t2.1 b19 gz20 gz21 gz22 t2.2.1 b23 gz24 gz25 t2.2.2.1 b26 gz27 gz28 gz29 t2.2.2.2.1 s30 t2.2.2.2.2 a1 hy31) rfl rfl (.cons (.fam 0 rfl) (.cons (.map 1 rfl) (.cons (.fam 2 rfl) (.cons (.row 3 rfl) .nil)))) (fun _ => rfl) rfl (fun _ => ?_)
   refine lp rfl (p_not rfl) ?_
   refine lj_seq ?_
   refine cj_if (b := !y31) rfl (fun hb => ?_) (fun hb => ?_)
   ·have hm := ifB_t hb hm
    refine cj_seq ?_
    refine cj_reg ?_
    refine lp rfl (p_as rfl) ?_
    refine lp rfl (p_as rfl) ?_
    refine lp rfl (p_as rfl) ?_
    refine lj_seq ?_
    obtain rfl := Option.some.inj hm
    exact cj_rt () [] Tryz.results10 (.tmp rfl (.tmp rfl (.tmp rfl .nil))) rfl rfl
   ·have hm := ifB_f hb hm
    refine cj_skip ?_
    refine nj_seq ?_
    refine cj_seq ?_
    refine cj_reg ?_
    refine lp rfl (p_mv rfl) ?_
    refine lp rfl (p_nc rfl) ?_
    refine lp rfl (p_fab fl64_1 rfl) ?_
    refine lp rfl (p_lbs ty61 rfl (j := 0) rfl rfl) ?_
    refine lp rfl (p_mv rfl) ?_
    refine lp rfl (p_lkm (vv := SV.v) (k := a1) (z := nilS) Tryz.underlying61 (keyF9) (fun _ => by kernel_rfl) (.imp (.fam 1 rfl) (fun _ h => h.map)) rfl rfl) ?_
    refine lp rfl (p_as rfl) ?_
    refine lj_seq ?_
    refine cj_seq ?_
    refine cj_reg ?_
    refine lp rfl (p_mv rfl) ?_
    refine lp rfl (p_mv rfl) ?_
    refine lp rfl (p_len Tryz.underlying68 rfl (.imp (.fam 1 rfl) (fun _ h => h.look a1))) ?_
    refine lp rfl (p_sub rfl rfl) ?_
    obtain ⟨e32, he32, hm⟩ := bindS hm
    refine lp rfl (p_idx Tryz.underlying68 ty70 rfl rfl (.imp (.fam 1 rfl) (fun _ h => h.look a1)) he32) ?_
    refine lp rfl (p_fae fl70_0 rfl (.imp (.fam 1 rfl) (fun _ h => h.look a1)) (getI_spec he32).2) ?_
    refine lp rfl (p_lde (o := 0) ty3 rfl rfl (.imp (.fam 1 rfl) (fun _ h => h.look a1)) (getI_spec he32).2 rfl) ?_
    refine lp rfl (p_as rfl) ?_
    refine lp rfl (p_as rfl) ?_
    refine lp rfl (p_as rfl) ?_
    refine lj_seq ?_
    obtain rfl := Option.some.inj hm
    exact cj_rt () [] Tryz.results10 (.tmp rfl (.tmp rfl (.tmp rfl .nil))) rfl rfl
theorem ok_gleeref2_in (a0 : Int) (a1 : Int) (a2 : Int) {r : Bool} (hm : m_gleeref2_in a0 a1 a2 = some r) :
  Ctr Tryz.prog 51 [.int .i64 a0, .int .i64 a1, .int .i64 a2].toArray ([] : List Ent) [] (X := Unit) (fun _ => .bool r) (fun _ => []) := by
 unfold m_gleeref2_in at hm
 refine ctr_mk (vs := [(0, .int .i64 a0), (1, .int .i64 a1), (2, .int .i64 a2)]) Tryz.func51 rfl Tryz.ntmps51 rfl ⟨rfl, rfl, rfl, trivial⟩ (fun w0 A => ?_)
 refine cj_seq ?_
 refine cj_reg ?_
 refine lp rfl (p_as rfl) ?_
 refine lj_seq ?_
 refine cj_seq ?_
 refine cj_reg ?_
 refine lp rfl (p_mv rfl) ?_
 refine lp rfl (p_mv rfl) ?_
 refine lp rfl (p_leq rfl rfl) ?_
 refine lp rfl (p_mv rfl) ?_
 refine lcase (i := 10) (decide (a1 ≤ a0)) rfl (fun hb => ?_) (fun hb => ?_)
 ·have hm := ifB_t hb hm
  refine lg true rfl rfl rfl ?_
  refine lp rfl (p_mv rfl) ?_
  refine lg true rfl rfl rfl ?_
  refine lp rfl (p_mv rfl) ?_
  refine lg true rfl rfl rfl ?_
  refine lp rfl (p_leq rfl rfl) ?_
  refine lp rfl (p_pkt rfl rfl) ?_
  refine lp rfl (p_as rfl) ?_
  refine lj_seq ?_
  obtain rfl := Option.some.inj hm
  exact cj_rt () [] Tryz.results51 (.tmp rfl .nil) rfl rfl
 ·have hm := ifB_f hb hm
  refine ls true rfl rfl rfl rfl ?_
  refine ls true rfl rfl rfl rfl ?_
  refine ls true rfl rfl rfl rfl ?_
  refine lp rfl (p_pkf rfl rfl) ?_
  refine lp rfl (p_as rfl) ?_
  refine lj_seq ?_
  obtain rfl := Option.some.inj hm
  exact cj_rt () [] Tryz.results51 (.tmp rfl .nil) rfl rfl
theorem ok_gleeref2_only (a0 : ByteArray) (a1 : ByteArray) {r : Bool} (hm : m_gleeref2_only a0 a1 = some r) :
  Ctr Tryz.prog 52 [.string a0, .string a1].toArray ([] : List Ent) [] (X := Unit) (fun _ => .bool r) (fun _ => []) := by
 unfold m_gleeref2_only at hm
 refine ctr_mk (vs := [(0, .string a0), (1, .string a1)]) Tryz.func52 rfl Tryz.ntmps52 rfl ⟨rfl, rfl, trivial⟩ (fun w0 A => ?_)
 refine cj_seq ?_
 refine cj_reg ?_
 refine lp rfl (p_as rfl) ?_
 refine lj_seq ?_
 refine cj_seq ?_
 refine cj_seq ?_
 refine cj_reg ?_
 refine lp rfl (p_mv rfl) ?_
 refine lp rfl (p_lens Tryz.underlying9 rfl) ?_
 refine lp rfl (p_mv rfl) ?_
 refine lj_seq ?_
 obtain ⟨L10, hL10, hm⟩ := bindS hm
 obtain ⟨f7, hf7, hm⟩ := bindS hm
 refine cj_range (γ := Unit) (m := (a0.size : Int)) hf7 () (fun u4 g5 => [(0, .string a0), (1, .string a1), (4, .bool false)]) (fun u4 g5 => Sat w0 (keys ([] : List Ent)) A []) ⟨rfl, rfl, rfl, rfl, rfl, trivial⟩ (fun _ h => h.picks [] rfl) (rangeI_spec hL10).1 (fun _ _ => (rangeI_spec hL10).2) (fun _ _ => ⟨rfl, rfl, rfl, rfl⟩) ⟨rfl, rfl, rfl, rfl, rfl⟩ rfl rfl rfl (fun u4 g5 e => ?_) (fun aftk6 i1 x2 u4 g5 k6 hx3 hs J hJk6 hBk6 hX I cnk6 => ?_)
 ·have hm := Flow.fin_b e hm
  refine nj_seq ?_
  refine cj_seq ?_
  refine cj_reg ?_
  refine lp rfl (p_as rfl) ?_
  refine lj_seq ?_
  obtain rfl := Option.some.inj hm
  exact cj_rt () [] Tryz.results52 (.tmp rfl .nil) rfl rfl
 ·have hRk6 : ∀ t, k6 = .ret t → some t = some r := fun t e => by rw [hX t e] at hm; exact hm
  have hm := hs
  refine cj_seq ?_
  refine cj_reg ?_
  refine lp rfl (p_mv rfl) ?_
  refine lp rfl (p_as rfl) ?_
  refine lj_seq ?_
  refine cj_seq ?_
  refine cj_reg ?_
  refine lp rfl (p_mv rfl) ?_
  refine lp rfl (p_mv rfl) ?_
  refine lp rfl (p_mv rfl) ?_
  obtain ⟨c8, hc8, hm⟩ := bindS hm
  refine lp rfl (p_stri Tryz.underlying9 rfl rfl hc8) ?_
  obtain ⟨y9, hy9, hm⟩ := bindS hm
  refine r_call [] cf66 rfl rfl (ok_strings_IndexByte a1 c8 hy9) rfl rfl .nil (fun _ => rfl) rfl (fun _ => ?_)
  refine lp rfl (p_lss rfl rfl) ?_
  refine lj_seq ?_
  refine cj_if (b := decide (y9 < 0)) rfl (fun hb => ?_) (fun hb => ?_)
  ·have hm := ifB_t hb hm
   refine cj_seq ?_
   refine cj_reg ?_
   refine lp rfl (p_as rfl) ?_
   refine lj_seq ?_
   have hm := hRk6 _ (Option.some.inj hm).symm
   obtain rfl := Option.some.inj hm
   exact cj_rt () [] Tryz.results52 (.tmp rfl .nil) rfl rfl
  ·have hm := ifB_f hb hm
   refine cj_skip ?_
   refine nj_blk ?_
   exact cnk6 _ _ () () (hJk6 _ (Option.some.inj hm).symm) ⟨rfl, rfl, rfl, rfl, rfl, trivial⟩ (fun _ h => h.picks [] rfl)
theorem ok_gleeref2_Key (a0 : ByteArray) {r : Bool} (hm : m_gleeref2_Key a0 = some r) :
  Ctr Tryz.prog 33 [.string a0].toArray ([] : List Ent) [] (X := Unit) (fun _ => .bool r) (fun _ => []) := by
 unfold m_gleeref2_Key at hm
 refine ctr_mk (vs := [(0, .string a0)]) Tryz.func33 rfl Tryz.ntmps33 rfl ⟨rfl, trivial⟩ (fun w0 A => ?_)
 refine cj_seq ?_
 refine cj_reg ?_
 refine lp rfl (p_as rfl) ?_
 refine lj_seq ?_
 refine cj_seq ?_
 refine cj_reg ?_
 refine lp rfl (p_mv rfl) ?_
 refine lp rfl (p_lens Tryz.underlying9 rfl) ?_
 obtain ⟨y1, hy1, hm⟩ := bindS hm
 refine r_call [] cf51 rfl rfl (ok_gleeref2_in (a0.size : Int) 1 40 hy1) rfl rfl .nil (fun _ => rfl) rfl (fun _ => ?_)
 refine lp rfl (p_mv rfl) ?_
 refine lcase (i := 6) y1 rfl (fun hb => ?_) (fun hb => ?_)
 ·have hm := ifB_t hb hm
  refine lg true rfl rfl rfl ?_
  refine lp rfl (p_mv rfl) ?_
  refine lg true rfl rfl rfl ?_
  obtain ⟨c2, hc2, hm⟩ := bindS hm
  refine lp rfl (p_strs Tryz.underlying9 rfl rfl rfl rfl rfl rfl rfl hc2) ?_
  refine lg true rfl rfl rfl ?_
  obtain ⟨y3, hy3, hm⟩ := bindS hm
  refine r_call [] cf52 rfl rfl (ok_gleeref2_only c2 (ByteArray.mk [97, 98, 99, 100, 101, 102, 103, 104, 105, 106, 107, 108, 109, 110, 111, 112, 113, 114, 115, 116, 117, 118, 119, 120, 121, 122].toArray) hy3) rfl rfl .nil (fun _ => rfl) rfl (fun _ => ?_)
  refine lp rfl (p_pkt rfl rfl) ?_
  refine lp rfl (p_mv rfl) ?_
  refine lcase (i := 11) y3 rfl (fun hb => ?_) (fun hb => ?_)
  ·have hm := ifB_t hb hm
   refine lg true rfl rfl rfl ?_
   refine lp rfl (p_mv rfl) ?_
   refine lg true rfl rfl rfl ?_
   obtain ⟨y4, hy4, hm⟩ := bindS hm
   refine r_call [] cf52 rfl rfl (ok_gleeref2_only a0 (ByteArray.mk [97, 98, 99, 100, 101, 102, 103, 104, 105, 106, 107, 108, 109, 110, 111, 112, 113, 114, 115, 116, 117, 118, 119, 120, 121, 122, 48, 49, 50, 51, 52, 53, 54, 55, 56, 57, 45, 95].toArray) hy4) rfl rfl .nil (fun _ => rfl) rfl (fun _ => ?_)
   refine lp rfl (p_pkt rfl rfl) ?_
   refine lp rfl (p_as rfl) ?_
   refine lj_seq ?_
   obtain rfl := Option.some.inj hm
   exact cj_rt () [] Tryz.results33 (.tmp rfl .nil) rfl rfl
  ·have hm := ifB_f hb hm
   refine ls true rfl rfl rfl rfl ?_
   refine ls true rfl rfl rfl rfl ?_
   refine lp rfl (p_pkf rfl rfl) ?_
   refine lp rfl (p_as rfl) ?_
   refine lj_seq ?_
   obtain rfl := Option.some.inj hm
   exact cj_rt () [] Tryz.results33 (.tmp rfl .nil) rfl rfl
 ·have hm := ifB_f hb hm
  refine ls true rfl rfl rfl rfl ?_
  refine ls true rfl rfl rfl rfl ?_
  refine ls true rfl rfl rfl rfl ?_
  refine lp rfl (p_pkf rfl rfl) ?_
  refine lp rfl (p_mv rfl) ?_
  refine ls true rfl rfl rfl rfl ?_
  refine ls true rfl rfl rfl rfl ?_
  refine lp rfl (p_pkf rfl rfl) ?_
  refine lp rfl (p_as rfl) ?_
  refine lj_seq ?_
  obtain rfl := Option.some.inj hm
  exact cj_rt () [] Tryz.results33 (.tmp rfl .nil) rfl rfl
theorem ok_gleeref2_Moment (a0 : Int) {r : Bool} (hm : m_gleeref2_Moment a0 = some r) :
  Ctr Tryz.prog 50 [.int .i64 a0].toArray ([] : List Ent) [] (X := Unit) (fun _ => .bool r) (fun _ => []) := by
 unfold m_gleeref2_Moment at hm
 refine ctr_mk (vs := [(0, .int .i64 a0)]) Tryz.func50 rfl Tryz.ntmps50 rfl ⟨rfl, trivial⟩ (fun w0 A => ?_)
 refine cj_seq ?_
 refine cj_reg ?_
 refine lp rfl (p_as rfl) ?_
 refine lj_seq ?_
 refine cj_seq ?_
 refine cj_reg ?_
 refine lp rfl (p_mv rfl) ?_
 obtain ⟨y1, hy1, hm⟩ := bindS hm
 refine r_call [] cf51 rfl rfl (ok_gleeref2_in a0 0 345686399999 hy1) rfl rfl .nil (fun _ => rfl) rfl (fun _ => ?_)
 refine lp rfl (p_as rfl) ?_
 refine lj_seq ?_
 obtain rfl := Option.some.inj hm
 exact cj_rt () [] Tryz.results50 (.tmp rfl .nil) rfl rfl
theorem ok_slices_Index_int_int (s0_ : SV) (a0 : (List Int)) (a1 : Int) {r : Int} (hm : m_slices_Index_int_int a0 a1 = some r) :
  Ctr Tryz.prog 91 [s0_.v, .int .i64 a1].toArray ([] : List Ent) [RdS R3 (SV.v s0_) a0] (X := Unit) (fun _ => .int .i64 r) (fun _ => []) := by
 unfold m_slices_Index_int_int at hm
 refine ctr_mk (vs := [(0, s0_.v), (1, .int .i64 a1)]) Tryz.func91 rfl Tryz.ntmps91 rfl ⟨rfl, rfl, trivial⟩ (fun w0 A => ?_)
 refine cj_seq ?_
 refine cj_reg ?_
 refine lp rfl (p_as rfl) ?_
 refine lj_seq ?_
 refine cj_seq ?_
 refine cj_seq ?_
 refine cj_reg ?_
 refine lp rfl (p_mv rfl) ?_
 refine lp rfl (p_len Tryz.underlying22 rfl (.ro 0 rfl)) ?_
 refine lp rfl (p_mv rfl) ?_
 refine lj_seq ?_
 obtain ⟨f7, hf7, hm⟩ := bindS hm
 refine cj_range (γ := Unit) (m := (a0.length : Int)) hf7 () (fun u4 g5 => [(0, s0_.v), (1, .int .i64 a1), (4, .int .i64 0)]) (fun u4 g5 => Sat w0 (keys ([] : List Ent)) A [.ro (RdS R3 (SV.v s0_) a0)]) ⟨rfl, rfl, rfl, rfl, rfl, trivial⟩ (fun _ h => h.picks [0] rfl) (nat_lt _) (fun _ h => (FactAt.get (F := RdS R3 (SV.v s0_) a0) (.ro 0 rfl) h).1) (fun _ _ => ⟨rfl, rfl, rfl, rfl⟩) ⟨rfl, rfl, rfl, rfl, rfl⟩ rfl rfl rfl (fun u4 g5 e => ?_) (fun aftk6 i1 x2 u4 g5 k6 hx3 hs J hJk6 hBk6 hX I cnk6 => ?_)
 ·have hm := Flow.fin_b e hm
  refine nj_seq ?_
  refine cj_seq ?_
  refine cj_reg ?_
  refine lp rfl (p_as rfl) ?_
  refine lj_seq ?_
  obtain rfl := Option.some.inj hm
  exact cj_rt () [] Tryz.results91 (.tmp rfl .nil) rfl rfl
 ·have hRk6 : ∀ t, k6 = .ret t → some t = some r := fun t e => by rw [hX t e] at hm; exact hm
  have hm := hs
  refine cj_seq ?_
  refine cj_reg ?_
  refine lp rfl (p_mv rfl) ?_
  refine lp rfl (p_as rfl) ?_
  refine lj_seq ?_
  refine cj_seq ?_
  refine cj_reg ?_
  refine lp rfl (p_mv rfl) ?_
  refine lp rfl (p_mv rfl) ?_
  refine lp rfl (p_mv rfl) ?_
  refine lp rfl (p_idx Tryz.underlying22 ty3 rfl rfl (.ro 0 rfl) (getI_nat.trans hx3)) ?_
  refine lp rfl (p_lde (o := 0) ty3 rfl rfl (.ro 0 rfl) hx3 rfl) ?_
  refine lp rfl (p_eql rfl rfl) ?_
  refine lj_seq ?_
  refine cj_if (b := a1 == x2) rfl (fun hb => ?_) (fun hb => ?_)
  ·have hm := ifB_t hb hm
   refine cj_seq ?_
   refine cj_reg ?_
   refine lp rfl (p_mv rfl) ?_
   refine lp rfl (p_as rfl) ?_
   refine lj_seq ?_
   have hm := hRk6 _ (Option.some.inj hm).symm
   obtain rfl := Option.some.inj hm
   exact cj_rt () [] Tryz.results91 (.tmp rfl .nil) rfl rfl
  ·have hm := ifB_f hb hm
   refine cj_skip ?_
   refine nj_blk ?_
   exact cnk6 _ _ () () (hJk6 _ (Option.some.inj hm).symm) ⟨rfl, rfl, rfl, rfl, rfl, trivial⟩ (fun _ h => h.picks [0] rfl)
theorem ok_slices_Contains_int_int (s0_ : SV) (a0 : (List Int)) (a1 : Int) {r : Bool} (hm : m_slices_Contains_int_int a0 a1 = some r) :
  Ctr Tryz.prog 69 [s0_.v, .int .i64 a1].toArray ([] : List Ent) [RdS R3 (SV.v s0_) a0] (X := Unit) (fun _ => .bool r) (fun _ => []) := by
 unfold m_slices_Contains_int_int at hm
 refine ctr_mk (vs := [(0, s0_.v), (1, .int .i64 a1)]) Tryz.func69 rfl Tryz.ntmps69 rfl ⟨rfl, rfl, trivial⟩ (fun w0 A => ?_)
 refine cj_seq ?_
 refine cj_reg ?_
 refine lp rfl (p_as rfl) ?_
 refine lj_seq ?_
 refine cj_seq ?_
 refine cj_reg ?_
 refine lp rfl (p_mv rfl) ?_
 refine lp rfl (p_mv rfl) ?_
 obtain ⟨y1, hy1, hm⟩ := bindS hm
 refine r_call [] cf91 rfl rfl (ok_slices_Index_int_int s0_ a0 a1 hy1) rfl rfl (.cons (.ro 0 rfl) .nil) (fun _ => rfl) rfl (fun _ => ?_)
 refine lp rfl (p_geq rfl rfl) ?_
 refine lp rfl (p_as rfl) ?_
 refine lj_seq ?_
 obtain rfl := Option.some.inj hm
 exact cj_rt () [] Tryz.results69 (.tmp rfl .nil) rfl rfl
theorem ok_gleeref2_ActFault_1 (s0_ : SV) (a0 : (List Int)) (b1_ : Nat) (a1_0 : ByteArray) (a1_1 : Int) (a1_2 : Int) (a1_3 : Int) (a1_4 : ByteArray) (a1_5 : ByteArray) (a1_6 : Int) (a1_7 : Bool) (a1_8 : ByteArray) (a1_9 : Int) {r : Bool} (hm : m_gleeref2_ActFault_1 a0 a1_0 a1_1 a1_2 a1_3 a1_4 a1_5 a1_6 a1_7 a1_8 a1_9 = some r) :
  Ctr Tryz.prog 68 [s0_.v, .pointer (some ⟨b1_, 0, none⟩)].toArray ([] : List Ent) [RdS R3 (SV.v s0_) a0, BoxS b1_ 53 [.string a1_0, .int .i64 a1_1, .int .i64 a1_2, .int .i64 a1_3, .string a1_4, .string a1_5, .int .i64 a1_6, .bool a1_7, .string a1_8, .int .i64 a1_9]] (X := Unit) (fun _ => .bool r) (fun _ => []) := by
 unfold m_gleeref2_ActFault_1 at hm
 refine ctr_mk (vs := [(0, s0_.v), (1, .pointer (some ⟨b1_, 0, none⟩))]) Tryz.func68 rfl Tryz.ntmps68 rfl ⟨rfl, rfl, trivial⟩ (fun w0 A => ?_)
 refine cj_seq ?_
 refine cj_reg ?_
 refine lp rfl (p_as rfl) ?_
 refine lj_seq ?_
 refine cj_seq ?_
 refine cj_reg ?_
 refine lp rfl (p_mv rfl) ?_
 refine lp rfl (p_fab fl53_3 rfl) ?_
 refine lp rfl (p_rbs ty3 rfl (.ro 1 rfl) rfl) ?_
 obtain ⟨y1, hy1, hm⟩ := bindS hm
 refine r_call [] cf69 rfl rfl (ok_slices_Contains_int_int s0_ a0 a1_3 hy1) rfl rfl (.cons (.ro 0 rfl) .nil) (fun _ => rfl) rfl (fun _ => ?_)
 refine lp rfl (p_as rfl) ?_
 refine lj_seq ?_
 obtain rfl := Option.some.inj hm
 exact cj_rt () [] Tryz.results68 (.tmp rfl .nil) rfl rfl
theorem ok_gleeref2_ActFault (a0 : TAct) {r : Int} (hm : m_gleeref2_ActFault a0 = some r) :
  Ctr Tryz.prog 46 [.agg (R53.enc a0).toArray].toArray ([] : List Ent) [] (X := Unit) (fun _ => .int .i64 r) (fun _ => []) := by
 unfold m_gleeref2_ActFault at hm
 refine ctr_mk (vs := [(0, .agg (R53.enc a0).toArray)]) Tryz.func46 rfl Tryz.ntmps46 rfl ⟨rfl, trivial⟩ (fun w0 A => ?_)
 refine cj_seq ?_
 refine cj_reg ?_
 refine r_bx (cs := [.string a0.Site, .int .i64 a0.No, .int .i64 a0.At, .int .i64 a0.Kind, .string a0.Who, .string a0.Motion, .int .i64 a0.Cents, .bool a0.Yes, .string a0.Of, .int .i64 a0.Other]) rfl rfl rfl (fun b1 => ?_)
 refine lp rfl (p_as rfl) ?_
 refine lj_seq ?_
 refine cj_seq ?_
 refine cj_blk ?_
 refine cj_seq ?_
 refine cj_reg ?_
 refine lp rfl (p_fab fl53_0 rfl) ?_
 refine lp rfl (p_lbs ty9 rfl (j := 0) rfl rfl) ?_
 obtain ⟨y2, hy2, hm⟩ := bindS hm
 refine r_call [] cf33 rfl rfl (ok_gleeref2_Key a0.Site hy2) rfl rfl .nil (fun _ => rfl) rfl (fun _ => ?_)
 refine lp rfl (p_not rfl) ?_
 refine lp rfl (p_as rfl) ?_
 refine lj_seq ?_
 refine cj_if (b := !y2) rfl (fun hb => ?_) (fun hb => ?_)
 ·have hm := ifB_t hb hm
  refine cj_seq ?_
  refine cj_reg ?_
  refine lp rfl (p_as rfl) ?_
  refine lj_seq ?_
  obtain rfl := Option.some.inj hm
  exact cj_rt () [] Tryz.results46 (.tmp rfl .nil) rfl rfl
 ·have hm := ifB_f hb hm
  refine cj_seq ?_
  refine cj_reg ?_
  obtain ⟨k5, hk5, hm⟩ := bindS hm
  have hRk5 : ∀ t, k5 = .inr t → some t = some r := fun t e => by rw [e] at hm; exact hm
  refine lj_join (σ := Bool) (γ := Unit) (fun u3 => k5 = .inl u3) (fun u3 g4 => [(1, .pointer (some ⟨b1, 0, none⟩)), (2, .int .i64 0), (11, .bool u3)]) (fun u3 g4 => Sat w0 (keys ([] : List Ent)) A [.box b1 53 [.string a0.Site, .int .i64 a0.No, .int .i64 a0.At, .int .i64 a0.Kind, .string a0.Who, .string a0.Motion, .int .i64 a0.Cents, .bool a0.Yes, .string a0.Of, .int .i64 a0.Other]]) (fun u3 g4 hq => ?_) (fun J cnk5 => ?_)
  ·have hm := Sum.fin_l hq hm
   refine cj_if (b := u3) rfl (fun hb => ?_) (fun hb => ?_)
   ·have hm := ifB_t hb hm
    refine cj_seq ?_
    refine cj_reg ?_
    refine lp rfl (p_as rfl) ?_
    refine lj_seq ?_
    obtain rfl := Option.some.inj hm
    exact cj_rt () [] Tryz.results46 (.tmp rfl .nil) rfl rfl
   ·have hm := ifB_f hb hm
    refine cj_seq ?_
    refine cj_reg ?_
    refine lp rfl (p_fab fl53_3 rfl) ?_
    refine lp rfl (p_lbs ty3 rfl (j := 0) rfl rfl) ?_
    obtain ⟨y8, hy8, hm⟩ := bindS hm
    refine r_call [] cf51 rfl rfl (ok_gleeref2_in a0.Kind 1 7 hy8) rfl rfl .nil (fun _ => rfl) rfl (fun _ => ?_)
    refine lp rfl (p_not rfl) ?_
    refine lp rfl (p_as rfl) ?_
    refine lj_seq ?_
    refine cj_if (b := !y8) rfl (fun hb => ?_) (fun hb => ?_)
    ·have hm := ifB_t hb hm
     refine cj_seq ?_
     refine cj_reg ?_
     refine lp rfl (p_as rfl) ?_
     refine lj_seq ?_
     obtain rfl := Option.some.inj hm
     exact cj_rt () [] Tryz.results46 (.tmp rfl .nil) rfl rfl
    ·have hm := ifB_f hb hm
     refine cj_skip ?_
     refine nj_blk ?_
     refine nj_seq ?_
     refine cj_seq ?_
     refine cj_reg ?_
     refine lp rfl (p_fab fl53_0 rfl) ?_
     refine lp rfl (p_lbs ty9 rfl (j := 0) rfl rfl) ?_
     refine lp rfl (p_fab fl53_1 rfl) ?_
     refine lp rfl (p_lbs ty3 rfl (j := 0) rfl rfl) ?_
     refine lp rfl (p_fab fl53_2 rfl) ?_
     refine lp rfl (p_lbs ty3 rfl (j := 0) rfl rfl) ?_
     refine lp rfl (p_fab fl53_3 rfl) ?_
     refine lp rfl (p_lbs ty3 rfl (j := 0) rfl rfl) ?_
     refine lp rfl (p_bld [.string a0.Site, .int .i64 a0.No, .int .i64 a0.At, .int .i64 a0.Kind, .string ByteArray.empty, .string ByteArray.empty, .int .i64 0, .bool false, .string ByteArray.empty, .int .i64 0] rfl (fun _ => by kernel_rfl)) ?_
     refine r_al ty53 rfl (fun b9 => ?_)
     refine r_sb (vs := [.string a0.Site, .int .i64 a0.No, .int .i64 a0.At, .int .i64 a0.Kind, .string ByteArray.empty, .string ByteArray.empty, .int .i64 0, .bool false, .string ByteArray.empty, .int .i64 0]) (j := 0) ty53 rfl rfl rfl rfl rfl rfl rfl ?_
     refine lj_seq ?_
     refine cj_seq ?_
     refine cj_reg ?_
     refine lp rfl (p_fn (cv := [.pointer (some ⟨b1, 0, none⟩)]) rfl) ?_
     refine lp rfl (p_as rfl) ?_
     refine lj_seq ?_
     refine cj_seq ?_
     refine cj_reg ?_
     refine lp rfl (p_as rfl) ?_
     refine lj_seq ?_
     refine cj_seq ?_
     refine cj_seq ?_
     refine cj_reg ?_
     refine lp rfl (p_mv rfl) ?_
     refine r_bs R3 [1, 2, 3, 5] rfl rfl rfl (fun _ => by kernel_rfl) rfl (fun s10 => ?_)
     obtain ⟨y11, hy11, hm⟩ := bindS hm
     refine r_call [] cf68 rfl rfl (ok_gleeref2_ActFault_1 s10 [1, 2, 3, 5] b1 a0.Site a0.No a0.At a0.Kind a0.Who a0.Motion a0.Cents a0.Yes a0.Of a0.Other hy11) rfl rfl (.cons (.row 0 rfl) (.cons (.imp (.box 2 rfl) (fun _ h => h)) .nil)) (fun _ => rfl) rfl (fun _ => ?_)
     refine lj_seq ?_
     obtain ⟨k14, hk14, hm⟩ := bindS hm
     have hRk14 : ∀ t, k14 = .inr t → some t = some r := fun t e => by rw [e] at hm; exact hm
     refine cj_joinK (σ := (Bool × ByteArray)) (γ := Unit) (fun u12 => k14 = .inl u12) (fun u12 g13 => [(1, .pointer (some ⟨b1, 0, none⟩)), (2, .int .i64 0), (3, .pointer (some ⟨b9, 0, none⟩)), (4, .func (.func 68) #[] [.pointer (some ⟨b1, 0, none⟩)].toArray), (5, .bool u12.1)]) (fun u12 g13 => Sat w0 (keys ([] : List Ent)) A [.box b9 53 [.string a0.Site, .int .i64 a0.No, .int .i64 a0.At, .int .i64 a0.Kind, .string u12.2, .string ByteArray.empty, .int .i64 0, .bool false, .string ByteArray.empty, .int .i64 0], .box b1 53 [.string a0.Site, .int .i64 a0.No, .int .i64 a0.At, .int .i64 a0.Kind, .string a0.Who, .string a0.Motion, .int .i64 a0.Cents, .bool a0.Yes, .string a0.Of, .int .i64 a0.Other]]) (fun u12 g13 hq => ?_) (fun J cnk14 => ?_)
     ·have hm := Sum.fin_l hq hm
      refine cj_seq ?_
      refine cj_seq ?_
      refine cj_reg ?_
      refine lp rfl (p_mv rfl) ?_
      refine r_bs R3 [4, 5, 6] rfl rfl rfl (fun _ => by kernel_rfl) rfl (fun s16 => ?_)
      obtain ⟨y17, hy17, hm⟩ := bindS hm
      refine r_call [] cf68 rfl rfl (ok_gleeref2_ActFault_1 s16 [4, 5, 6] b1 a0.Site a0.No a0.At a0.Kind a0.Who a0.Motion a0.Cents a0.Yes a0.Of a0.Other hy17) rfl rfl (.cons (.row 0 rfl) (.cons (.imp (.box 2 rfl) (fun _ h => h)) .nil)) (fun _ => rfl) rfl (fun _ => ?_)
      refine lj_seq ?_
      obtain ⟨k20, hk20, hm⟩ := bindS hm
      have hRk20 : ∀ t, k20 = .inr t → some t = some r := fun t e => by rw [e] at hm; exact hm
      refine cj_joinK (σ := (Bool × ByteArray)) (γ := Unit) (fun u18 => k20 = .inl u18) (fun u18 g19 => [(1, .pointer (some ⟨b1, 0, none⟩)), (2, .int .i64 0), (3, .pointer (some ⟨b9, 0, none⟩)), (4, .func (.func 68) #[] [.pointer (some ⟨b1, 0, none⟩)].toArray), (5, .bool u18.1)]) (fun u18 g19 => Sat w0 (keys ([] : List Ent)) A [.box b9 53 [.string a0.Site, .int .i64 a0.No, .int .i64 a0.At, .int .i64 a0.Kind, .string u12.2, .string u18.2, .int .i64 0, .bool false, .string ByteArray.empty, .int .i64 0], .box b1 53 [.string a0.Site, .int .i64 a0.No, .int .i64 a0.At, .int .i64 a0.Kind, .string a0.Who, .string a0.Motion, .int .i64 a0.Cents, .bool a0.Yes, .string a0.Of, .int .i64 a0.Other]]) (fun u18 g19 hq => ?_) (fun J cnk20 => ?_)
      ·have hm := Sum.fin_l hq hm
       refine cj_seq ?_
       refine cj_seq ?_
       refine cj_reg ?_
       refine lp rfl (p_mv rfl) ?_
       refine r_bs R3 [7] rfl rfl rfl (fun _ => by kernel_rfl) rfl (fun s22 => ?_)
       obtain ⟨y23, hy23, hm⟩ := bindS hm
       refine r_call [] cf68 rfl rfl (ok_gleeref2_ActFault_1 s22 [7] b1 a0.Site a0.No a0.At a0.Kind a0.Who a0.Motion a0.Cents a0.Yes a0.Of a0.Other hy23) rfl rfl (.cons (.row 0 rfl) (.cons (.imp (.box 2 rfl) (fun _ h => h)) .nil)) (fun _ => rfl) rfl (fun _ => ?_)
       refine lj_seq ?_
       obtain ⟨k26, hk26, hm⟩ := bindS hm
       have hRk26 : ∀ t, k26 = .inr t → some t = some r := fun t e => by rw [e] at hm; exact hm
       refine cj_joinK (σ := (Bool × ByteArray × Int)) (γ := Unit) (fun u24 => k26 = .inl u24) (fun u24 g25 => [(1, .pointer (some ⟨b1, 0, none⟩)), (2, .int .i64 0), (3, .pointer (some ⟨b9, 0, none⟩)), (4, .func (.func 68) #[] [.pointer (some ⟨b1, 0, none⟩)].toArray), (5, .bool u24.1)]) (fun u24 g25 => Sat w0 (keys ([] : List Ent)) A [.box b9 53 [.string a0.Site, .int .i64 a0.No, .int .i64 a0.At, .int .i64 a0.Kind, .string u12.2, .string u18.2, .int .i64 0, .bool false, .string u24.2.1, .int .i64 u24.2.2], .box b1 53 [.string a0.Site, .int .i64 a0.No, .int .i64 a0.At, .int .i64 a0.Kind, .string a0.Who, .string a0.Motion, .int .i64 a0.Cents, .bool a0.Yes, .string a0.Of, .int .i64 a0.Other]]) (fun u24 g25 hq => ?_) (fun J cnk26 => ?_)
       ·have hm := Sum.fin_l hq hm
        refine cj_seq ?_
        refine cj_seq ?_
        refine cj_reg ?_
        refine lp rfl (p_mv rfl) ?_
        refine lj_seq ?_
        refine cj_if (b := u24.1) rfl (fun hb => ?_) (fun hb => ?_)
        ·have hm := ifB_t hb hm
         refine cj_seq ?_
         refine cj_reg ?_
         refine lp rfl (p_as rfl) ?_
         refine lj_seq ?_
         obtain rfl := Option.some.inj hm
         exact cj_rt () [] Tryz.results46 (.tmp rfl .nil) rfl rfl
        ·have hm := ifB_f hb hm
         refine cj_skip ?_
         refine nj_seq ?_
         refine cj_seq ?_
         refine cj_seq ?_
         refine cj_reg ?_
         refine lp rfl (p_mv rfl) ?_
         refine r_bs R3 [1, 3] rfl rfl rfl (fun _ => by kernel_rfl) rfl (fun s28 => ?_)
         obtain ⟨y29, hy29, hm⟩ := bindS hm
         refine r_call [] cf68 rfl rfl (ok_gleeref2_ActFault_1 s28 [1, 3] b1 a0.Site a0.No a0.At a0.Kind a0.Who a0.Motion a0.Cents a0.Yes a0.Of a0.Other hy29) rfl rfl (.cons (.row 0 rfl) (.cons (.imp (.box 2 rfl) (fun _ h => h)) .nil)) (fun _ => rfl) rfl (fun _ => ?_)
         refine lj_seq ?_
         obtain ⟨k32, hk32, hm⟩ := bindS hm
         have hRk32 : ∀ t, k32 = .inr t → some t = some r := fun t e => by rw [e] at hm; exact hm
         refine cj_joinK (σ := Int) (γ := Unit) (fun u30 => k32 = .inl u30) (fun u30 g31 => [(1, .pointer (some ⟨b1, 0, none⟩)), (2, .int .i64 0), (3, .pointer (some ⟨b9, 0, none⟩)), (4, .func (.func 68) #[] [.pointer (some ⟨b1, 0, none⟩)].toArray)]) (fun u30 g31 => Sat w0 (keys ([] : List Ent)) A [.box b9 53 [.string a0.Site, .int .i64 a0.No, .int .i64 a0.At, .int .i64 a0.Kind, .string u12.2, .string u18.2, .int .i64 u30, .bool false, .string u24.2.1, .int .i64 u24.2.2], .box b1 53 [.string a0.Site, .int .i64 a0.No, .int .i64 a0.At, .int .i64 a0.Kind, .string a0.Who, .string a0.Motion, .int .i64 a0.Cents, .bool a0.Yes, .string a0.Of, .int .i64 a0.Other]]) (fun u30 g31 hq => ?_) (fun J cnk32 => ?_)
         ·have hm := Sum.fin_l hq hm
          refine cj_seq ?_
          refine cj_seq ?_
          refine cj_reg ?_
          obtain ⟨k41, hk41, hm⟩ := bindS hm
          have hRk41 : ∀ t, k41 = .inr t → some t = some r := fun t e => by rw [e] at hm; exact hm
          refine lj_join (σ := Bool) (γ := Unit) (fun u39 => k41 = .inl u39) (fun u39 g40 => [(1, .pointer (some ⟨b1, 0, none⟩)), (2, .int .i64 0), (3, .pointer (some ⟨b9, 0, none⟩)), (4, .func (.func 68) #[] [.pointer (some ⟨b1, 0, none⟩)].toArray), (108, .bool u39)]) (fun u39 g40 => Sat w0 (keys ([] : List Ent)) A [.box b9 53 [.string a0.Site, .int .i64 a0.No, .int .i64 a0.At, .int .i64 a0.Kind, .string u12.2, .string u18.2, .int .i64 u30, .bool false, .string u24.2.1, .int .i64 u24.2.2], .box b1 53 [.string a0.Site, .int .i64 a0.No, .int .i64 a0.At, .int .i64 a0.Kind, .string a0.Who, .string a0.Motion, .int .i64 a0.Cents, .bool a0.Yes, .string a0.Of, .int .i64 a0.Other]]) (fun u39 g40 hq => ?_) (fun J cnk41 => ?_)
          ·have hm := Sum.fin_l hq hm
           refine cj_if (b := u39) rfl (fun hb => ?_) (fun hb => ?_)
           ·have hm := ifB_t hb hm
            refine cj_seq ?_
            refine cj_reg ?_
            refine lp rfl (p_as rfl) ?_
            refine lj_seq ?_
            obtain rfl := Option.some.inj hm
            exact cj_rt () [] Tryz.results46 (.tmp rfl .nil) rfl rfl
           ·have hm := ifB_f hb hm
            refine cj_skip ?_
            refine nj_seq ?_
            refine cj_seq ?_
            refine cj_seq ?_
            refine cj_reg ?_
            refine lp rfl (p_mv rfl) ?_
            refine r_bs R3 [5] rfl rfl rfl (fun _ => by kernel_rfl) rfl (fun s45 => ?_)
            obtain ⟨y46, hy46, hm⟩ := bindS hm
            refine r_call [] cf68 rfl rfl (ok_gleeref2_ActFault_1 s45 [5] b1 a0.Site a0.No a0.At a0.Kind a0.Who a0.Motion a0.Cents a0.Yes a0.Of a0.Other hy46) rfl rfl (.cons (.row 0 rfl) (.cons (.imp (.box 2 rfl) (fun _ h => h)) .nil)) (fun _ => rfl) rfl (fun _ => ?_)
            refine lj_seq ?_
            obtain ⟨k49, hk49, hm⟩ := bindS hm
            have hRk49 : ∀ t, k49 = .inr t → some t = some r := fun t e => by rw [e] at hm; exact hm
            refine cj_joinK (σ := Bool) (γ := Unit) (fun u47 => k49 = .inl u47) (fun u47 g48 => [(1, .pointer (some ⟨b1, 0, none⟩)), (2, .int .i64 0), (3, .pointer (some ⟨b9, 0, none⟩))]) (fun u47 g48 => Sat w0 (keys ([] : List Ent)) A [.box b9 53 [.string a0.Site, .int .i64 a0.No, .int .i64 a0.At, .int .i64 a0.Kind, .string u12.2, .string u18.2, .int .i64 u30, .bool u47, .string u24.2.1, .int .i64 u24.2.2], .box b1 53 [.string a0.Site, .int .i64 a0.No, .int .i64 a0.At, .int .i64 a0.Kind, .string a0.Who, .string a0.Motion, .int .i64 a0.Cents, .bool a0.Yes, .string a0.Of, .int .i64 a0.Other]]) (fun u47 g48 hq => ?_) (fun J cnk49 => ?_)
            ·have hm := Sum.fin_l hq hm
             refine cj_seq ?_
             refine cj_seq ?_
             refine cj_reg ?_
             refine lp rfl (p_lbw ty53 rfl (j := 1) rfl rfl) ?_
             refine lp rfl (p_lbw ty53 rfl (j := 0) rfl rfl) ?_
             refine lp rfl (p_nest (by kernel_rfl) rfl rfl (eqst53 a0 (TAct.mk a0.Site a0.No a0.At a0.Kind u12.2 u18.2 u30 u47 u24.2.1 u24.2.2))) ?_
             refine lj_seq ?_
             refine cj_if (b := !(decide (a0 = (TAct.mk a0.Site a0.No a0.At a0.Kind u12.2 u18.2 u30 u47 u24.2.1 u24.2.2)))) rfl (fun hb => ?_) (fun hb => ?_)
             ·have hm := ifB_t hb hm
              refine cj_seq ?_
              refine cj_reg ?_
              refine lp rfl (p_as rfl) ?_
              refine lj_seq ?_
              obtain rfl := Option.some.inj hm
              exact cj_rt () [] Tryz.results46 (.tmp rfl .nil) rfl rfl
             ·have hm := ifB_f hb hm
              refine cj_skip ?_
              refine nj_seq ?_
              refine cj_seq ?_
              refine cj_reg ?_
              refine lp rfl (p_as rfl) ?_
              refine lj_seq ?_
              obtain rfl := Option.some.inj hm
              exact cj_rt () [] Tryz.results46 (.tmp rfl .nil) rfl rfl
            ·have hm := hk49
             refine cj_if (b := y46) rfl (fun hb => ?_) (fun hb => ?_)
             ·have hm := ifB_t hb hm
              refine cj_reg ?_
              refine lp rfl (p_fab fl53_7 rfl) ?_
              refine lp rfl (p_lbs ty4 rfl (j := 2) rfl rfl) ?_
              refine lp rfl (p_fab fl53_7 rfl) ?_
              refine r_sb (vs := [.bool a0.Yes]) (j := 1) ty4 rfl rfl rfl rfl rfl rfl rfl ?_
              refine lj_nil ?_
              exact cnk49 _ _ a0.Yes () (Option.some.inj hm).symm ⟨rfl, rfl, rfl, trivial⟩ (fun _ h => h.picks [1, 1] rfl)
             ·have hm := ifB_f hb hm
              refine cj_skip ?_
              exact cnk49 _ _ false () (Option.some.inj hm).symm ⟨rfl, rfl, rfl, trivial⟩ (fun _ h => h.picks [1, 1] rfl)
          ·have hm := hk41
           refine lp rfl (p_mv rfl) ?_
           refine r_bs R3 [7] rfl rfl rfl (fun _ => by kernel_rfl) rfl (fun s42 => ?_)
           obtain ⟨y43, hy43, hm⟩ := bindS hm
           refine r_call [] cf68 rfl rfl (ok_gleeref2_ActFault_1 s42 [7] b1 a0.Site a0.No a0.At a0.Kind a0.Who a0.Motion a0.Cents a0.Yes a0.Of a0.Other hy43) rfl rfl (.cons (.row 0 rfl) (.cons (.imp (.box 2 rfl) (fun _ h => h)) .nil)) (fun _ => rfl) rfl (fun _ => ?_)
           refine lp rfl (p_mv rfl) ?_
           refine lcase (i := 103) y43 rfl (fun hb => ?_) (fun hb => ?_)
           ·have hm := ifB_t hb hm
            refine lg true rfl rfl rfl ?_
            refine lp rfl (p_fab fl53_9 rfl) ?_
            refine lg true rfl rfl rfl ?_
            refine lp rfl (p_lbs ty3 rfl (j := 2) rfl rfl) ?_
            refine lg true rfl rfl rfl ?_
            obtain ⟨y44, hy44, hm⟩ := bindS hm
            refine r_call [] cf51 rfl rfl (ok_gleeref2_in a0.Other 1 1000000 hy44) rfl rfl .nil (fun _ => rfl) rfl (fun _ => ?_)
            refine lg true rfl rfl rfl ?_
            refine lp rfl (p_not rfl) ?_
            refine lp rfl (p_pkt rfl rfl) ?_
            refine lj_nil ?_
            exact cnk41 _ _ (!y44) () (Option.some.inj hm).symm ⟨rfl, rfl, rfl, rfl, rfl, trivial⟩ (fun _ h => h.picks [1, 1] rfl)
           ·have hm := ifB_f hb hm
            refine ls true rfl rfl rfl rfl ?_
            refine ls true rfl rfl rfl rfl ?_
            refine ls true rfl rfl rfl rfl ?_
            refine ls true rfl rfl rfl rfl ?_
            refine lp rfl (p_pkf rfl rfl) ?_
            refine lj_nil ?_
            exact cnk41 _ _ false () (Option.some.inj hm).symm ⟨rfl, rfl, rfl, rfl, rfl, trivial⟩ (fun _ h => h.picks [1, 1] rfl)
         ·have hm := hk32
          refine cj_if (b := y29) rfl (fun hb => ?_) (fun hb => ?_)
          ·have hm := ifB_t hb hm
           refine cj_seq ?_
           refine cj_reg ?_
           refine lp rfl (p_fab fl53_6 rfl) ?_
           refine lp rfl (p_lbs ty3 rfl (j := 2) rfl rfl) ?_
           refine lp rfl (p_fab fl53_6 rfl) ?_
           refine r_sb (vs := [.int .i64 a0.Cents]) (j := 1) ty3 rfl rfl rfl rfl rfl rfl rfl ?_
           refine lj_seq ?_
           refine cj_seq ?_
           refine cj_reg ?_
           obtain ⟨k35, hk35, hm⟩ := bindS hm
           have hRk35 : ∀ t, k35 = .inr t → some t = some k32 := fun t e => by rw [e] at hm; exact hm
           refine lj_join (σ := Bool) (γ := Unit) (fun u33 => k35 = .inl u33) (fun u33 g34 => [(1, .pointer (some ⟨b1, 0, none⟩)), (2, .int .i64 0), (3, .pointer (some ⟨b9, 0, none⟩)), (4, .func (.func 68) #[] [.pointer (some ⟨b1, 0, none⟩)].toArray), (99, .bool u33)]) (fun u33 g34 => Sat w0 (keys ([] : List Ent)) A [.box b9 53 [.string a0.Site, .int .i64 a0.No, .int .i64 a0.At, .int .i64 a0.Kind, .string u12.2, .string u18.2, .int .i64 a0.Cents, .bool false, .string u24.2.1, .int .i64 u24.2.2], .box b1 53 [.string a0.Site, .int .i64 a0.No, .int .i64 a0.At, .int .i64 a0.Kind, .string a0.Who, .string a0.Motion, .int .i64 a0.Cents, .bool a0.Yes, .string a0.Of, .int .i64 a0.Other]]) (fun u33 g34 hq => ?_) (fun J cnk35 => ?_)
           ·have hm := Sum.fin_l hq hm
            refine cj_if (b := u33) rfl (fun hb => ?_) (fun hb => ?_)
            ·have hm := ifB_t hb hm
             refine cj_seq ?_
             refine cj_reg ?_
             refine lp rfl (p_as rfl) ?_
             refine lj_seq ?_
             have hm := hRk32 _ (Option.some.inj hm).symm
             obtain rfl := Option.some.inj hm
             exact cj_rt () [] Tryz.results46 (.tmp rfl .nil) rfl rfl
            ·have hm := ifB_f hb hm
             refine cj_skip ?_
             exact cnk32 _ _ a0.Cents () (Option.some.inj hm).symm ⟨rfl, rfl, rfl, rfl, trivial⟩ (fun _ h => h.picks [0, 0] rfl)
           ·have hm := hk35
            refine lp rfl (p_fab fl53_6 rfl) ?_
            refine lp rfl (p_lbs ty3 rfl (j := 2) rfl rfl) ?_
            obtain ⟨y36, hy36, hm⟩ := bindS hm
            refine r_call [] cf51 rfl rfl (ok_gleeref2_in a0.Cents 0 1000000000 hy36) rfl rfl .nil (fun _ => rfl) rfl (fun _ => ?_)
            refine lp rfl (p_not rfl) ?_
            refine lp rfl (p_mv rfl) ?_
            refine lcase (i := 90) (!y36) rfl (fun hb => ?_) (fun hb => ?_)
            ·have hm := ifB_t hb hm
             refine ls false rfl rfl rfl rfl ?_
             refine ls false rfl rfl rfl rfl ?_
             refine ls false rfl rfl rfl rfl ?_
             refine ls false rfl rfl rfl rfl ?_
             refine lsu rfl rfl rfl rfl ?_
             refine lsu rfl rfl rfl rfl ?_
             refine lsu rfl rfl rfl rfl ?_
             refine ls false rfl rfl rfl rfl ?_
             refine lp rfl (p_pkt rfl rfl) ?_
             refine lj_nil ?_
             exact cnk35 _ _ true () (Option.some.inj hm).symm ⟨rfl, rfl, rfl, rfl, rfl, trivial⟩ (fun _ h => h.picks [1, 1] rfl)
            ·have hm := ifB_f hb hm
             refine lg false rfl rfl rfl ?_
             refine lp rfl (p_mv rfl) ?_
             refine lg false rfl rfl rfl ?_
             refine r_bs R3 [3] rfl rfl rfl (fun _ => by kernel_rfl) rfl (fun s37 => ?_)
             refine lg false rfl rfl rfl ?_
             obtain ⟨y38, hy38, hm⟩ := bindS hm
             refine r_call [] cf68 rfl rfl (ok_gleeref2_ActFault_1 s37 [3] b1 a0.Site a0.No a0.At a0.Kind a0.Who a0.Motion a0.Cents a0.Yes a0.Of a0.Other hy38) rfl rfl (.cons (.row 0 rfl) (.cons (.imp (.box 3 rfl) (fun _ h => h)) .nil)) (fun _ => rfl) rfl (fun _ => ?_)
             refine lg false rfl rfl rfl ?_
             refine lp rfl (p_mv rfl) ?_
             refine lcase (i := 94) y38 rfl (fun hb => ?_) (fun hb => ?_)
             ·have hm := ifB_t hb hm
              refine lg true rfl rfl rfl ?_
              refine lp rfl (p_fab fl53_6 rfl) ?_
              refine lg true rfl rfl rfl ?_
              refine lp rfl (p_lbs ty3 rfl (j := 3) rfl rfl) ?_
              refine lg true rfl rfl rfl ?_
              refine lp rfl (p_eql rfl rfl) ?_
              refine lg false rfl rfl rfl ?_
              refine lp rfl (p_pkt rfl rfl) ?_
              refine lp rfl (p_pkf rfl rfl) ?_
              refine lj_nil ?_
              exact cnk35 _ _ (a0.Cents == 0) () (Option.some.inj hm).symm ⟨rfl, rfl, rfl, rfl, rfl, trivial⟩ (fun _ h => h.picks [2, 2] rfl)
             ·have hm := ifB_f hb hm
              refine ls true rfl rfl rfl rfl ?_
              refine ls true rfl rfl rfl rfl ?_
              refine ls true rfl rfl rfl rfl ?_
              refine lg false rfl rfl rfl ?_
              refine lp rfl (p_pkf rfl rfl) ?_
              refine lp rfl (p_pkf rfl rfl) ?_
              refine lj_nil ?_
              exact cnk35 _ _ false () (Option.some.inj hm).symm ⟨rfl, rfl, rfl, rfl, rfl, trivial⟩ (fun _ h => h.picks [2, 2] rfl)
          ·have hm := ifB_f hb hm
           refine cj_skip ?_
           exact cnk32 _ _ 0 () (Option.some.inj hm).symm ⟨rfl, rfl, rfl, rfl, trivial⟩ (fun _ h => h.picks [1, 1] rfl)
       ·have hm := hk26
        refine cj_if (b := y23) rfl (fun hb => ?_) (fun hb => ?_)
        ·have hm := ifB_t hb hm
         refine cj_anyT [0, 1, 2, 3, 4, 5, 6, 7, 9, 10, 11, 13, 15] [12, 13, 14, 15] (Sat w0 (keys ([] : List Ent)) A [.row R3 (SV.v s22) [7], .box b9 53 [.string a0.Site, .int .i64 a0.No, .int .i64 a0.At, .int .i64 a0.Kind, .string u12.2, .string u18.2, .int .i64 0, .bool false, .string ByteArray.empty, .int .i64 0], .box b1 53 [.string a0.Site, .int .i64 a0.No, .int .i64 a0.At, .int .i64 a0.Kind, .string a0.Who, .string a0.Motion, .int .i64 a0.Cents, .bool a0.Yes, .string a0.Of, .int .i64 a0.Other]]) (Sat w0 (keys ([] : List Ent)) A [.row R3 (SV.v s22) [7], .box b1 53 [.string a0.Site, .int .i64 a0.No, .int .i64 a0.At, .int .i64 a0.Kind, .string a0.Who, .string a0.Motion, .int .i64 a0.Cents, .bool a0.Yes, .string a0.Of, .int .i64 a0.Other]]) (by kernel_rfl) ?_
         refine at_take2 0 rfl (by kernel_rfl) (by kernel_rfl) (by kernel_rfl) (fun _ h => h.picks [0, 1] rfl) rfl rfl (p_fab fl53_8 rfl) (fun _ h => h.picks [0, 1] rfl) ?_
         refine at_take2 1 rfl (by kernel_rfl) (by kernel_rfl) (by kernel_rfl) (fun _ h => h.picks [0, 1] rfl) rfl rfl (p_lbs ty9 rfl (j := 1) rfl rfl) (fun _ h => h.picks [0, 1] rfl) ?_
         refine at_take2 2 rfl (by kernel_rfl) (by kernel_rfl) (by kernel_rfl) (fun _ h => h.picks [0, 1] rfl) rfl rfl (p_fab fl53_9 rfl) (fun _ h => h.picks [0, 1] rfl) ?_
         refine at_take2 3 rfl (by kernel_rfl) (by kernel_rfl) (by kernel_rfl) (fun _ h => h.picks [0, 1] rfl) rfl rfl (p_lbs ty3 rfl (j := 1) rfl rfl) (fun _ h => h.picks [0, 1] rfl) ?_
         refine at_take2 4 rfl (by kernel_rfl) (by kernel_rfl) (by kernel_rfl) (fun _ h => h.picks [0, 1] rfl) rfl rfl (p_mv rfl) (fun _ h => h.picks [0, 1] rfl) ?_
         refine at_take2 5 rfl (by kernel_rfl) (by kernel_rfl) (by kernel_rfl) (fun _ h => h.picks [0, 1] rfl) rfl rfl (p_mv rfl) (fun _ h => h.picks [0, 1] rfl) ?_
         refine at_case (i := 71) u18.1 rfl (fun hb => ?_) (fun hb => ?_)
         ·have hm := ifB_t hb hm
          refine at_skip 6 rfl rfl rfl rfl (by kernel_rfl) (by kernel_rfl) (by kernel_rfl) rfl rfl ?_
          refine at_skip 7 rfl rfl rfl rfl (by kernel_rfl) (by kernel_rfl) (by kernel_rfl) rfl rfl ?_
          refine at_take2 11 rfl (by kernel_rfl) (by kernel_rfl) (by kernel_rfl) (fun _ h => h.picks [0, 1] rfl) rfl rfl (p_fab fl53_8 rfl) (fun _ h => h.picks [0, 1] rfl) ?_
          refine at_each (rs := [8]) (by kernel_rfl) (by decide) ?_
          refine (.cons rfl (fun I cnI => ?_) .nil)
          ·refine ls false rfl rfl rfl rfl ?_
           refine lj_nil ?_
           refine cnI _ _ (sof1 rfl rfl (fun _ h => h.picks [0, 0, 0] rfl)) ?_
           refine at_skip 9 rfl rfl rfl rfl (by kernel_rfl) (by kernel_rfl) (by kernel_rfl) rfl rfl ?_
           refine at_take2 10 rfl (by kernel_rfl) (by kernel_rfl) (by kernel_rfl) (fun _ h => h.picks [0, 1] rfl) rfl rfl (p_pkt rfl rfl) (fun _ h => h.picks [0, 1] rfl) ?_
           refine at_each (rs := [12]) (by kernel_rfl) (by decide) ?_
           refine (.cons rfl (fun I cnI => ?_) .nil)
           ·refine r_sb (vs := [.string a0.Of]) (j := 1) ty9 rfl rfl rfl rfl rfl rfl rfl ?_
            refine lj_nil ?_
            refine cnI _ _ (sof2 rfl rfl (fun _ h => h.picks [0, 1] rfl)) ?_
            refine at_take2 13 rfl (by kernel_rfl) (by kernel_rfl) (by kernel_rfl) (fun _ h => h.picks [0, 1] rfl) rfl rfl (p_fab fl53_9 rfl) (fun _ h => h.picks [0, 1] rfl) ?_
            refine at_each (rs := [14]) (by kernel_rfl) (by decide) ?_
            refine (.cons rfl (fun I cnI => ?_) .nil)
            ·refine r_sb (vs := [.int .i64 a0.Other]) (j := 1) ty3 rfl rfl rfl rfl rfl rfl rfl ?_
             refine lj_nil ?_
             refine cnI _ _ (sof2 rfl rfl (fun _ h => h.picks [0, 1] rfl)) ?_
             refine at_take2 15 rfl (by kernel_rfl) (by kernel_rfl) (by kernel_rfl) (fun _ h => h.picks [0, 1] rfl) rfl rfl (p_as rfl) (fun _ h => h.picks [0, 1] rfl) ?_
             refine at_done (by kernel_rfl) ?_
             exact cnk26 _ _ (true, a0.Of, a0.Other) () (Option.some.inj hm).symm ⟨rfl, rfl, rfl, rfl, rfl, trivial⟩ (fun _ h => h.picks [1, 1] rfl)
         ·have hm := ifB_f hb hm
          obtain ⟨y27, hy27, hm⟩ := bindS hm
          refine at_take2g 6 rfl rfl rfl rfl (by kernel_rfl) (by kernel_rfl) (by kernel_rfl) (fun _ h => h.picks [0, 1] rfl) rfl rfl (p_fab fl53_8 rfl) (fun _ h => h.picks [0, 1] rfl) ?_
          refine at_take2g 7 rfl rfl rfl rfl (by kernel_rfl) (by kernel_rfl) (by kernel_rfl) (fun _ h => h.picks [0, 1] rfl) rfl rfl (p_lbs ty9 rfl (j := 1) rfl rfl) (fun _ h => h.picks [0, 1] rfl) ?_
          refine at_take2 11 rfl (by kernel_rfl) (by kernel_rfl) (by kernel_rfl) (fun _ h => h.picks [0, 1] rfl) rfl rfl (p_fab fl53_8 rfl) (fun _ h => h.picks [0, 1] rfl) ?_
          refine at_each (rs := [8]) (by kernel_rfl) (by decide) ?_
          refine (.cons rfl (fun I cnI => ?_) .nil)
          ·refine lg false rfl rfl rfl ?_
           refine r_call [] cf33 rfl rfl (ok_gleeref2_Key a0.Of hy27) rfl rfl .nil (fun _ => rfl) rfl (fun _ => ?_)
           refine lj_nil ?_
           refine cnI _ _ (sof1 rfl rfl (fun _ h => h.picks [0, 0, 0] rfl)) ?_
           refine at_take2g 9 rfl rfl rfl rfl (by kernel_rfl) (by kernel_rfl) (by kernel_rfl) (fun _ h => h.picks [0, 1] rfl) rfl rfl (p_not rfl) (fun _ h => h.picks [0, 1] rfl) ?_
           refine at_take2 10 rfl (by kernel_rfl) (by kernel_rfl) (by kernel_rfl) (fun _ h => h.picks [0, 1] rfl) rfl rfl (p_pkf rfl rfl) (fun _ h => h.picks [0, 1] rfl) ?_
           refine at_each (rs := [12]) (by kernel_rfl) (by decide) ?_
           refine (.cons rfl (fun I cnI => ?_) .nil)
           ·refine r_sb (vs := [.string a0.Of]) (j := 1) ty9 rfl rfl rfl rfl rfl rfl rfl ?_
            refine lj_nil ?_
            refine cnI _ _ (sof2 rfl rfl (fun _ h => h.picks [0, 1] rfl)) ?_
            refine at_take2 13 rfl (by kernel_rfl) (by kernel_rfl) (by kernel_rfl) (fun _ h => h.picks [0, 1] rfl) rfl rfl (p_fab fl53_9 rfl) (fun _ h => h.picks [0, 1] rfl) ?_
            refine at_each (rs := [14]) (by kernel_rfl) (by decide) ?_
            refine (.cons rfl (fun I cnI => ?_) .nil)
            ·refine r_sb (vs := [.int .i64 a0.Other]) (j := 1) ty3 rfl rfl rfl rfl rfl rfl rfl ?_
             refine lj_nil ?_
             refine cnI _ _ (sof2 rfl rfl (fun _ h => h.picks [0, 1] rfl)) ?_
             refine at_take2 15 rfl (by kernel_rfl) (by kernel_rfl) (by kernel_rfl) (fun _ h => h.picks [0, 1] rfl) rfl rfl (p_as rfl) (fun _ h => h.picks [0, 1] rfl) ?_
             refine at_done (by kernel_rfl) ?_
             exact cnk26 _ _ (!y27, a0.Of, a0.Other) () (Option.some.inj hm).symm ⟨rfl, rfl, rfl, rfl, rfl, trivial⟩ (fun _ h => h.picks [1, 1] rfl)
        ·have hm := ifB_f hb hm
         refine cj_skip ?_
         exact cnk26 _ _ (u18.1, ByteArray.empty, 0) () (Option.some.inj hm).symm ⟨rfl, rfl, rfl, rfl, rfl, trivial⟩ (fun _ h => h.picks [1, 1] rfl)
      ·have hm := hk20
       refine cj_if (b := y17) rfl (fun hb => ?_) (fun hb => ?_)
       ·have hm := ifB_t hb hm
        refine cj_anyT [0, 1, 2, 3, 4, 5, 7, 8, 9, 11] [10, 11] (Sat w0 (keys ([] : List Ent)) A [.row R3 (SV.v s16) [4, 5, 6], .box b9 53 [.string a0.Site, .int .i64 a0.No, .int .i64 a0.At, .int .i64 a0.Kind, .string u12.2, .string ByteArray.empty, .int .i64 0, .bool false, .string ByteArray.empty, .int .i64 0], .box b1 53 [.string a0.Site, .int .i64 a0.No, .int .i64 a0.At, .int .i64 a0.Kind, .string a0.Who, .string a0.Motion, .int .i64 a0.Cents, .bool a0.Yes, .string a0.Of, .int .i64 a0.Other]]) (Sat w0 (keys ([] : List Ent)) A [.row R3 (SV.v s16) [4, 5, 6], .box b1 53 [.string a0.Site, .int .i64 a0.No, .int .i64 a0.At, .int .i64 a0.Kind, .string a0.Who, .string a0.Motion, .int .i64 a0.Cents, .bool a0.Yes, .string a0.Of, .int .i64 a0.Other]]) (by kernel_rfl) ?_
        refine at_take2 0 rfl (by kernel_rfl) (by kernel_rfl) (by kernel_rfl) (fun _ h => h.picks [0, 1] rfl) rfl rfl (p_fab fl53_5 rfl) (fun _ h => h.picks [0, 1] rfl) ?_
        refine at_take2 1 rfl (by kernel_rfl) (by kernel_rfl) (by kernel_rfl) (fun _ h => h.picks [0, 1] rfl) rfl rfl (p_lbs ty9 rfl (j := 1) rfl rfl) (fun _ h => h.picks [0, 1] rfl) ?_
        refine at_take2 2 rfl (by kernel_rfl) (by kernel_rfl) (by kernel_rfl) (fun _ h => h.picks [0, 1] rfl) rfl rfl (p_mv rfl) (fun _ h => h.picks [0, 1] rfl) ?_
        refine at_take2 3 rfl (by kernel_rfl) (by kernel_rfl) (by kernel_rfl) (fun _ h => h.picks [0, 1] rfl) rfl rfl (p_mv rfl) (fun _ h => h.picks [0, 1] rfl) ?_
        refine at_case (i := 56) u12.1 rfl (fun hb => ?_) (fun hb => ?_)
        ·have hm := ifB_t hb hm
         refine at_skip 4 rfl rfl rfl rfl (by kernel_rfl) (by kernel_rfl) (by kernel_rfl) rfl rfl ?_
         refine at_skip 5 rfl rfl rfl rfl (by kernel_rfl) (by kernel_rfl) (by kernel_rfl) rfl rfl ?_
         refine at_take2 9 rfl (by kernel_rfl) (by kernel_rfl) (by kernel_rfl) (fun _ h => h.picks [0, 1] rfl) rfl rfl (p_fab fl53_5 rfl) (fun _ h => h.picks [0, 1] rfl) ?_
         refine at_each (rs := [6]) (by kernel_rfl) (by decide) ?_
         refine (.cons rfl (fun I cnI => ?_) .nil)
         ·refine ls false rfl rfl rfl rfl ?_
          refine lj_nil ?_
          refine cnI _ _ (sof1 rfl rfl (fun _ h => h.picks [0, 0, 0] rfl)) ?_
          refine at_skip 7 rfl rfl rfl rfl (by kernel_rfl) (by kernel_rfl) (by kernel_rfl) rfl rfl ?_
          refine at_take2 8 rfl (by kernel_rfl) (by kernel_rfl) (by kernel_rfl) (fun _ h => h.picks [0, 1] rfl) rfl rfl (p_pkt rfl rfl) (fun _ h => h.picks [0, 1] rfl) ?_
          refine at_each (rs := [10]) (by kernel_rfl) (by decide) ?_
          refine (.cons rfl (fun I cnI => ?_) .nil)
          ·refine r_sb (vs := [.string a0.Motion]) (j := 1) ty9 rfl rfl rfl rfl rfl rfl rfl ?_
           refine lj_nil ?_
           refine cnI _ _ (sof2 rfl rfl (fun _ h => h.picks [0, 1] rfl)) ?_
           refine at_take2 11 rfl (by kernel_rfl) (by kernel_rfl) (by kernel_rfl) (fun _ h => h.picks [0, 1] rfl) rfl rfl (p_as rfl) (fun _ h => h.picks [0, 1] rfl) ?_
           refine at_done (by kernel_rfl) ?_
           exact cnk20 _ _ (true, a0.Motion) () (Option.some.inj hm).symm ⟨rfl, rfl, rfl, rfl, rfl, trivial⟩ (fun _ h => h.picks [1, 1] rfl)
        ·have hm := ifB_f hb hm
         obtain ⟨y21, hy21, hm⟩ := bindS hm
         refine at_take2g 4 rfl rfl rfl rfl (by kernel_rfl) (by kernel_rfl) (by kernel_rfl) (fun _ h => h.picks [0, 1] rfl) rfl rfl (p_fab fl53_5 rfl) (fun _ h => h.picks [0, 1] rfl) ?_
         refine at_take2g 5 rfl rfl rfl rfl (by kernel_rfl) (by kernel_rfl) (by kernel_rfl) (fun _ h => h.picks [0, 1] rfl) rfl rfl (p_lbs ty9 rfl (j := 1) rfl rfl) (fun _ h => h.picks [0, 1] rfl) ?_
         refine at_take2 9 rfl (by kernel_rfl) (by kernel_rfl) (by kernel_rfl) (fun _ h => h.picks [0, 1] rfl) rfl rfl (p_fab fl53_5 rfl) (fun _ h => h.picks [0, 1] rfl) ?_
         refine at_each (rs := [6]) (by kernel_rfl) (by decide) ?_
         refine (.cons rfl (fun I cnI => ?_) .nil)
         ·refine lg false rfl rfl rfl ?_
          refine r_call [] cf33 rfl rfl (ok_gleeref2_Key a0.Motion hy21) rfl rfl .nil (fun _ => rfl) rfl (fun _ => ?_)
          refine lj_nil ?_
          refine cnI _ _ (sof1 rfl rfl (fun _ h => h.picks [0, 0, 0] rfl)) ?_
          refine at_take2g 7 rfl rfl rfl rfl (by kernel_rfl) (by kernel_rfl) (by kernel_rfl) (fun _ h => h.picks [0, 1] rfl) rfl rfl (p_not rfl) (fun _ h => h.picks [0, 1] rfl) ?_
          refine at_take2 8 rfl (by kernel_rfl) (by kernel_rfl) (by kernel_rfl) (fun _ h => h.picks [0, 1] rfl) rfl rfl (p_pkf rfl rfl) (fun _ h => h.picks [0, 1] rfl) ?_
          refine at_each (rs := [10]) (by kernel_rfl) (by decide) ?_
          refine (.cons rfl (fun I cnI => ?_) .nil)
          ·refine r_sb (vs := [.string a0.Motion]) (j := 1) ty9 rfl rfl rfl rfl rfl rfl rfl ?_
           refine lj_nil ?_
           refine cnI _ _ (sof2 rfl rfl (fun _ h => h.picks [0, 1] rfl)) ?_
           refine at_take2 11 rfl (by kernel_rfl) (by kernel_rfl) (by kernel_rfl) (fun _ h => h.picks [0, 1] rfl) rfl rfl (p_as rfl) (fun _ h => h.picks [0, 1] rfl) ?_
           refine at_done (by kernel_rfl) ?_
           exact cnk20 _ _ (!y21, a0.Motion) () (Option.some.inj hm).symm ⟨rfl, rfl, rfl, rfl, rfl, trivial⟩ (fun _ h => h.picks [1, 1] rfl)
       ·have hm := ifB_f hb hm
        refine cj_skip ?_
        exact cnk20 _ _ (u12.1, ByteArray.empty) () (Option.some.inj hm).symm ⟨rfl, rfl, rfl, rfl, rfl, trivial⟩ (fun _ h => h.picks [1, 1] rfl)
     ·have hm := hk14
      refine cj_if (b := y11) rfl (fun hb => ?_) (fun hb => ?_)
      ·have hm := ifB_t hb hm
       obtain ⟨y15, hy15, hm⟩ := bindS hm
       refine cj_anyT [0, 1, 2, 3, 4, 5, 7, 8, 9, 11] [10, 11] (Sat w0 (keys ([] : List Ent)) A [.row R3 (SV.v s10) [1, 2, 3, 5], .box b9 53 [.string a0.Site, .int .i64 a0.No, .int .i64 a0.At, .int .i64 a0.Kind, .string ByteArray.empty, .string ByteArray.empty, .int .i64 0, .bool false, .string ByteArray.empty, .int .i64 0], .box b1 53 [.string a0.Site, .int .i64 a0.No, .int .i64 a0.At, .int .i64 a0.Kind, .string a0.Who, .string a0.Motion, .int .i64 a0.Cents, .bool a0.Yes, .string a0.Of, .int .i64 a0.Other]]) (Sat w0 (keys ([] : List Ent)) A [.row R3 (SV.v s10) [1, 2, 3, 5], .box b1 53 [.string a0.Site, .int .i64 a0.No, .int .i64 a0.At, .int .i64 a0.Kind, .string a0.Who, .string a0.Motion, .int .i64 a0.Cents, .bool a0.Yes, .string a0.Of, .int .i64 a0.Other]]) (by kernel_rfl) ?_
       refine at_take2 0 rfl (by kernel_rfl) (by kernel_rfl) (by kernel_rfl) (fun _ h => h.picks [0, 1] rfl) rfl rfl (p_fab fl53_4 rfl) (fun _ h => h.picks [0, 1] rfl) ?_
       refine at_take2 1 rfl (by kernel_rfl) (by kernel_rfl) (by kernel_rfl) (fun _ h => h.picks [0, 1] rfl) rfl rfl (p_lbs ty9 rfl (j := 1) rfl rfl) (fun _ h => h.picks [0, 1] rfl) ?_
       refine at_take2 2 rfl (by kernel_rfl) (by kernel_rfl) (by kernel_rfl) (fun _ h => h.picks [0, 1] rfl) rfl rfl (p_mv rfl) (fun _ h => h.picks [0, 1] rfl) ?_
       refine at_take2 3 rfl (by kernel_rfl) (by kernel_rfl) (by kernel_rfl) (fun _ h => h.picks [0, 1] rfl) rfl rfl (p_mv rfl) (fun _ h => h.picks [0, 1] rfl) ?_
       refine at_take2g 4 rfl rfl rfl rfl (by kernel_rfl) (by kernel_rfl) (by kernel_rfl) (fun _ h => h.picks [0, 1] rfl) rfl rfl (p_fab fl53_4 rfl) (fun _ h => h.picks [0, 1] rfl) ?_
       refine at_take2g 5 rfl rfl rfl rfl (by kernel_rfl) (by kernel_rfl) (by kernel_rfl) (fun _ h => h.picks [0, 1] rfl) rfl rfl (p_lbs ty9 rfl (j := 1) rfl rfl) (fun _ h => h.picks [0, 1] rfl) ?_
       refine at_take2 9 rfl (by kernel_rfl) (by kernel_rfl) (by kernel_rfl) (fun _ h => h.picks [0, 1] rfl) rfl rfl (p_fab fl53_4 rfl) (fun _ h => h.picks [0, 1] rfl) ?_
       refine at_each (rs := [6]) (by kernel_rfl) (by decide) ?_
       refine (.cons rfl (fun I cnI => ?_) .nil)
       ·refine lg false rfl rfl rfl ?_
        refine r_call [] cf33 rfl rfl (ok_gleeref2_Key a0.Who hy15) rfl rfl .nil (fun _ => rfl) rfl (fun _ => ?_)
        refine lj_nil ?_
        refine cnI _ _ (sof1 rfl rfl (fun _ h => h.picks [0, 0, 0] rfl)) ?_
        refine at_take2g 7 rfl rfl rfl rfl (by kernel_rfl) (by kernel_rfl) (by kernel_rfl) (fun _ h => h.picks [0, 1] rfl) rfl rfl (p_not rfl) (fun _ h => h.picks [0, 1] rfl) ?_
        refine at_take2 8 rfl (by kernel_rfl) (by kernel_rfl) (by kernel_rfl) (fun _ h => h.picks [0, 1] rfl) rfl rfl (p_pkf rfl rfl) (fun _ h => h.picks [0, 1] rfl) ?_
        refine at_each (rs := [10]) (by kernel_rfl) (by decide) ?_
        refine (.cons rfl (fun I cnI => ?_) .nil)
        ·refine r_sb (vs := [.string a0.Who]) (j := 1) ty9 rfl rfl rfl rfl rfl rfl rfl ?_
         refine lj_nil ?_
         refine cnI _ _ (sof2 rfl rfl (fun _ h => h.picks [0, 1] rfl)) ?_
         refine at_take2 11 rfl (by kernel_rfl) (by kernel_rfl) (by kernel_rfl) (fun _ h => h.picks [0, 1] rfl) rfl rfl (p_as rfl) (fun _ h => h.picks [0, 1] rfl) ?_
         refine at_done (by kernel_rfl) ?_
         exact cnk14 _ _ (!y15, a0.Who) () (Option.some.inj hm).symm ⟨rfl, rfl, rfl, rfl, rfl, trivial⟩ (fun _ h => h.picks [1, 1] rfl)
      ·have hm := ifB_f hb hm
       refine cj_skip ?_
       exact cnk14 _ _ (false, ByteArray.empty) () (Option.some.inj hm).symm ⟨rfl, rfl, rfl, rfl, rfl, trivial⟩ (fun _ h => h.picks [1, 1] rfl)
  ·have hm := hk5
   refine lp rfl (p_fab fl53_1 rfl) ?_
   refine lp rfl (p_lbs ty3 rfl (j := 0) rfl rfl) ?_
   obtain ⟨y6, hy6, hm⟩ := bindS hm
   refine r_call [] cf51 rfl rfl (ok_gleeref2_in a0.No 1 1000000 hy6) rfl rfl .nil (fun _ => rfl) rfl (fun _ => ?_)
   refine lp rfl (p_not rfl) ?_
   refine lp rfl (p_mv rfl) ?_
   refine lcase (i := 16) (!y6) rfl (fun hb => ?_) (fun hb => ?_)
   ·have hm := ifB_t hb hm
    refine ls false rfl rfl rfl rfl ?_
    refine ls false rfl rfl rfl rfl ?_
    refine ls false rfl rfl rfl rfl ?_
    refine ls false rfl rfl rfl rfl ?_
    refine lp rfl (p_pkt rfl rfl) ?_
    refine lp rfl (p_as rfl) ?_
    refine lj_nil ?_
    exact cnk5 _ _ true () (Option.some.inj hm).symm ⟨rfl, rfl, rfl, trivial⟩ (fun _ h => h.picks [0] rfl)
   ·have hm := ifB_f hb hm
    refine lg false rfl rfl rfl ?_
    refine lp rfl (p_fab fl53_2 rfl) ?_
    refine lg false rfl rfl rfl ?_
    refine lp rfl (p_lbs ty3 rfl (j := 0) rfl rfl) ?_
    refine lg false rfl rfl rfl ?_
    obtain ⟨y7, hy7, hm⟩ := bindS hm
    refine r_call [] cf50 rfl rfl (ok_gleeref2_Moment a0.At hy7) rfl rfl .nil (fun _ => rfl) rfl (fun _ => ?_)
    refine lg false rfl rfl rfl ?_
    refine lp rfl (p_not rfl) ?_
    refine lp rfl (p_pkf rfl rfl) ?_
    refine lp rfl (p_as rfl) ?_
    refine lj_nil ?_
    exact cnk5 _ _ (!y7) () (Option.some.inj hm).symm ⟨rfl, rfl, rfl, trivial⟩ (fun _ h => h.picks [0] rfl)
theorem ok_gleeref2_oneAct (a0 : TAct) (a1 : TAct) {r : Bool} (hm : m_gleeref2_oneAct a0 a1 = some r) :
  Ctr Tryz.prog 49 [.agg (R53.enc a0).toArray, .agg (R53.enc a1).toArray].toArray ([] : List Ent) [] (X := Unit) (fun _ => .bool r) (fun _ => []) := by
 unfold m_gleeref2_oneAct at hm
 refine ctr_mk (vs := [(0, .agg (R53.enc a0).toArray), (1, .agg (R53.enc a1).toArray)]) Tryz.func49 rfl Tryz.ntmps49 rfl ⟨rfl, rfl, trivial⟩ (fun w0 A => ?_)
 refine cj_seq ?_
 refine cj_reg ?_
 refine r_bx (cs := [.string a0.Site, .int .i64 a0.No, .int .i64 a0.At, .int .i64 a0.Kind, .string a0.Who, .string a0.Motion, .int .i64 a0.Cents, .bool a0.Yes, .string a0.Of, .int .i64 a0.Other]) rfl rfl rfl (fun b1 => ?_)
 refine r_bx (cs := [.string a1.Site, .int .i64 a1.No, .int .i64 a1.At, .int .i64 a1.Kind, .string a1.Who, .string a1.Motion, .int .i64 a1.Cents, .bool a1.Yes, .string a1.Of, .int .i64 a1.Other]) rfl rfl rfl (fun b2 => ?_)
 refine lp rfl (p_as rfl) ?_
 refine lj_seq ?_
 refine cj_seq ?_
 refine cj_reg ?_
 refine lp rfl (p_fab fl53_0 rfl) ?_
 refine lp rfl (p_lbs ty9 rfl (j := 1) rfl rfl) ?_
 refine lp rfl (p_fab fl53_0 rfl) ?_
 refine lp rfl (p_lbs ty9 rfl (j := 0) rfl rfl) ?_
 refine lp rfl (p_eqs rfl rfl) ?_
 refine lp rfl (p_mv rfl) ?_
 refine lcase (i := 10) (a0.Site.toList == a1.Site.toList) rfl (fun hb => ?_) (fun hb => ?_)
 ·have hm := ifB_t hb hm
  refine lg true rfl rfl rfl ?_
  refine lp rfl (p_fab fl53_1 rfl) ?_
  refine lg true rfl rfl rfl ?_
  refine lp rfl (p_lbs ty3 rfl (j := 1) rfl rfl) ?_
  refine lg true rfl rfl rfl ?_
  refine lp rfl (p_fab fl53_1 rfl) ?_
  refine lg true rfl rfl rfl ?_
  refine lp rfl (p_lbs ty3 rfl (j := 0) rfl rfl) ?_
  refine lg true rfl rfl rfl ?_
  refine lp rfl (p_eql rfl rfl) ?_
  refine lp rfl (p_pkt rfl rfl) ?_
  refine lp rfl (p_as rfl) ?_
  refine lj_seq ?_
  obtain rfl := Option.some.inj hm
  exact cj_rt () [] Tryz.results49 (.tmp rfl .nil) rfl rfl
 ·have hm := ifB_f hb hm
  refine ls true rfl rfl rfl rfl ?_
  refine ls true rfl rfl rfl rfl ?_
  refine ls true rfl rfl rfl rfl ?_
  refine ls true rfl rfl rfl rfl ?_
  refine ls true rfl rfl rfl rfl ?_
  refine lp rfl (p_pkf rfl rfl) ?_
  refine lp rfl (p_as rfl) ?_
  refine lj_seq ?_
  obtain rfl := Option.some.inj hm
  exact cj_rt () [] Tryz.results49 (.tmp rfl .nil) rfl rfl
theorem ok_gleeref2_ActsFault_1 (a0 : TAct) (b1_ : Nat) (a1_0 : ByteArray) (a1_1 : Int) (a1_2 : Int) (a1_3 : Int) (a1_4 : ByteArray) (a1_5 : ByteArray) (a1_6 : Int) (a1_7 : Bool) (a1_8 : ByteArray) (a1_9 : Int) {r : Bool} (hm : m_gleeref2_ActsFault_1 a0 a1_0 a1_1 a1_2 a1_3 a1_4 a1_5 a1_6 a1_7 a1_8 a1_9 = some r) :
  Ctr Tryz.prog 48 [.agg (R53.enc a0).toArray, .pointer (some ⟨b1_, 0, none⟩)].toArray ([] : List Ent) [BoxS b1_ 53 [.string a1_0, .int .i64 a1_1, .int .i64 a1_2, .int .i64 a1_3, .string a1_4, .string a1_5, .int .i64 a1_6, .bool a1_7, .string a1_8, .int .i64 a1_9]] (X := Unit) (fun _ => .bool r) (fun _ => []) := by
 unfold m_gleeref2_ActsFault_1 at hm
 refine ctr_mk (vs := [(0, .agg (R53.enc a0).toArray), (1, .pointer (some ⟨b1_, 0, none⟩))]) Tryz.func48 rfl Tryz.ntmps48 rfl ⟨rfl, rfl, trivial⟩ (fun w0 A => ?_)
 refine cj_seq ?_
 refine cj_reg ?_
 refine r_bx (cs := [.string a0.Site, .int .i64 a0.No, .int .i64 a0.At, .int .i64 a0.Kind, .string a0.Who, .string a0.Motion, .int .i64 a0.Cents, .bool a0.Yes, .string a0.Of, .int .i64 a0.Other]) rfl rfl rfl (fun b1 => ?_)
 refine lp rfl (p_as rfl) ?_
 refine lj_seq ?_
 refine cj_seq ?_
 refine cj_reg ?_
 refine lp rfl (p_lbw ty53 rfl (j := 0) rfl rfl) ?_
 refine lp rfl (p_rba ty53 rfl (.ro 1 rfl) rfl) ?_
 obtain ⟨y2, hy2, hm⟩ := bindS hm
 refine r_call [] cf49 rfl rfl (ok_gleeref2_oneAct a0 (TAct.mk a1_0 a1_1 a1_2 a1_3 a1_4 a1_5 a1_6 a1_7 a1_8 a1_9) hy2) rfl rfl .nil (fun _ => rfl) rfl (fun _ => ?_)
 refine lp rfl (p_as rfl) ?_
 refine lj_seq ?_
 obtain rfl := Option.some.inj hm
 exact cj_rt () [] Tryz.results48 (.tmp rfl .nil) rfl rfl
theorem ok_slices_IndexFunc_api_Act_api_Act__gleeref2_ActsFault_1 (s0_ : SV) (a0 : (List TAct)) (b1_c0_ : Nat) (a1_c0_0 : ByteArray) (a1_c0_1 : Int) (a1_c0_2 : Int) (a1_c0_3 : Int) (a1_c0_4 : ByteArray) (a1_c0_5 : ByteArray) (a1_c0_6 : Int) (a1_c0_7 : Bool) (a1_c0_8 : ByteArray) (a1_c0_9 : Int) {r : Int} (hm : m_slices_IndexFunc_api_Act_api_Act__gleeref2_ActsFault_1 a0 a1_c0_0 a1_c0_1 a1_c0_2 a1_c0_3 a1_c0_4 a1_c0_5 a1_c0_6 a1_c0_7 a1_c0_8 a1_c0_9 = some r) :
  Ctr Tryz.prog 70 [s0_.v, .func (.func 48) #[] [.pointer (some ⟨b1_c0_, 0, none⟩)].toArray].toArray ([] : List Ent) [RdS R53 (SV.v s0_) a0, BoxS b1_c0_ 53 [.string a1_c0_0, .int .i64 a1_c0_1, .int .i64 a1_c0_2, .int .i64 a1_c0_3, .string a1_c0_4, .string a1_c0_5, .int .i64 a1_c0_6, .bool a1_c0_7, .string a1_c0_8, .int .i64 a1_c0_9]] (X := Unit) (fun _ => .int .i64 r) (fun _ => []) := by
 unfold m_slices_IndexFunc_api_Act_api_Act__gleeref2_ActsFault_1 at hm
 refine ctr_mk (vs := [(0, s0_.v), (1, .func (.func 48) #[] [.pointer (some ⟨b1_c0_, 0, none⟩)].toArray)]) Tryz.func70 rfl Tryz.ntmps70 rfl ⟨rfl, rfl, trivial⟩ (fun w0 A => ?_)
 refine cj_seq ?_
 refine cj_reg ?_
 refine lp rfl (p_as rfl) ?_
 refine lj_seq ?_
 refine cj_seq ?_
 refine cj_seq ?_
 refine cj_reg ?_
 refine lp rfl (p_mv rfl) ?_
 refine lp rfl (p_len Tryz.underlying26 rfl (.ro 0 rfl)) ?_
 refine lp rfl (p_mv rfl) ?_
 refine lj_seq ?_
 obtain ⟨f7, hf7, hm⟩ := bindS hm
 refine cj_range (γ := Unit) (m := (a0.length : Int)) hf7 () (fun u4 g5 => [(0, s0_.v), (1, .func (.func 48) #[] [.pointer (some ⟨b1_c0_, 0, none⟩)].toArray), (4, .int .i64 0)]) (fun u4 g5 => Sat w0 (keys ([] : List Ent)) A [.ro (RdS R53 (SV.v s0_) a0), .ro (BoxS b1_c0_ 53 [.string a1_c0_0, .int .i64 a1_c0_1, .int .i64 a1_c0_2, .int .i64 a1_c0_3, .string a1_c0_4, .string a1_c0_5, .int .i64 a1_c0_6, .bool a1_c0_7, .string a1_c0_8, .int .i64 a1_c0_9])]) ⟨rfl, rfl, rfl, rfl, rfl, trivial⟩ (fun _ h => h.picks [0, 0] rfl) (nat_lt _) (fun _ h => (FactAt.get (F := RdS R53 (SV.v s0_) a0) (.ro 0 rfl) h).1) (fun _ _ => ⟨rfl, rfl, rfl, rfl⟩) ⟨rfl, rfl, rfl, rfl, rfl⟩ rfl rfl rfl (fun u4 g5 e => ?_) (fun aftk6 i1 x2 u4 g5 k6 hx3 hs J hJk6 hBk6 hX I cnk6 => ?_)
 ·have hm := Flow.fin_b e hm
  refine nj_seq ?_
  refine cj_seq ?_
  refine cj_reg ?_
  refine lp rfl (p_as rfl) ?_
  refine lj_seq ?_
  obtain rfl := Option.some.inj hm
  exact cj_rt () [] Tryz.results70 (.tmp rfl .nil) rfl rfl
 ·have hRk6 : ∀ t, k6 = .ret t → some t = some r := fun t e => by rw [hX t e] at hm; exact hm
  have hm := hs
  refine cj_seq ?_
  refine cj_reg ?_
  refine lp rfl (p_mv rfl) ?_
  refine lp rfl (p_as rfl) ?_
  refine lj_seq ?_
  refine cj_seq ?_
  refine cj_reg ?_
  refine lp rfl (p_mv rfl) ?_
  refine lp rfl (p_mv rfl) ?_
  refine lp rfl (p_mv rfl) ?_
  refine lp rfl (p_idx Tryz.underlying26 ty53 rfl rfl (.ro 0 rfl) (getI_nat.trans hx3)) ?_
  refine lp rfl (p_lea ty53 rfl (.ro 0 rfl) hx3) ?_
  obtain ⟨y8, hy8, hm⟩ := bindS hm
  refine r_call [] cf48 rfl rfl (ok_gleeref2_ActsFault_1 x2 b1_c0_ a1_c0_0 a1_c0_1 a1_c0_2 a1_c0_3 a1_c0_4 a1_c0_5 a1_c0_6 a1_c0_7 a1_c0_8 a1_c0_9 hy8) rfl rfl (.cons (.ro 1 rfl) .nil) (fun _ => rfl) rfl (fun _ => ?_)
  refine lj_seq ?_
  refine cj_if (b := y8) rfl (fun hb => ?_) (fun hb => ?_)
  ·have hm := ifB_t hb hm
   refine cj_seq ?_
   refine cj_reg ?_
   refine lp rfl (p_mv rfl) ?_
   refine lp rfl (p_as rfl) ?_
   refine lj_seq ?_
   have hm := hRk6 _ (Option.some.inj hm).symm
   obtain rfl := Option.some.inj hm
   exact cj_rt () [] Tryz.results70 (.tmp rfl .nil) rfl rfl
  ·have hm := ifB_f hb hm
   refine cj_skip ?_
   refine nj_blk ?_
   exact cnk6 _ _ () () (hJk6 _ (Option.some.inj hm).symm) ⟨rfl, rfl, rfl, rfl, rfl, trivial⟩ (fun _ h => h.picks [0, 0] rfl)
theorem ok_slices_ContainsFunc_api_Act_api_Act__gleeref2_ActsFault_1 (s0_ : SV) (a0 : (List TAct)) (b1_c0_ : Nat) (a1_c0_0 : ByteArray) (a1_c0_1 : Int) (a1_c0_2 : Int) (a1_c0_3 : Int) (a1_c0_4 : ByteArray) (a1_c0_5 : ByteArray) (a1_c0_6 : Int) (a1_c0_7 : Bool) (a1_c0_8 : ByteArray) (a1_c0_9 : Int) {r : Bool} (hm : m_slices_ContainsFunc_api_Act_api_Act__gleeref2_ActsFault_1 a0 a1_c0_0 a1_c0_1 a1_c0_2 a1_c0_3 a1_c0_4 a1_c0_5 a1_c0_6 a1_c0_7 a1_c0_8 a1_c0_9 = some r) :
  Ctr Tryz.prog 47 [s0_.v, .func (.func 48) #[] [.pointer (some ⟨b1_c0_, 0, none⟩)].toArray].toArray ([] : List Ent) [RdS R53 (SV.v s0_) a0, BoxS b1_c0_ 53 [.string a1_c0_0, .int .i64 a1_c0_1, .int .i64 a1_c0_2, .int .i64 a1_c0_3, .string a1_c0_4, .string a1_c0_5, .int .i64 a1_c0_6, .bool a1_c0_7, .string a1_c0_8, .int .i64 a1_c0_9]] (X := Unit) (fun _ => .bool r) (fun _ => []) := by
 unfold m_slices_ContainsFunc_api_Act_api_Act__gleeref2_ActsFault_1 at hm
 refine ctr_mk (vs := [(0, s0_.v), (1, .func (.func 48) #[] [.pointer (some ⟨b1_c0_, 0, none⟩)].toArray)]) Tryz.func47 rfl Tryz.ntmps47 rfl ⟨rfl, rfl, trivial⟩ (fun w0 A => ?_)
 refine cj_seq ?_
 refine cj_reg ?_
 refine lp rfl (p_as rfl) ?_
 refine lj_seq ?_
 refine cj_seq ?_
 refine cj_reg ?_
 refine lp rfl (p_mv rfl) ?_
 refine lp rfl (p_mv rfl) ?_
 obtain ⟨y1, hy1, hm⟩ := bindS hm
 refine r_call [] cf70 rfl rfl (ok_slices_IndexFunc_api_Act_api_Act__gleeref2_ActsFault_1 s0_ a0 b1_c0_ a1_c0_0 a1_c0_1 a1_c0_2 a1_c0_3 a1_c0_4 a1_c0_5 a1_c0_6 a1_c0_7 a1_c0_8 a1_c0_9 hy1) rfl rfl (.cons (.ro 0 rfl) (.cons (.ro 1 rfl) .nil)) (fun _ => rfl) rfl (fun _ => ?_)
 refine lp rfl (p_geq rfl rfl) ?_
 refine lp rfl (p_as rfl) ?_
 refine lj_seq ?_
 obtain rfl := Option.some.inj hm
 exact cj_rt () [] Tryz.results47 (.tmp rfl .nil) rfl rfl
theorem ok_gleeref2_ActsFault (s0_ : SV) (a0 : (List TAct)) {r : Int} (hm : m_gleeref2_ActsFault a0 = some r) :
  Ctr Tryz.prog 30 [s0_.v].toArray ([] : List Ent) [RdS R53 (SV.v s0_) a0] (X := Unit) (fun _ => .int .i64 r) (fun _ => []) := by
 unfold m_gleeref2_ActsFault at hm
 refine ctr_mk (vs := [(0, s0_.v)]) Tryz.func30 rfl Tryz.ntmps30 rfl ⟨rfl, trivial⟩ (fun w0 A => ?_)
 refine cj_seq ?_
 refine cj_reg ?_
 refine lp rfl (p_as rfl) ?_
 refine lj_seq ?_
 refine cj_seq ?_
 refine cj_seq ?_
 refine cj_reg ?_
 refine lp rfl (p_mv rfl) ?_
 refine lp rfl (p_len Tryz.underlying26 rfl (.ro 0 rfl)) ?_
 refine lp rfl (p_gtr rfl rfl) ?_
 refine lj_seq ?_
 refine cj_if (b := decide ((a0.length : Int) > 2000)) rfl (fun hb => ?_) (fun hb => ?_)
 ·have hm := ifB_t hb hm
  refine cj_seq ?_
  refine cj_reg ?_
  refine lp rfl (p_as rfl) ?_
  refine lj_seq ?_
  obtain rfl := Option.some.inj hm
  exact cj_rt () [] Tryz.results30 (.tmp rfl .nil) rfl rfl
 ·have hm := ifB_f hb hm
  refine cj_skip ?_
  refine nj_seq ?_
  refine cj_seq ?_
  refine cj_seq ?_
  refine cj_reg ?_
  refine lp rfl (p_mv rfl) ?_
  refine lp rfl (p_len Tryz.underlying26 rfl (.ro 0 rfl)) ?_
  refine lp rfl (p_mv rfl) ?_
  refine lj_seq ?_
  obtain ⟨f7, hf7, hm⟩ := bindS hm
  refine cj_range (γ := Unit) (m := (a0.length : Int)) hf7 () (fun u4 g5 => [(0, s0_.v), (2, .int .i64 0), (11, s0_.v)]) (fun u4 g5 => Sat w0 (keys ([] : List Ent)) A [.ro (RdS R53 (SV.v s0_) a0)]) ⟨rfl, rfl, rfl, rfl, rfl, trivial⟩ (fun _ h => h.picks [0] rfl) (nat_lt _) (fun _ h => (FactAt.get (F := RdS R53 (SV.v s0_) a0) (.ro 0 rfl) h).1) (fun _ _ => ⟨rfl, rfl, rfl, rfl⟩) ⟨rfl, rfl, rfl, rfl, rfl⟩ rfl rfl rfl (fun u4 g5 e => ?_) (fun aftk6 i1 x2 u4 g5 k6 hx3 hs J hJk6 hBk6 hX I cnk6 => ?_)
  ·have hm := Flow.fin_b e hm
   refine nj_seq ?_
   refine cj_seq ?_
   refine cj_seq ?_
   refine cj_reg ?_
   refine lp rfl (p_mv rfl) ?_
   refine lp rfl (p_len Tryz.underlying26 rfl (.ro 0 rfl)) ?_
   refine lp rfl (p_mv rfl) ?_
   refine lj_seq ?_
   obtain ⟨f18, hf18, hm⟩ := bindS hm
   refine cj_range (γ := Unit) (m := (a0.length : Int)) hf18 () (fun u15 g16 => [(0, s0_.v), (2, .int .i64 0), (36, s0_.v)]) (fun u15 g16 => Sat w0 (keys ([] : List Ent)) A [.ro (RdS R53 (SV.v s0_) a0)]) ⟨rfl, rfl, rfl, rfl, rfl, trivial⟩ (fun _ h => h.picks [0] rfl) (nat_lt _) (fun _ h => (FactAt.get (F := RdS R53 (SV.v s0_) a0) (.ro 0 rfl) h).1) (fun _ _ => ⟨rfl, rfl, rfl, rfl⟩) ⟨rfl, rfl, rfl, rfl, rfl⟩ rfl rfl rfl (fun u15 g16 e => ?_) (fun aftk17 i12 x13 u15 g16 k17 hx14 hs J hJk17 hBk17 hX I cnk17 => ?_)
   ·have hm := Flow.fin_b e hm
    refine nj_seq ?_
    refine cj_seq ?_
    refine cj_reg ?_
    refine lp rfl (p_as rfl) ?_
    refine lj_seq ?_
    obtain rfl := Option.some.inj hm
    exact cj_rt () [] Tryz.results30 (.tmp rfl .nil) rfl rfl
   ·have hRk17 : ∀ t, k17 = .ret t → some t = some r := fun t e => by rw [hX t e] at hm; exact hm
    have hm := hs
    refine cj_seq ?_
    refine cj_reg ?_
    refine lp rfl (p_mv rfl) ?_
    refine lp rfl (p_idx Tryz.underlying26 ty53 rfl rfl (.ro 0 rfl) (getI_nat.trans hx14)) ?_
    refine lp rfl (p_lea ty53 rfl (.ro 0 rfl) hx14) ?_
    refine r_al ty53 rfl (fun b19 => ?_)
    refine lp rfl (p_as rfl) ?_
    refine r_sb (vs := [.string x13.Site, .int .i64 x13.No, .int .i64 x13.At, .int .i64 x13.Kind, .string x13.Who, .string x13.Motion, .int .i64 x13.Cents, .bool x13.Yes, .string x13.Of, .int .i64 x13.Other]) (j := 0) ty53 rfl rfl rfl rfl rfl rfl rfl ?_
    refine lj_seq ?_
    refine cj_seq ?_
    refine cj_reg ?_
    refine lp rfl (p_mv rfl) ?_
    refine lp rfl (p_mv rfl) ?_
    obtain ⟨q20, hq20, hm⟩ := bindS hm
    refine lp rfl (p_cut Tryz.underlying26 ty53 rfl rfl rfl rfl rfl (.ro 1 rfl) rfl rfl hq20) ?_
    refine lp rfl (p_fn (cv := [.pointer (some ⟨b19, 0, none⟩)]) rfl) ?_
    obtain ⟨y21, hy21, hm⟩ := bindS hm
    refine r_call [] cf47 rfl rfl (ok_slices_ContainsFunc_api_Act_api_Act__gleeref2_ActsFault_1 (s0_.sub R53.sz (0 : Int).toNat (i12 : Int).toNat) q20 b19 x13.Site x13.No x13.At x13.Kind x13.Who x13.Motion x13.Cents x13.Yes x13.Of x13.Other hy21) rfl rfl (.cons (.imp (.ro 1 rfl) (fun _ h => h.cut hq20)) (.cons (.imp (.box 0 rfl) (fun _ h => h)) .nil)) (fun _ => rfl) rfl (fun _ => ?_)
    refine lj_seq ?_
    refine cj_if (b := y21) rfl (fun hb => ?_) (fun hb => ?_)
    ·have hm := ifB_t hb hm
     refine cj_seq ?_
     refine cj_reg ?_
     refine lp rfl (p_as rfl) ?_
     refine lj_seq ?_
     have hm := hRk17 _ (Option.some.inj hm).symm
     obtain rfl := Option.some.inj hm
     exact cj_rt () [] Tryz.results30 (.tmp rfl .nil) rfl rfl
    ·have hm := ifB_f hb hm
     refine cj_skip ?_
     refine nj_blk ?_
     exact cnk17 _ _ () () (hJk17 _ (Option.some.inj hm).symm) ⟨rfl, rfl, rfl, rfl, rfl, trivial⟩ (fun _ h => h.picks [1] rfl)
  ·have hRk6 : ∀ t, k6 = .ret t → some t = some r := fun t e => by rw [hX t e] at hm; exact hm
   have hm := hs
   refine cj_seq ?_
   refine cj_reg ?_
   refine lp rfl (p_mv rfl) ?_
   refine lp rfl (p_idx Tryz.underlying26 ty53 rfl rfl (.ro 0 rfl) (getI_nat.trans hx3)) ?_
   refine lp rfl (p_lea ty53 rfl (.ro 0 rfl) hx3) ?_
   refine r_al ty53 rfl (fun b8 => ?_)
   refine lp rfl (p_as rfl) ?_
   refine r_sb (vs := [.string x2.Site, .int .i64 x2.No, .int .i64 x2.At, .int .i64 x2.Kind, .string x2.Who, .string x2.Motion, .int .i64 x2.Cents, .bool x2.Yes, .string x2.Of, .int .i64 x2.Other]) (j := 0) ty53 rfl rfl rfl rfl rfl rfl rfl ?_
   refine lj_seq ?_
   refine cj_seq ?_
   refine cj_seq ?_
   refine cj_reg ?_
   refine lp rfl (p_lbw ty53 rfl (j := 0) rfl rfl) ?_
   obtain ⟨y9, hy9, hm⟩ := bindS hm
   refine r_call [] cf46 rfl rfl (ok_gleeref2_ActFault x2 hy9) rfl rfl .nil (fun _ => rfl) rfl (fun _ => ?_)
   refine lp rfl (p_as rfl) ?_
   refine lj_seq ?_
   refine cj_seq ?_
   refine cj_reg ?_
   refine lp rfl (p_mv rfl) ?_
   refine lp rfl (p_neq rfl rfl) ?_
   refine lj_seq ?_
   refine cj_if (b := y9 != 0) rfl (fun hb => ?_) (fun hb => ?_)
   ·have hm := ifB_t hb hm
    refine cj_seq ?_
    refine cj_reg ?_
    refine lp rfl (p_mv rfl) ?_
    refine lp rfl (p_as rfl) ?_
    refine lj_seq ?_
    have hm := hRk6 _ (Option.some.inj hm).symm
    obtain rfl := Option.some.inj hm
    exact cj_rt () [] Tryz.results30 (.tmp rfl .nil) rfl rfl
   ·have hm := ifB_f hb hm
    refine cj_skip ?_
    refine nj_seq ?_
    refine cj_seq ?_
    refine cj_quiet (by kernel_rfl) (by kernel_rfl) ?_
    refine q_p rfl (p_mv rfl) ?_
    refine q_p rfl (p_gtr rfl rfl) ?_
    refine q_p rfl (p_mv rfl) ?_
    refine q_case (i := 25) (decide ((i1 : Int) > 0)) rfl (fun hb => ?_) (fun hb => ?_)
    ·have hm := ifB_t hb hm
     refine q_g true rfl rfl rfl ?_
     refine q_p rfl (p_mv rfl) ?_
     refine q_g true rfl rfl rfl ?_
     refine q_p rfl (p_mv rfl) ?_
     refine q_g true rfl rfl rfl ?_
     refine q_p rfl (p_sub rfl rfl) ?_
     refine q_g true rfl rfl rfl ?_
     obtain ⟨e10, he10, hm⟩ := bindS hm
     refine q_p rfl (p_idx Tryz.underlying26 ty53 rfl rfl (.ro 1 rfl) he10) ?_
     refine q_g true rfl rfl rfl ?_
     refine q_p rfl (p_lea ty53 rfl (.ro 1 rfl) (getI_spec he10).2) ?_
     refine q_g true rfl rfl rfl ?_
     refine q_p rfl (p_lbw ty53 rfl (j := 0) rfl rfl) ?_
     refine q_g true rfl rfl rfl ?_
     obtain ⟨y11, hy11, hm⟩ := bindS hm
     refine q_call (.int .i64 y11) cf25 rfl rfl (ok_gleeref2_ActOrder e10 x2 hy11) .nil (fun _ => rfl) (fun _ => rfl) rfl ?_
     refine q_g true rfl rfl rfl ?_
     refine q_p rfl (p_geq rfl rfl) ?_
     refine q_p rfl (p_pkt rfl rfl) ?_
     refine q_nil ?_
     refine nj_seq ?_
     refine cj_if (b := decide (y11 ≥ 0)) rfl (fun hb => ?_) (fun hb => ?_)
     ·have hm := ifB_t hb hm
      refine cj_seq ?_
      refine cj_reg ?_
      refine lp rfl (p_as rfl) ?_
      refine lj_seq ?_
      have hm := hRk6 _ (Option.some.inj hm).symm
      obtain rfl := Option.some.inj hm
      exact cj_rt () [] Tryz.results30 (.tmp rfl .nil) rfl rfl
     ·have hm := ifB_f hb hm
      refine cj_skip ?_
      refine nj_blk ?_
      exact cnk6 _ _ () () (hJk6 _ (Option.some.inj hm).symm) ⟨rfl, rfl, rfl, rfl, rfl, trivial⟩ (fun _ h => h.picks [1] rfl)
    ·have hm := ifB_f hb hm
     refine q_s true rfl rfl rfl rfl ?_
     refine q_s true rfl rfl rfl rfl ?_
     refine q_s true rfl rfl rfl rfl ?_
     refine q_s true rfl rfl rfl rfl ?_
     refine q_s true rfl rfl rfl rfl ?_
     refine q_s true rfl rfl rfl rfl ?_
     refine q_s true rfl rfl rfl rfl ?_
     refine q_s true rfl rfl rfl rfl ?_
     refine q_p rfl (p_pkf rfl rfl) ?_
     refine q_nil ?_
     refine nj_seq ?_
     refine cj_if_f rfl ?_
     refine cj_skip ?_
     refine nj_blk ?_
     exact cnk6 _ _ () () (hJk6 _ (Option.some.inj hm).symm) ⟨rfl, rfl, rfl, rfl, rfl, trivial⟩ (fun _ h => h.picks [1] rfl)
theorem ok_gleeref2_MomentFault (a0 : Int) {r : Int} (hm : m_gleeref2_MomentFault a0 = some r) :
  Ctr Tryz.prog 31 [.int .i64 a0].toArray ([] : List Ent) [] (X := Unit) (fun _ => .int .i64 r) (fun _ => []) := by
 unfold m_gleeref2_MomentFault at hm
 refine ctr_mk (vs := [(0, .int .i64 a0)]) Tryz.func31 rfl Tryz.ntmps31 rfl ⟨rfl, trivial⟩ (fun w0 A => ?_)
 refine cj_seq ?_
 refine cj_reg ?_
 refine lp rfl (p_as rfl) ?_
 refine lj_seq ?_
 refine cj_seq ?_
 refine cj_seq ?_
 refine cj_reg ?_
 refine lp rfl (p_mv rfl) ?_
 obtain ⟨y1, hy1, hm⟩ := bindS hm
 refine r_call [] cf50 rfl rfl (ok_gleeref2_Moment a0 hy1) rfl rfl .nil (fun _ => rfl) rfl (fun _ => ?_)
 refine lp rfl (p_not rfl) ?_
 refine lj_seq ?_
 refine cj_if (b := !y1) rfl (fun hb => ?_) (fun hb => ?_)
 ·have hm := ifB_t hb hm
  refine cj_seq ?_
  refine cj_reg ?_
  refine lp rfl (p_as rfl) ?_
  refine lj_seq ?_
  obtain rfl := Option.some.inj hm
  exact cj_rt () [] Tryz.results31 (.tmp rfl .nil) rfl rfl
 ·have hm := ifB_f hb hm
  refine cj_skip ?_
  refine nj_seq ?_
  refine cj_seq ?_
  refine cj_reg ?_
  refine lp rfl (p_as rfl) ?_
  refine lj_seq ?_
  obtain rfl := Option.some.inj hm
  exact cj_rt () [] Tryz.results31 (.tmp rfl .nil) rfl rfl
theorem ok_gleelaw2_errs (s0_ : SV) (a0 : (List Int)) {r : Int} (hm : m_gleelaw2_errs a0 = some r) :
  Ctr Tryz.prog 12 [s0_.v].toArray ([] : List Ent) [RdS R31 (SV.v s0_) a0] (X := Unit) (fun _ => .int .i64 r) (fun _ => []) := by
 unfold m_gleelaw2_errs at hm
 refine ctr_mk (vs := [(0, s0_.v)]) Tryz.func12 rfl Tryz.ntmps12 rfl ⟨rfl, trivial⟩ (fun w0 A => ?_)
 refine cj_seq ?_
 refine cj_reg ?_
 refine lp rfl (p_as rfl) ?_
 refine lj_seq ?_
 refine cj_seq ?_
 refine cj_seq ?_
 refine cj_reg ?_
 refine lp rfl (p_mv rfl) ?_
 refine lp rfl (p_len Tryz.underlying73 rfl (.ro 0 rfl)) ?_
 refine lp rfl (p_mv rfl) ?_
 refine lj_seq ?_
 obtain ⟨f7, hf7, hm⟩ := bindS hm
 refine cj_range (γ := Unit) (m := (a0.length : Int)) hf7 () (fun u4 g5 => [(2, .int .i64 0), (5, s0_.v)]) (fun u4 g5 => Sat w0 (keys ([] : List Ent)) A [.ro (RdS R31 (SV.v s0_) a0)]) ⟨rfl, rfl, rfl, rfl, trivial⟩ (fun _ h => h.picks [0] rfl) (nat_lt _) (fun _ h => (FactAt.get (F := RdS R31 (SV.v s0_) a0) (.ro 0 rfl) h).1) (fun _ _ => ⟨rfl, rfl, rfl, rfl⟩) ⟨rfl, rfl, rfl, rfl, rfl⟩ rfl rfl rfl (fun u4 g5 e => ?_) (fun aftk6 i1 x2 u4 g5 k6 hx3 hs J hJk6 hBk6 hX I cnk6 => ?_)
 ·have hm := Flow.fin_b e hm
  refine nj_seq ?_
  refine cj_seq ?_
  refine cj_reg ?_
  refine lp rfl (p_as rfl) ?_
  refine lj_seq ?_
  obtain rfl := Option.some.inj hm
  exact cj_rt () [] Tryz.results12 (.tmp rfl .nil) rfl rfl
 ·have hRk6 : ∀ t, k6 = .ret t → some t = some r := fun t e => by rw [hX t e] at hm; exact hm
  have hm := hs
  refine cj_seq ?_
  refine cj_reg ?_
  refine lp rfl (p_idx Tryz.underlying73 ty31 rfl rfl (.ro 0 rfl) (getI_nat.trans hx3)) ?_
  refine lp rfl (p_lde (o := 0) ty31 rfl rfl (.ro 0 rfl) hx3 rfl) ?_
  refine lp rfl (p_as rfl) ?_
  refine lj_seq ?_
  refine cj_seq ?_
  refine cj_reg ?_
  refine lp rfl (p_mv rfl) ?_
  refine lp rfl (p_neq rfl rfl) ?_
  refine lj_seq ?_
  refine cj_if (b := x2 != 0) rfl (fun hb => ?_) (fun hb => ?_)
  ·have hm := ifB_t hb hm
   refine cj_seq ?_
   refine cj_reg ?_
   refine lp rfl (p_mv rfl) ?_
   refine lp rfl (p_as rfl) ?_
   refine lj_seq ?_
   have hm := hRk6 _ (Option.some.inj hm).symm
   obtain rfl := Option.some.inj hm
   exact cj_rt () [] Tryz.results12 (.tmp rfl .nil) rfl rfl
  ·have hm := ifB_f hb hm
   refine cj_skip ?_
   refine nj_blk ?_
   exact cnk6 _ _ () () (hJk6 _ (Option.some.inj hm).symm) ⟨rfl, rfl, rfl, rfl, trivial⟩ (fun _ h => h.picks [0] rfl)
theorem ok_gleelaw2_actsFault (s0_ : SV) (a0 : (List TAct)) (a1 : Int) {r : Int} (hm : m_gleelaw2_actsFault a0 a1 = some r) :
  Ctr Tryz.prog 11 [s0_.v, .int .i64 a1].toArray ([] : List Ent) [RdS R53 (SV.v s0_) a0] (X := Unit) (fun _ => .int .i64 r) (fun _ => []) := by
 unfold m_gleelaw2_actsFault at hm
 refine ctr_mk (vs := [(0, s0_.v), (1, .int .i64 a1)]) Tryz.func11 rfl Tryz.ntmps11 rfl ⟨rfl, rfl, trivial⟩ (fun w0 A => ?_)
 refine cj_seq ?_
 refine cj_reg ?_
 refine lp rfl (p_as rfl) ?_
 refine lj_seq ?_
 refine cj_seq ?_
 refine cj_reg ?_
 refine lp rfl (p_mv rfl) ?_
 obtain ⟨y1, hy1, hm⟩ := bindS hm
 refine r_call [] cf30 rfl rfl (ok_gleeref2_ActsFault s0_ a0 hy1) rfl rfl (.cons (.ro 0 rfl) .nil) (fun _ => rfl) rfl (fun _ => ?_)
 refine lp rfl (p_mv rfl) ?_
 obtain ⟨y2, hy2, hm⟩ := bindS hm
 refine r_call [] cf31 rfl rfl (ok_gleeref2_MomentFault a1 hy2) rfl rfl .nil (fun _ => rfl) rfl (fun _ => ?_)
 refine r_bs R31 [y1, y2] rfl rfl rfl (fun _ => by kernel_rfl) rfl (fun s3 => ?_)
 obtain ⟨y4, hy4, hm⟩ := bindS hm
 refine r_call [] cf12 rfl rfl (ok_gleelaw2_errs s3 [y1, y2] hy4) rfl rfl (.cons (.row 0 rfl) .nil) (fun _ => rfl) rfl (fun _ => ?_)
 refine lp rfl (p_as rfl) ?_
 refine lj_seq ?_
 obtain rfl := Option.some.inj hm
 exact cj_rt () [] Tryz.results11 (.tmp rfl .nil) rfl rfl
theorem ok_gleelaw2_when (a0 : Bool) (a1 : Int) {r : Int} (hm : m_gleelaw2_when a0 a1 = some r) :
  Ctr Tryz.prog 32 [.bool a0, .int .i64 a1].toArray ([] : List Ent) [] (X := Unit) (fun _ => .int .i64 r) (fun _ => []) := by
 unfold m_gleelaw2_when at hm
 refine ctr_mk (vs := [(0, .bool a0), (1, .int .i64 a1)]) Tryz.func32 rfl Tryz.ntmps32 rfl ⟨rfl, rfl, trivial⟩ (fun w0 A => ?_)
 refine cj_seq ?_
 refine cj_reg ?_
 refine lp rfl (p_as rfl) ?_
 refine lj_seq ?_
 refine cj_seq ?_
 refine cj_seq ?_
 refine cj_reg ?_
 refine lp rfl (p_mv rfl) ?_
 refine lj_seq ?_
 refine cj_if (b := a0) rfl (fun hb => ?_) (fun hb => ?_)
 ·have hm := ifB_t hb hm
  refine cj_seq ?_
  refine cj_reg ?_
  refine lp rfl (p_mv rfl) ?_
  refine lp rfl (p_as rfl) ?_
  refine lj_seq ?_
  obtain rfl := Option.some.inj hm
  exact cj_rt () [] Tryz.results32 (.tmp rfl .nil) rfl rfl
 ·have hm := ifB_f hb hm
  refine cj_skip ?_
  refine nj_seq ?_
  refine cj_seq ?_
  refine cj_reg ?_
  refine lp rfl (p_as rfl) ?_
  refine lj_seq ?_
  obtain rfl := Option.some.inj hm
  exact cj_rt () [] Tryz.results32 (.tmp rfl .nil) rfl rfl
theorem ok_gleelaw2_nameFault (a0 : ByteArray) {r : Int} (hm : m_gleelaw2_nameFault a0 = some r) :
  Ctr Tryz.prog 13 [.string a0].toArray ([] : List Ent) [] (X := Unit) (fun _ => .int .i64 r) (fun _ => []) := by
 unfold m_gleelaw2_nameFault at hm
 refine ctr_mk (vs := [(0, .string a0)]) Tryz.func13 rfl Tryz.ntmps13 rfl ⟨rfl, trivial⟩ (fun w0 A => ?_)
 refine cj_seq ?_
 refine cj_reg ?_
 refine lp rfl (p_as rfl) ?_
 refine lj_seq ?_
 refine cj_seq ?_
 refine cj_reg ?_
 refine lp rfl (p_mv rfl) ?_
 obtain ⟨y1, hy1, hm⟩ := bindS hm
 refine r_call [] cf33 rfl rfl (ok_gleeref2_Key a0 hy1) rfl rfl .nil (fun _ => rfl) rfl (fun _ => ?_)
 refine lp rfl (p_not rfl) ?_
 obtain ⟨y2, hy2, hm⟩ := bindS hm
 refine r_call [] cf32 rfl rfl (ok_gleelaw2_when (!y1) 5 hy2) rfl rfl .nil (fun _ => rfl) rfl (fun _ => ?_)
 refine lp rfl (p_as rfl) ?_
 refine lj_seq ?_
 obtain rfl := Option.some.inj hm
 exact cj_rt () [] Tryz.results13 (.tmp rfl .nil) rfl rfl
theorem ok_gleeref2_CountingOf_1__self_b (self_ : (Int → (List TAct) → Option Bool)) (ih_ : ∀ (a0 : Int) (b1_ : Nat) (s1_0_ : SV) (a1_0 : (List TAct)) (b2_ : Nat) {r : Bool} (hm : self_ a0 a1_0 = some r),
  Ctr Tryz.prog 71 [.int .i64 a0, .pointer (some ⟨b1_, 0, none⟩), .pointer (some ⟨b2_, 0, none⟩)].toArray ([] : List Ent) [BoxS b1_ 26 [s1_0_.v], RdS R53 (SV.v s1_0_) a1_0, BoxS b2_ 54 [.func (.func 71) #[] [.pointer (some ⟨b1_, 0, none⟩), .pointer (some ⟨b2_, 0, none⟩)].toArray]] (X := Unit) (fun _ => .bool r) (fun _ => [])) (a0 : Int) (b1_ : Nat) (s1_0_ : SV) (a1_0 : (List TAct)) (b2_ : Nat) {r : Bool} (hm : m_gleeref2_CountingOf_1__self_b self_ a0 a1_0 = some r) :
  Ctr Tryz.prog 71 [.int .i64 a0, .pointer (some ⟨b1_, 0, none⟩), .pointer (some ⟨b2_, 0, none⟩)].toArray ([] : List Ent) [BoxS b1_ 26 [s1_0_.v], RdS R53 (SV.v s1_0_) a1_0, BoxS b2_ 54 [.func (.func 71) #[] [.pointer (some ⟨b1_, 0, none⟩), .pointer (some ⟨b2_, 0, none⟩)].toArray]] (X := Unit) (fun _ => .bool r) (fun _ => []) := by
 unfold m_gleeref2_CountingOf_1__self_b at hm
 refine ctr_mk (vs := [(0, .int .i64 a0), (1, .pointer (some ⟨b1_, 0, none⟩)), (2, .pointer (some ⟨b2_, 0, none⟩))]) Tryz.func71 rfl Tryz.ntmps71 rfl ⟨rfl, rfl, rfl, trivial⟩ (fun w0 A => ?_)
 refine cj_seq ?_
 refine cj_reg ?_
 refine lp rfl (p_as rfl) ?_
 refine lj_seq ?_
 refine cj_seq ?_
 refine cj_seq ?_
 refine cj_reg ?_
 refine lp rfl (p_mv rfl) ?_
 refine lp rfl (p_add rfl rfl) ?_
 refine lp rfl (p_as rfl) ?_
 refine lj_seq ?_
 obtain ⟨f4, hf4, hm⟩ := bindS hm
 refine cj_whileA (γ := Unit) hf4 () (fun u1 g2 => [(0, .int .i64 a0), (1, .pointer (some ⟨b1_, 0, none⟩)), (2, .pointer (some ⟨b2_, 0, none⟩)), (4, .bool false), (5, .int .i64 u1)]) (fun u1 g2 => Sat w0 (keys ([] : List Ent)) A [.ro (BoxS b1_ 26 [s1_0_.v]), .ro (RdS R53 (SV.v s1_0_) a1_0), .ro (BoxS b2_ 54 [.func (.func 71) #[] [.pointer (some ⟨b1_, 0, none⟩), .pointer (some ⟨b2_, 0, none⟩)].toArray])]) ⟨rfl, rfl, rfl, rfl, rfl, trivial⟩ (fun _ h => h.picks [0, 0, 0] rfl) (fun u1 g2 e => ?_) (fun aftk3 u1 g2 k3 hs J hJk3 hBk3 hX I cnk3 => ?_)
 ·have hm := Flow.fin_b e hm
  refine nj_seq ?_
  refine cj_seq ?_
  refine cj_reg ?_
  refine lp rfl (p_as rfl) ?_
  refine lj_seq ?_
  obtain rfl := Option.some.inj hm
  exact cj_rt () [] Tryz.results71 (.tmp rfl .nil) rfl rfl
 ·have hRk3 : ∀ t, k3 = .ret t → some t = some r := fun t e => by rw [hX t e] at hm; exact hm
  have hm := hs
  refine cj_seq ?_
  refine cj_seq ?_
  refine cj_reg ?_
  refine lp rfl (p_mv rfl) ?_
  refine lp rfl (p_rbs ty26 rfl (.ro 0 rfl) rfl) ?_
  refine lp rfl (p_len Tryz.underlying26 rfl (.ro 1 rfl)) ?_
  refine lp rfl (p_lss rfl rfl) ?_
  refine lj_seq ?_
  refine cj_if (b := decide (u1 < (a1_0.length : Int))) rfl (fun hb => ?_) (fun hb => ?_)
  ·have hm := ifB_t hb hm
   refine cj_skip ?_
   refine nj_seq ?_
   refine cj_seq ?_
   refine cj_blk ?_
   refine cj_seq ?_
   obtain ⟨k7, hk7, hm⟩ := bindS hm
   have hRk7 : ∀ t, k7 = .inr t → some t = some k3 := fun t e => by rw [e] at hm; exact hm
   refine cj_joinK (σ := Bool) (γ := Unit) (fun u5 => k7 = .inl u5) (fun u5 g6 => [(0, .int .i64 a0), (1, .pointer (some ⟨b1_, 0, none⟩)), (2, .pointer (some ⟨b2_, 0, none⟩)), (4, .bool false), (5, .int .i64 u1), (50, .bool u5)]) (fun u5 g6 => Sat w0 (keys ([] : List Ent)) A [.ro (BoxS b1_ 26 [s1_0_.v]), .ro (RdS R53 (SV.v s1_0_) a1_0), .ro (BoxS b2_ 54 [.func (.func 71) #[] [.pointer (some ⟨b1_, 0, none⟩), .pointer (some ⟨b2_, 0, none⟩)].toArray])]) (fun u5 g6 hq => ?_) (fun J cnk7 => ?_)
   ·have hm := Sum.fin_l hq hm
    refine cj_if (b := u5) rfl (fun hb => ?_) (fun hb => ?_)
    ·have hm := ifB_t hb hm
     refine cj_seq ?_
     refine cj_reg ?_
     refine lp rfl (p_as rfl) ?_
     refine lj_seq ?_
     have hm := hRk3 _ (Option.some.inj hm).symm
     obtain rfl := Option.some.inj hm
     exact cj_rt () [] Tryz.results71 (.tmp rfl .nil) rfl rfl
    ·have hm := ifB_f hb hm
     refine cj_skip ?_
     refine nj_blk ?_
     refine nj_seq ?_
     refine cj_reg ?_
     refine lp rfl (p_mv rfl) ?_
     refine lp rfl (p_add rfl rfl) ?_
     refine lp rfl (p_as rfl) ?_
     refine lj_nil ?_
     exact cnk3 _ _ (w64 (u1 + 1)) () (hJk3 _ (Option.some.inj hm).symm) ⟨rfl, rfl, rfl, rfl, rfl, trivial⟩ (fun _ h => h.picks [0, 0, 0] rfl)
   ·have hm := hk7
    obtain ⟨e8, he8, hm⟩ := bindS hm
    refine cj_anyT [0, 1, 2, 3, 4, 5, 6, 7, 8, 9, 10, 11, 12, 13, 14, 15, 16, 17, 18, 19, 20, 21, 22, 23, 24, 25, 26, 27, 28, 29, 30, 31, 32, 33, 34, 36] [] (Sat w0 (keys ([] : List Ent)) A [.ro (BoxS b1_ 26 [s1_0_.v]), .ro (RdS R53 (SV.v s1_0_) a1_0), .ro (BoxS b2_ 54 [.func (.func 71) #[] [.pointer (some ⟨b1_, 0, none⟩), .pointer (some ⟨b2_, 0, none⟩)].toArray])]) (Sat w0 (keys ([] : List Ent)) A [.ro (BoxS b1_ 26 [s1_0_.v]), .ro (RdS R53 (SV.v s1_0_) a1_0), .ro (BoxS b2_ 54 [.func (.func 71) #[] [.pointer (some ⟨b1_, 0, none⟩), .pointer (some ⟨b2_, 0, none⟩)].toArray])]) (by kernel_rfl) ?_
    refine at_take2 0 rfl (by kernel_rfl) (by kernel_rfl) (by kernel_rfl) (fun _ h => h.picks [0, 0, 0] rfl) rfl rfl (p_rbs ty26 rfl (.ro 0 rfl) rfl) (fun _ h => h.picks [0, 0, 0] rfl) ?_
    refine at_take2 1 rfl (by kernel_rfl) (by kernel_rfl) (by kernel_rfl) (fun _ h => h.picks [0, 0, 0] rfl) rfl rfl (p_mv rfl) (fun _ h => h.picks [0, 0, 0] rfl) ?_
    refine at_take2 2 rfl (by kernel_rfl) (by kernel_rfl) (by kernel_rfl) (fun _ h => h.picks [0, 0, 0] rfl) rfl rfl (p_idx Tryz.underlying26 ty53 rfl rfl (.ro 1 rfl) he8) (fun _ h => h.picks [0, 0, 0] rfl) ?_
    refine at_take2 3 rfl (by kernel_rfl) (by kernel_rfl) (by kernel_rfl) (fun _ h => h.picks [0, 0, 0] rfl) rfl rfl (p_fae fl53_3 rfl (.ro 1 rfl) (getI_spec he8).2) (fun _ h => h.picks [0, 0, 0] rfl) ?_
    refine at_take2 4 rfl (by kernel_rfl) (by kernel_rfl) (by kernel_rfl) (fun _ h => h.picks [0, 0, 0] rfl) rfl rfl (p_lde (o := 3) ty3 rfl rfl (.ro 1 rfl) (getI_spec he8).2 rfl) (fun _ h => h.picks [0, 0, 0] rfl) ?_
    refine at_take2 5 rfl (by kernel_rfl) (by kernel_rfl) (by kernel_rfl) (fun _ h => h.picks [0, 0, 0] rfl) rfl rfl (p_eql rfl rfl) (fun _ h => h.picks [0, 0, 0] rfl) ?_
    refine at_take2 6 rfl (by kernel_rfl) (by kernel_rfl) (by kernel_rfl) (fun _ h => h.picks [0, 0, 0] rfl) rfl rfl (p_mv rfl) (fun _ h => h.picks [0, 0, 0] rfl) ?_
    refine at_case (i := 20) (e8.Kind == 7) rfl (fun hb => ?_) (fun hb => ?_)
    ·have hm := ifB_t hb hm
     obtain ⟨e9, he9, hm⟩ := bindS hm
     obtain ⟨e10, he10, hm⟩ := bindS hm
     refine at_take2g 7 rfl rfl rfl rfl (by kernel_rfl) (by kernel_rfl) (by kernel_rfl) (fun _ h => h.picks [0, 0, 0] rfl) rfl rfl (p_rbs ty26 rfl (.ro 0 rfl) rfl) (fun _ h => h.picks [0, 0, 0] rfl) ?_
     refine at_take2g 8 rfl rfl rfl rfl (by kernel_rfl) (by kernel_rfl) (by kernel_rfl) (fun _ h => h.picks [0, 0, 0] rfl) rfl rfl (p_mv rfl) (fun _ h => h.picks [0, 0, 0] rfl) ?_
     refine at_take2g 9 rfl rfl rfl rfl (by kernel_rfl) (by kernel_rfl) (by kernel_rfl) (fun _ h => h.picks [0, 0, 0] rfl) rfl rfl (p_idx Tryz.underlying26 ty53 rfl rfl (.ro 1 rfl) he9) (fun _ h => h.picks [0, 0, 0] rfl) ?_
     refine at_take2g 10 rfl rfl rfl rfl (by kernel_rfl) (by kernel_rfl) (by kernel_rfl) (fun _ h => h.picks [0, 0, 0] rfl) rfl rfl (p_fae fl53_8 rfl (.ro 1 rfl) (getI_spec he9).2) (fun _ h => h.picks [0, 0, 0] rfl) ?_
     refine at_take2g 11 rfl rfl rfl rfl (by kernel_rfl) (by kernel_rfl) (by kernel_rfl) (fun _ h => h.picks [0, 0, 0] rfl) rfl rfl (p_lde (o := 8) ty9 rfl rfl (.ro 1 rfl) (getI_spec he9).2 rfl) (fun _ h => h.picks [0, 0, 0] rfl) ?_
     refine at_take2g 12 rfl rfl rfl rfl (by kernel_rfl) (by kernel_rfl) (by kernel_rfl) (fun _ h => h.picks [0, 0, 0] rfl) rfl rfl (p_rbs ty26 rfl (.ro 0 rfl) rfl) (fun _ h => h.picks [0, 0, 0] rfl) ?_
     refine at_take2g 13 rfl rfl rfl rfl (by kernel_rfl) (by kernel_rfl) (by kernel_rfl) (fun _ h => h.picks [0, 0, 0] rfl) rfl rfl (p_mv rfl) (fun _ h => h.picks [0, 0, 0] rfl) ?_
     refine at_take2g 14 rfl rfl rfl rfl (by kernel_rfl) (by kernel_rfl) (by kernel_rfl) (fun _ h => h.picks [0, 0, 0] rfl) rfl rfl (p_idx Tryz.underlying26 ty53 rfl rfl (.ro 1 rfl) he10) (fun _ h => h.picks [0, 0, 0] rfl) ?_
     refine at_take2g 15 rfl rfl rfl rfl (by kernel_rfl) (by kernel_rfl) (by kernel_rfl) (fun _ h => h.picks [0, 0, 0] rfl) rfl rfl (p_fae fl53_0 rfl (.ro 1 rfl) (getI_spec he10).2) (fun _ h => h.picks [0, 0, 0] rfl) ?_
     refine at_take2g 16 rfl rfl rfl rfl (by kernel_rfl) (by kernel_rfl) (by kernel_rfl) (fun _ h => h.picks [0, 0, 0] rfl) rfl rfl (p_lde (o := 0) ty9 rfl rfl (.ro 1 rfl) (getI_spec he10).2 rfl) (fun _ h => h.picks [0, 0, 0] rfl) ?_
     refine at_take2g 17 rfl rfl rfl rfl (by kernel_rfl) (by kernel_rfl) (by kernel_rfl) (fun _ h => h.picks [0, 0, 0] rfl) rfl rfl (p_eqs rfl rfl) (fun _ h => h.picks [0, 0, 0] rfl) ?_
     refine at_take2 18 rfl (by kernel_rfl) (by kernel_rfl) (by kernel_rfl) (fun _ h => h.picks [0, 0, 0] rfl) rfl rfl (p_pkt rfl rfl) (fun _ h => h.picks [0, 0, 0] rfl) ?_
     refine at_take2 19 rfl (by kernel_rfl) (by kernel_rfl) (by kernel_rfl) (fun _ h => h.picks [0, 0, 0] rfl) rfl rfl (p_mv rfl) (fun _ h => h.picks [0, 0, 0] rfl) ?_
     refine at_case (i := 33) (e9.Of.toList == e10.Site.toList) rfl (fun hb => ?_) (fun hb => ?_)
     ·have hm := ifB_t hb hm
      obtain ⟨e11, he11, hm⟩ := bindS hm
      obtain ⟨e12, he12, hm⟩ := bindS hm
      refine at_take2g 20 rfl rfl rfl rfl (by kernel_rfl) (by kernel_rfl) (by kernel_rfl) (fun _ h => h.picks [0, 0, 0] rfl) rfl rfl (p_rbs ty26 rfl (.ro 0 rfl) rfl) (fun _ h => h.picks [0, 0, 0] rfl) ?_
      refine at_take2g 21 rfl rfl rfl rfl (by kernel_rfl) (by kernel_rfl) (by kernel_rfl) (fun _ h => h.picks [0, 0, 0] rfl) rfl rfl (p_mv rfl) (fun _ h => h.picks [0, 0, 0] rfl) ?_
      refine at_take2g 22 rfl rfl rfl rfl (by kernel_rfl) (by kernel_rfl) (by kernel_rfl) (fun _ h => h.picks [0, 0, 0] rfl) rfl rfl (p_idx Tryz.underlying26 ty53 rfl rfl (.ro 1 rfl) he11) (fun _ h => h.picks [0, 0, 0] rfl) ?_
      refine at_take2g 23 rfl rfl rfl rfl (by kernel_rfl) (by kernel_rfl) (by kernel_rfl) (fun _ h => h.picks [0, 0, 0] rfl) rfl rfl (p_fae fl53_9 rfl (.ro 1 rfl) (getI_spec he11).2) (fun _ h => h.picks [0, 0, 0] rfl) ?_
      refine at_take2g 24 rfl rfl rfl rfl (by kernel_rfl) (by kernel_rfl) (by kernel_rfl) (fun _ h => h.picks [0, 0, 0] rfl) rfl rfl (p_lde (o := 9) ty3 rfl rfl (.ro 1 rfl) (getI_spec he11).2 rfl) (fun _ h => h.picks [0, 0, 0] rfl) ?_
      refine at_take2g 25 rfl rfl rfl rfl (by kernel_rfl) (by kernel_rfl) (by kernel_rfl) (fun _ h => h.picks [0, 0, 0] rfl) rfl rfl (p_rbs ty26 rfl (.ro 0 rfl) rfl) (fun _ h => h.picks [0, 0, 0] rfl) ?_
      refine at_take2g 26 rfl rfl rfl rfl (by kernel_rfl) (by kernel_rfl) (by kernel_rfl) (fun _ h => h.picks [0, 0, 0] rfl) rfl rfl (p_mv rfl) (fun _ h => h.picks [0, 0, 0] rfl) ?_
      refine at_take2g 27 rfl rfl rfl rfl (by kernel_rfl) (by kernel_rfl) (by kernel_rfl) (fun _ h => h.picks [0, 0, 0] rfl) rfl rfl (p_idx Tryz.underlying26 ty53 rfl rfl (.ro 1 rfl) he12) (fun _ h => h.picks [0, 0, 0] rfl) ?_
      refine at_take2g 28 rfl rfl rfl rfl (by kernel_rfl) (by kernel_rfl) (by kernel_rfl) (fun _ h => h.picks [0, 0, 0] rfl) rfl rfl (p_fae fl53_1 rfl (.ro 1 rfl) (getI_spec he12).2) (fun _ h => h.picks [0, 0, 0] rfl) ?_
      refine at_take2g 29 rfl rfl rfl rfl (by kernel_rfl) (by kernel_rfl) (by kernel_rfl) (fun _ h => h.picks [0, 0, 0] rfl) rfl rfl (p_lde (o := 1) ty3 rfl rfl (.ro 1 rfl) (getI_spec he12).2 rfl) (fun _ h => h.picks [0, 0, 0] rfl) ?_
      refine at_take2g 30 rfl rfl rfl rfl (by kernel_rfl) (by kernel_rfl) (by kernel_rfl) (fun _ h => h.picks [0, 0, 0] rfl) rfl rfl (p_eql rfl rfl) (fun _ h => h.picks [0, 0, 0] rfl) ?_
      refine at_take2 31 rfl (by kernel_rfl) (by kernel_rfl) (by kernel_rfl) (fun _ h => h.picks [0, 0, 0] rfl) rfl rfl (p_pkt rfl rfl) (fun _ h => h.picks [0, 0, 0] rfl) ?_
      refine at_take2 32 rfl (by kernel_rfl) (by kernel_rfl) (by kernel_rfl) (fun _ h => h.picks [0, 0, 0] rfl) rfl rfl (p_mv rfl) (fun _ h => h.picks [0, 0, 0] rfl) ?_
      refine at_case (i := 46) (e11.Other == e12.No) rfl (fun hb => ?_) (fun hb => ?_)
      ·have hm := ifB_t hb hm
       obtain ⟨y13, hy13, hm⟩ := bindS hm
       refine at_take2g 33 rfl rfl rfl rfl (by kernel_rfl) (by kernel_rfl) (by kernel_rfl) (fun _ h => h.picks [0, 0, 0] rfl) rfl rfl (p_rbs ty54 rfl (.ro 2 rfl) rfl) (fun _ h => h.picks [0, 0, 0] rfl) ?_
       refine at_take2g 34 rfl rfl rfl rfl (by kernel_rfl) (by kernel_rfl) (by kernel_rfl) (fun _ h => h.picks [0, 0, 0] rfl) rfl rfl (p_mv rfl) (fun _ h => h.picks [0, 0, 0] rfl) ?_
       refine at_each (rs := [35]) (by kernel_rfl) (by decide) ?_
       refine (.cons rfl (fun I cnI => ?_) .nil)
       ·refine lg true rfl rfl rfl ?_
        refine r_call [] cf71 rfl rfl (ih_ u1 b1_ s1_0_ a1_0 b2_ hy13) rfl rfl (.cons (.ro 0 rfl) (.cons (.ro 1 rfl) (.cons (.ro 2 rfl) .nil))) (fun _ => rfl) rfl (fun _ => ?_)
        refine lj_nil ?_
        refine cnI _ _ (sof1 rfl rfl (fun _ h => h.picks [0, 0, 0] rfl)) ?_
        refine at_take2 36 rfl (by kernel_rfl) (by kernel_rfl) (by kernel_rfl) (fun _ h => h.picks [0, 0, 0] rfl) rfl rfl (p_pkt rfl rfl) (fun _ h => h.picks [0, 0, 0] rfl) ?_
        refine at_done (by kernel_rfl) ?_
        exact cnk7 _ _ y13 () (Option.some.inj hm).symm ⟨rfl, rfl, rfl, rfl, rfl, rfl, trivial⟩ (fun _ h => h.picks [0, 0, 0] rfl)
      ·have hm := ifB_f hb hm
       refine at_skip 33 rfl rfl rfl rfl (by kernel_rfl) (by kernel_rfl) (by kernel_rfl) rfl rfl ?_
       refine at_skip 34 rfl rfl rfl rfl (by kernel_rfl) (by kernel_rfl) (by kernel_rfl) rfl rfl ?_
       refine at_each (rs := [35]) (by kernel_rfl) (by decide) ?_
       refine (.cons rfl (fun I cnI => ?_) .nil)
       ·refine ls true rfl rfl rfl rfl ?_
        refine lj_nil ?_
        refine cnI _ _ (sof1 rfl rfl (fun _ h => h.picks [0, 0, 0] rfl)) ?_
        refine at_take2 36 rfl (by kernel_rfl) (by kernel_rfl) (by kernel_rfl) (fun _ h => h.picks [0, 0, 0] rfl) rfl rfl (p_pkf rfl rfl) (fun _ h => h.picks [0, 0, 0] rfl) ?_
        refine at_done (by kernel_rfl) ?_
        exact cnk7 _ _ false () (Option.some.inj hm).symm ⟨rfl, rfl, rfl, rfl, rfl, rfl, trivial⟩ (fun _ h => h.picks [0, 0, 0] rfl)
     ·have hm := ifB_f hb hm
      refine at_skip 20 rfl rfl rfl rfl (by kernel_rfl) (by kernel_rfl) (by kernel_rfl) rfl rfl ?_
      refine at_skip 21 rfl rfl rfl rfl (by kernel_rfl) (by kernel_rfl) (by kernel_rfl) rfl rfl ?_
      refine at_skip 22 rfl rfl rfl rfl (by kernel_rfl) (by kernel_rfl) (by kernel_rfl) rfl rfl ?_
      refine at_skip 23 rfl rfl rfl rfl (by kernel_rfl) (by kernel_rfl) (by kernel_rfl) rfl rfl ?_
      refine at_skip 24 rfl rfl rfl rfl (by kernel_rfl) (by kernel_rfl) (by kernel_rfl) rfl rfl ?_
      refine at_skip 25 rfl rfl rfl rfl (by kernel_rfl) (by kernel_rfl) (by kernel_rfl) rfl rfl ?_
      refine at_skip 26 rfl rfl rfl rfl (by kernel_rfl) (by kernel_rfl) (by kernel_rfl) rfl rfl ?_
      refine at_skip 27 rfl rfl rfl rfl (by kernel_rfl) (by kernel_rfl) (by kernel_rfl) rfl rfl ?_
      refine at_skip 28 rfl rfl rfl rfl (by kernel_rfl) (by kernel_rfl) (by kernel_rfl) rfl rfl ?_
      refine at_skip 29 rfl rfl rfl rfl (by kernel_rfl) (by kernel_rfl) (by kernel_rfl) rfl rfl ?_
      refine at_skip 30 rfl rfl rfl rfl (by kernel_rfl) (by kernel_rfl) (by kernel_rfl) rfl rfl ?_
      refine at_take2 31 rfl (by kernel_rfl) (by kernel_rfl) (by kernel_rfl) (fun _ h => h.picks [0, 0, 0] rfl) rfl rfl (p_pkf rfl rfl) (fun _ h => h.picks [0, 0, 0] rfl) ?_
      refine at_take2 32 rfl (by kernel_rfl) (by kernel_rfl) (by kernel_rfl) (fun _ h => h.picks [0, 0, 0] rfl) rfl rfl (p_mv rfl) (fun _ h => h.picks [0, 0, 0] rfl) ?_
      refine at_skip 33 rfl rfl rfl rfl (by kernel_rfl) (by kernel_rfl) (by kernel_rfl) rfl rfl ?_
      refine at_skip 34 rfl rfl rfl rfl (by kernel_rfl) (by kernel_rfl) (by kernel_rfl) rfl rfl ?_
      refine at_each (rs := [35]) (by kernel_rfl) (by decide) ?_
      refine (.cons rfl (fun I cnI => ?_) .nil)
      ·refine ls true rfl rfl rfl rfl ?_
       refine lj_nil ?_
       refine cnI _ _ (sof1 rfl rfl (fun _ h => h.picks [0, 0, 0] rfl)) ?_
       refine at_take2 36 rfl (by kernel_rfl) (by kernel_rfl) (by kernel_rfl) (fun _ h => h.picks [0, 0, 0] rfl) rfl rfl (p_pkf rfl rfl) (fun _ h => h.picks [0, 0, 0] rfl) ?_
       refine at_done (by kernel_rfl) ?_
       exact cnk7 _ _ false () (Option.some.inj hm).symm ⟨rfl, rfl, rfl, rfl, rfl, rfl, trivial⟩ (fun _ h => h.picks [0, 0, 0] rfl)
    ·have hm := ifB_f hb hm
     refine at_skip 7 rfl rfl rfl rfl (by kernel_rfl) (by kernel_rfl) (by kernel_rfl) rfl rfl ?_
     refine at_skip 8 rfl rfl rfl rfl (by kernel_rfl) (by kernel_rfl) (by kernel_rfl) rfl rfl ?_
     refine at_skip 9 rfl rfl rfl rfl (by kernel_rfl) (by kernel_rfl) (by kernel_rfl) rfl rfl ?_
     refine at_skip 10 rfl rfl rfl rfl (by kernel_rfl) (by kernel_rfl) (by kernel_rfl) rfl rfl ?_
     refine at_skip 11 rfl rfl rfl rfl (by kernel_rfl) (by kernel_rfl) (by kernel_rfl) rfl rfl ?_
     refine at_skip 12 rfl rfl rfl rfl (by kernel_rfl) (by kernel_rfl) (by kernel_rfl) rfl rfl ?_
     refine at_skip 13 rfl rfl rfl rfl (by kernel_rfl) (by kernel_rfl) (by kernel_rfl) rfl rfl ?_
     refine at_skip 14 rfl rfl rfl rfl (by kernel_rfl) (by kernel_rfl) (by kernel_rfl) rfl rfl ?_
     refine at_skip 15 rfl rfl rfl rfl (by kernel_rfl) (by kernel_rfl) (by kernel_rfl) rfl rfl ?_
     refine at_skip 16 rfl rfl rfl rfl (by kernel_rfl) (by kernel_rfl) (by kernel_rfl) rfl rfl ?_
     refine at_skip 17 rfl rfl rfl rfl (by kernel_rfl) (by kernel_rfl) (by kernel_rfl) rfl rfl ?_
     refine at_take2 18 rfl (by kernel_rfl) (by kernel_rfl) (by kernel_rfl) (fun _ h => h.picks [0, 0, 0] rfl) rfl rfl (p_pkf rfl rfl) (fun _ h => h.picks [0, 0, 0] rfl) ?_
     refine at_take2 19 rfl (by kernel_rfl) (by kernel_rfl) (by kernel_rfl) (fun _ h => h.picks [0, 0, 0] rfl) rfl rfl (p_mv rfl) (fun _ h => h.picks [0, 0, 0] rfl) ?_
     refine at_skip 20 rfl rfl rfl rfl (by kernel_rfl) (by kernel_rfl) (by kernel_rfl) rfl rfl ?_
     refine at_skip 21 rfl rfl rfl rfl (by kernel_rfl) (by kernel_rfl) (by kernel_rfl) rfl rfl ?_
     refine at_skip 22 rfl rfl rfl rfl (by kernel_rfl) (by kernel_rfl) (by kernel_rfl) rfl rfl ?_
     refine at_skip 23 rfl rfl rfl rfl (by kernel_rfl) (by kernel_rfl) (by kernel_rfl) rfl rfl ?_
     refine at_skip 24 rfl rfl rfl rfl (by kernel_rfl) (by kernel_rfl) (by kernel_rfl) rfl rfl ?_
     refine at_skip 25 rfl rfl rfl rfl (by kernel_rfl) (by kernel_rfl) (by kernel_rfl) rfl rfl ?_
     refine at_skip 26 rfl rfl rfl rfl (by kernel_rfl) (by kernel_rfl) (by kernel_rfl) rfl rfl ?_
     refine at_skip 27 rfl rfl rfl rfl (by kernel_rfl) (by kernel_rfl) (by kernel_rfl) rfl rfl ?_
     refine at_skip 28 rfl rfl rfl rfl (by kernel_rfl) (by kernel_rfl) (by kernel_rfl) rfl rfl ?_
     refine at_skip 29 rfl rfl rfl rfl (by kernel_rfl) (by kernel_rfl) (by kernel_rfl) rfl rfl ?_
     refine at_skip 30 rfl rfl rfl rfl (by kernel_rfl) (by kernel_rfl) (by kernel_rfl) rfl rfl ?_
     refine at_take2 31 rfl (by kernel_rfl) (by kernel_rfl) (by kernel_rfl) (fun _ h => h.picks [0, 0, 0] rfl) rfl rfl (p_pkf rfl rfl) (fun _ h => h.picks [0, 0, 0] rfl) ?_
     refine at_take2 32 rfl (by kernel_rfl) (by kernel_rfl) (by kernel_rfl) (fun _ h => h.picks [0, 0, 0] rfl) rfl rfl (p_mv rfl) (fun _ h => h.picks [0, 0, 0] rfl) ?_
     refine at_skip 33 rfl rfl rfl rfl (by kernel_rfl) (by kernel_rfl) (by kernel_rfl) rfl rfl ?_
     refine at_skip 34 rfl rfl rfl rfl (by kernel_rfl) (by kernel_rfl) (by kernel_rfl) rfl rfl ?_
     refine at_each (rs := [35]) (by kernel_rfl) (by decide) ?_
     refine (.cons rfl (fun I cnI => ?_) .nil)
     ·refine ls true rfl rfl rfl rfl ?_
      refine lj_nil ?_
      refine cnI _ _ (sof1 rfl rfl (fun _ h => h.picks [0, 0, 0] rfl)) ?_
      refine at_take2 36 rfl (by kernel_rfl) (by kernel_rfl) (by kernel_rfl) (fun _ h => h.picks [0, 0, 0] rfl) rfl rfl (p_pkf rfl rfl) (fun _ h => h.picks [0, 0, 0] rfl) ?_
      refine at_done (by kernel_rfl) ?_
      exact cnk7 _ _ false () (Option.some.inj hm).symm ⟨rfl, rfl, rfl, rfl, rfl, rfl, trivial⟩ (fun _ h => h.picks [0, 0, 0] rfl)
  ·have hm := ifB_f hb hm
   refine cj_exit rfl ?_
   exact (aftk3 u1 () (hBk3 _ (Option.some.inj hm).symm)).sub ⟨rfl, rfl, rfl, rfl, rfl, trivial⟩ (fun _ h => h.picks [0, 0, 0] rfl)
theorem ok_gleeref2_CountingOf_1__self (fu_ : Nat) : ∀ (a0 : Int) (b1_ : Nat) (s1_0_ : SV) (a1_0 : (List TAct)) (b2_ : Nat) {r : Bool} (hm : m_gleeref2_CountingOf_1__self fu_ a0 a1_0 = some r),
  Ctr Tryz.prog 71 [.int .i64 a0, .pointer (some ⟨b1_, 0, none⟩), .pointer (some ⟨b2_, 0, none⟩)].toArray ([] : List Ent) [BoxS b1_ 26 [s1_0_.v], RdS R53 (SV.v s1_0_) a1_0, BoxS b2_ 54 [.func (.func 71) #[] [.pointer (some ⟨b1_, 0, none⟩), .pointer (some ⟨b2_, 0, none⟩)].toArray]] (X := Unit) (fun _ => .bool r) (fun _ => []) := by
 induction fu_ with
 | zero => intro a0 b1_ s1_0_ a1_0 b2_ r hm; exact absurd hm (by simp [m_gleeref2_CountingOf_1__self])
 | succ n ih => exact ok_gleeref2_CountingOf_1__self_b (m_gleeref2_CountingOf_1__self n) ih
theorem ok_gleeref2_CountingOf (s0_ : SV) (a0 : (List TAct)) (a1 : Int) {r : (List Int)} (hm : m_gleeref2_CountingOf a0 a1 = some r) :
  Ctr Tryz.prog 53 [s0_.v, .int .i64 a1].toArray ([] : List Ent) [RdS R53 (SV.v s0_) a0] (X := SV) (fun s => s.v) (fun s => [.row R3 (SV.v s) r]) := by
 unfold m_gleeref2_CountingOf at hm
 refine ctr_mk (vs := [(0, s0_.v), (1, .int .i64 a1)]) Tryz.func53 rfl Tryz.ntmps53 rfl ⟨rfl, rfl, trivial⟩ (fun w0 A => ?_)
 refine cj_seq ?_
 refine cj_reg ?_
 refine lp rfl (p_as rfl) ?_
 refine lj_seq ?_
 refine cj_seq ?_
 refine cj_reg ?_
 refine r_al ty26 rfl (fun b1 => ?_)
 refine lj_seq ?_
 refine cj_seq ?_
 refine cj_seq ?_
 refine cj_reg ?_
 refine lp rfl (p_mv rfl) ?_
 refine lp rfl (p_len Tryz.underlying26 rfl (.ro 1 rfl)) ?_
 refine lp rfl (p_mv rfl) ?_
 refine lj_seq ?_
 refine cj_nil R53 ?_
 obtain ⟨f9, hf9, hm⟩ := bindS hm
 refine cj_range (γ := SV) (m := (a0.length : Int)) hf9 nilS (fun u6 g7 => [(1, .int .i64 a1), (4, .slice none 0 0), (5, .pointer (some ⟨b1, 0, none⟩)), (11, s0_.v)]) (fun u6 g7 => Sat w0 (keys ([] : List Ent)) A [.box b1 26 [g7.v], .ro (RdS R53 (SV.v s0_) a0), .row R53 (SV.v g7) u6]) ⟨rfl, rfl, rfl, rfl, rfl, rfl, trivial⟩ (fun _ h => h.picks [1, 1, 0] rfl) (nat_lt _) (fun _ h => (FactAt.get (F := RdS R53 (SV.v s0_) a0) (.ro 2 rfl) h).1) (fun _ _ => ⟨rfl, rfl, rfl, rfl⟩) ⟨rfl, rfl, rfl, rfl, rfl⟩ rfl rfl rfl (fun u6 g7 e => ?_) (fun aftk8 i2 x3 u6 g7 k8 hx4 hs J hJk8 hBk8 hX I cnk8 => ?_)
 ·have hm := Flow.fin_b e hm
  refine nj_seq ?_
  refine cj_seq ?_
  refine cj_reg ?_
  refine r_al ty54 rfl (fun b16 => ?_)
  refine lj_seq ?_
  refine cj_seq ?_
  refine cj_reg ?_
  refine lp rfl (p_fn (cv := [.pointer (some ⟨b1, 0, none⟩), .pointer (some ⟨b16, 0, none⟩)]) rfl) ?_
  refine r_sb (vs := [.func (.func 71) #[] [.pointer (some ⟨b1, 0, none⟩), .pointer (some ⟨b16, 0, none⟩)].toArray]) (j := 0) ty54 rfl rfl rfl rfl rfl rfl rfl ?_
  refine lj_seq ?_
  refine cj_seq ?_
  refine cj_reg ?_
  refine lp rfl (p_as rfl) ?_
  refine lj_seq ?_
  refine cj_seq ?_
  refine cj_seq ?_
  refine cj_reg ?_
  refine lp rfl (p_lbs ty26 rfl (j := 1) rfl rfl) ?_
  refine lp rfl (p_len Tryz.underlying26 rfl (.row 3 rfl)) ?_
  refine lp rfl (p_mv rfl) ?_
  refine lj_seq ?_
  refine cj_nil R3 ?_
  obtain ⟨f24, hf24, hm⟩ := bindS hm
  refine cj_range (γ := SV) (m := (u6.length : Int)) hf24 nilS (fun u21 g22 => [(4, .slice none 0 0), (8, .pointer (some ⟨b16, 0, none⟩)), (9, g22.v)]) (fun u21 g22 => Sat w0 (keys ([] : List Ent)) A [.box b16 54 [.func (.func 71) #[] [.pointer (some ⟨b1, 0, none⟩), .pointer (some ⟨b16, 0, none⟩)].toArray], .box b1 26 [g7.v], .row R53 (SV.v g7) u6, .row R3 (SV.v g22) u21]) ⟨rfl, rfl, rfl, rfl, rfl, trivial⟩ (fun _ h => h.picks [1, 1, 2, 0] rfl) (nat_lt _) (fun _ h => (FactAt.get (F := RdS R53 (SV.v g7) u6) (.row 4 rfl) h).1) (fun _ _ => ⟨rfl, rfl, rfl, rfl⟩) ⟨rfl, rfl, rfl, rfl, rfl⟩ rfl rfl rfl (fun u21 g22 e => ?_) (fun aftk23 i17 x18 u21 g22 k23 hx19 hs J hJk23 hBk23 hX I cnk23 => ?_)
  ·have hm := Flow.fin_b e hm
   refine nj_seq ?_
   refine cj_seq ?_
   refine cj_reg ?_
   refine lp rfl (p_mv rfl) ?_
   refine lp rfl (p_as rfl) ?_
   refine lj_seq ?_
   obtain rfl := Option.some.inj hm
   exact cj_rt g22 [3] Tryz.results53 (.tmp rfl .nil) rfl rfl
  ·have hRk23 : ∀ t, k23 = .ret t → some t = some r := fun t e => by rw [hX t e] at hm; exact hm
   have hm := hs
   refine cj_seq ?_
   refine cj_reg ?_
   refine lp rfl (p_mv rfl) ?_
   refine lp rfl (p_as rfl) ?_
   refine lj_seq ?_
   refine cj_seq ?_
   refine cj_reg ?_
   refine lp rfl (p_lbs ty54 rfl (j := 0) rfl rfl) ?_
   refine lp rfl (p_mv rfl) ?_
   obtain ⟨y26, hy26, hm⟩ := bindS hm
   refine r_call [] cf71 rfl rfl (ok_gleeref2_CountingOf_1__self FUEL (i17 : Int) b1 g7 u6 b16 hy26) rfl rfl (.cons (.imp (.box 1 rfl) (fun _ h => h)) (.cons (.row 2 rfl) (.cons (.imp (.box 0 rfl) (fun _ h => h)) .nil))) (fun _ => rfl) rfl (fun _ => ?_)
   refine lj_seq ?_
   refine cj_if (b := y26) rfl (fun hb => ?_) (fun hb => ?_)
   ·have hm := ifB_t hb hm
    refine cj_reg ?_
    refine lp rfl (p_mv rfl) ?_
    refine lp rfl (p_mv rfl) ?_
    refine r_bs R3 [(i17 : Int)] rfl rfl rfl (fun _ => by kernel_rfl) rfl (fun s27 => ?_)
    obtain ⟨q28, hq28, hm⟩ := bindS hm
    refine r_app (k := 4) Tryz.underlying22 ty3 rfl rfl rfl rfl (.row 0 rfl) hq28 rfl (fun s29 => ?_)
    refine lp rfl (p_as rfl) ?_
    refine lj_nil ?_
    refine nj_blk ?_
    exact cnk23 _ _ q28 s29 (hJk23 _ (Option.some.inj hm).symm) ⟨rfl, rfl, rfl, rfl, rfl, trivial⟩ (fun _ h => h.picks [1, 1, 1, 1] rfl)
   ·have hm := ifB_f hb hm
    refine cj_skip ?_
    refine nj_blk ?_
    exact cnk23 _ _ u21 g22 (hJk23 _ (Option.some.inj hm).symm) ⟨rfl, rfl, rfl, rfl, rfl, trivial⟩ (fun _ h => h.picks [0, 0, 0, 0] rfl)
 ·have hRk8 : ∀ t, k8 = .ret t → some t = some r := fun t e => by rw [hX t e] at hm; exact hm
  have hm := hs
  refine cj_seq ?_
  refine cj_reg ?_
  refine lp rfl (p_idx Tryz.underlying26 ty53 rfl rfl (.ro 1 rfl) (getI_nat.trans hx4)) ?_
  refine lp rfl (p_lea ty53 rfl (.ro 1 rfl) hx4) ?_
  refine r_al ty53 rfl (fun b11 => ?_)
  refine r_sb (vs := [.string x3.Site, .int .i64 x3.No, .int .i64 x3.At, .int .i64 x3.Kind, .string x3.Who, .string x3.Motion, .int .i64 x3.Cents, .bool x3.Yes, .string x3.Of, .int .i64 x3.Other]) (j := 0) ty53 rfl rfl rfl rfl rfl rfl rfl ?_
  refine lj_seq ?_
  refine cj_seq ?_
  refine cj_reg ?_
  refine lp rfl (p_fab fl53_2 rfl) ?_
  refine lp rfl (p_lbs ty3 rfl (j := 0) rfl rfl) ?_
  refine lp rfl (p_mv rfl) ?_
  refine lp rfl (p_leq rfl rfl) ?_
  refine lj_seq ?_
  refine cj_if (b := decide (x3.At ≤ a1)) rfl (fun hb => ?_) (fun hb => ?_)
  ·have hm := ifB_t hb hm
   refine cj_reg ?_
   refine lp rfl (p_lbs ty26 rfl (j := 1) rfl rfl) ?_
   refine lp rfl (p_lbw ty53 rfl (j := 0) rfl rfl) ?_
   refine r_bs R53 [x3] rfl rfl rfl (fun _ => by kernel_rfl) rfl (fun s12 => ?_)
   obtain ⟨q13, hq13, hm⟩ := bindS hm
   refine r_app (k := 4) Tryz.underlying26 ty53 rfl rfl rfl rfl (.row 0 rfl) hq13 rfl (fun s14 => ?_)
   refine r_sb (vs := [s14.v]) (j := 2) ty26 rfl rfl rfl rfl rfl rfl rfl ?_
   refine lj_nil ?_
   refine nj_blk ?_
   exact cnk8 _ _ q13 s14 (hJk8 _ (Option.some.inj hm).symm) ⟨rfl, rfl, rfl, rfl, rfl, rfl, trivial⟩ (fun _ h => h.picks [2, 2, 2] rfl)
  ·have hm := ifB_f hb hm
   refine cj_skip ?_
   refine nj_blk ?_
   exact cnk8 _ _ u6 g7 (hJk8 _ (Option.some.inj hm).symm) ⟨rfl, rfl, rfl, rfl, rfl, rfl, trivial⟩ (fun _ h => h.picks [1, 1, 1] rfl)
theorem ok_gleeref2_hall_member (b0_ : Nat) (b0_0_ : Nat) (Z0_0_ : List (ByteArray × SV)) (es0_0_ : Array MapEntry) (cl0_0_ : Nat) (a0_0 : (List (ByteArray × (List Tgleeref2_stay)))) (b0_1_ : Nat) (es0_1_ : Array MapEntry) (cl0_1_ : Nat) (a0_1 : (List (ByteArray × Int))) (b0_2_ : Nat) (Z0_2_ : List (ByteArray × Option (Nat × SV × Nat × Array MapEntry × Nat))) (es0_2_ : Array MapEntry) (cl0_2_ : Nat) (a0_2 : (List (ByteArray × (Bool × (List ByteArray) × (List (ByteArray × Bool)))))) (s0_3_ : SV) (a0_3 : (List Int)) (a1 : ByteArray) {r : Bool} (hm : m_gleeref2_hall_member a0_0 a0_1 a0_2 a0_3 a1 = some r) :
  Ctr Tryz.prog 36 [.pointer (some ⟨b0_, 0, none⟩), .string a1].toArray [.box b0_ 78 [.map (some b0_0_), .map (some b0_1_), .map (some b0_2_), s0_3_.v]] [FamAt kv9 SV.v (rowE R83) b0_0_ a0_0 Z0_0_ none es0_0_ cl0_0_, MapAt kv9 b0_1_ (mpV vv3 a0_1) es0_1_ cl0_1_, FamAt kv9 (vvP Fh106) (entsP Fe106) b0_2_ a0_2 Z0_2_ none es0_2_ cl0_2_, RdS R3 (SV.v s0_3_) a0_3] (X := Unit) (fun _ => .bool r) (fun _ => [.box b0_ 78 [.map (some b0_0_), .map (some b0_1_), .map (some b0_2_), s0_3_.v]]) := by
 unfold m_gleeref2_hall_member at hm
 refine ctr_mk (vs := [(0, .pointer (some ⟨b0_, 0, none⟩)), (1, .string a1)]) Tryz.func36 rfl Tryz.ntmps36 rfl ⟨rfl, rfl, trivial⟩ (fun w0 A => ?_)
 refine cj_seq ?_
 refine cj_reg ?_
 refine lp rfl (p_as rfl) ?_
 refine lj_seq ?_
 refine cj_seq ?_
 refine cj_reg ?_
 refine lp rfl (p_mv rfl) ?_
 refine lp rfl (p_nc rfl) ?_
 refine lp rfl (p_fab fl78_0 rfl) ?_
 refine lp rfl (p_lbs ty75 rfl (j := 0) rfl rfl) ?_
 refine lp rfl (p_mv rfl) ?_
 refine lp rfl (p_lkm (vv := SV.v) (k := a1) (z := nilS) Tryz.underlying75 (keyF9) (fun _ => by kernel_rfl) (.imp (.ro 1 rfl) (fun _ h => h.map)) rfl rfl) ?_
 refine lp rfl (p_as rfl) ?_
 refine lj_seq ?_
 refine cj_seq ?_
 refine cj_reg ?_
 refine lp rfl (p_mv rfl) ?_
 refine lp rfl (p_len Tryz.underlying81 rfl (.imp (.ro 1 rfl) (fun _ h => h.look a1))) ?_
 refine lp rfl (p_gtr rfl rfl) ?_
 refine lp rfl (p_mv rfl) ?_
 refine lcase (i := 15) (decide ((((lkM a0_0 a1).getD []).length : Int) > 0)) rfl (fun hb => ?_) (fun hb => ?_)
 ·have hm := ifB_t hb hm
  refine lg true rfl rfl rfl ?_
  refine lp rfl (p_mv rfl) ?_
  refine lg true rfl rfl rfl ?_
  refine lp rfl (p_mv rfl) ?_
  refine lg true rfl rfl rfl ?_
  refine lp rfl (p_len Tryz.underlying81 rfl (.imp (.ro 1 rfl) (fun _ h => h.look a1))) ?_
  refine lg true rfl rfl rfl ?_
  refine lp rfl (p_sub rfl rfl) ?_
  refine lg true rfl rfl rfl ?_
  obtain ⟨e1, he1, hm⟩ := bindS hm
  refine lp rfl (p_idx Tryz.underlying81 ty83 rfl rfl (.imp (.ro 1 rfl) (fun _ h => h.look a1)) he1) ?_
  refine lg true rfl rfl rfl ?_
  refine lp rfl (p_fae fl83_1 rfl (.imp (.ro 1 rfl) (fun _ h => h.look a1)) (getI_spec he1).2) ?_
  refine lg true rfl rfl rfl ?_
  refine lp rfl (p_lde (o := 1) ty3 rfl rfl (.imp (.ro 1 rfl) (fun _ h => h.look a1)) (getI_spec he1).2 rfl) ?_
  refine lg true rfl rfl rfl ?_
  refine lp rfl (p_lss rfl rfl) ?_
  refine lp rfl (p_pkt rfl rfl) ?_
  refine lp rfl (p_as rfl) ?_
  refine lj_seq ?_
  obtain rfl := Option.some.inj hm
  exact cj_rt () [0] Tryz.results36 (.tmp rfl .nil) rfl rfl
 ·have hm := ifB_f hb hm
  refine ls true rfl rfl rfl rfl ?_
  refine ls true rfl rfl rfl rfl ?_
  refine ls true rfl rfl rfl rfl ?_
  refine ls true rfl rfl rfl rfl ?_
  refine ls true rfl rfl rfl rfl ?_
  refine ls true rfl rfl rfl rfl ?_
  refine ls true rfl rfl rfl rfl ?_
  refine ls true rfl rfl rfl rfl ?_
  refine lp rfl (p_pkf rfl rfl) ?_
  refine lp rfl (p_as rfl) ?_
  refine lj_seq ?_
  obtain rfl := Option.some.inj hm
  exact cj_rt () [0] Tryz.results36 (.tmp rfl .nil) rfl rfl
theorem ok_gleeref2_hall_members (b0_ : Nat) (b0_0_ : Nat) (Z0_0_ : List (ByteArray × SV)) (es0_0_ : Array MapEntry) (cl0_0_ : Nat) (a0_0 : (List (ByteArray × (List Tgleeref2_stay)))) (b0_1_ : Nat) (es0_1_ : Array MapEntry) (cl0_1_ : Nat) (a0_1 : (List (ByteArray × Int))) (b0_2_ : Nat) (Z0_2_ : List (ByteArray × Option (Nat × SV × Nat × Array MapEntry × Nat))) (es0_2_ : Array MapEntry) (cl0_2_ : Nat) (a0_2 : (List (ByteArray × (Bool × (List ByteArray) × (List (ByteArray × Bool)))))) (s0_3_ : SV) (a0_3 : (List Int)) {r : (List ByteArray)} (hm : m_gleeref2_hall_members a0_0 a0_1 a0_2 a0_3 = some r) :
  Ctr Tryz.prog 35 [.pointer (some ⟨b0_, 0, none⟩)].toArray [.box b0_ 78 [.map (some b0_0_), .map (some b0_1_), .map (some b0_2_), s0_3_.v]] [FamAt kv9 SV.v (rowE R83) b0_0_ a0_0 Z0_0_ none es0_0_ cl0_0_, MapAt kv9 b0_1_ (mpV vv3 a0_1) es0_1_ cl0_1_, FamAt kv9 (vvP Fh106) (entsP Fe106) b0_2_ a0_2 Z0_2_ none es0_2_ cl0_2_, RdS R3 (SV.v s0_3_) a0_3] (X := SV) (fun s => s.v) (fun s => [.row R9 (SV.v s) r, .box b0_ 78 [.map (some b0_0_), .map (some b0_1_), .map (some b0_2_), s0_3_.v]]) := by
 unfold m_gleeref2_hall_members at hm
 refine ctr_mk (vs := [(0, .pointer (some ⟨b0_, 0, none⟩))]) Tryz.func35 rfl Tryz.ntmps35 rfl ⟨rfl, trivial⟩ (fun w0 A => ?_)
 refine cj_seq ?_
 refine cj_reg ?_
 refine lp rfl (p_as rfl) ?_
 refine lj_seq ?_
 refine cj_seq ?_
 refine cj_reg ?_
 refine lp rfl (p_as rfl) ?_
 refine lj_seq ?_
 refine cj_seq ?_
 refine cj_seq ?_
 refine cj_reg ?_
 refine lp rfl (p_mv rfl) ?_
 refine lp rfl (p_nc rfl) ?_
 refine lp rfl (p_fab fl78_0 rfl) ?_
 refine lp rfl (p_lbs ty75 rfl (j := 0) rfl rfl) ?_
 refine r_rng (vv := SV.v) Tryz.underlying75 (.imp (.ro 1 rfl) (fun _ h => h.map)) rfl rfl (fun b1 hrb2 => ?_)
 refine lj_seq ?_
 refine cj_pure (F := FamAt kv9 SV.v (rowE R83) b0_0_ a0_0 Z0_0_ none es0_0_ cl0_0_) (.ro 2 rfl) (fun _ h => h.kys) (fun hky8 => ?_)
 refine cj_fact (F := fun _ => KeptK (a0_0.map Prod.fst) es0_0_ cl0_0_ Z0_0_ es0_0_ cl0_0_) (.tru (KeptK.refl _ hky8)) ?_
 refine cj_nil R9 ?_
 have hsq := anyOrd_spec hm
 refine cj_frange (γ := SV) (vv := SV.v) (fun u11 g12 => Z0_0_) (fun u11 g12 => es0_0_) (fun u11 g12 => cl0_0_) (fun L hL => hsq L hL) hrb2 nilS (fun u11 g12 => [(0, .pointer (some ⟨b0_, 0, none⟩)), (2, .slice none 0 0), (3, g12.v)]) (fun u11 g12 => [.ro (fun _ => KeptK (a0_0.map Prod.fst) es0_0_ cl0_0_ Z0_0_ es0_0_ cl0_0_), .box b0_ 78 [.map (some b0_0_), .map (some b0_1_), .map (some b0_2_), s0_3_.v], .ro (FamAt kv9 SV.v (rowE R83) b0_0_ a0_0 Z0_0_ none es0_0_ cl0_0_), .ro (MapAt kv9 b0_1_ (mpV vv3 a0_1) es0_1_ cl0_1_), .ro (FamAt kv9 (vvP Fh106) (entsP Fe106) b0_2_ a0_2 Z0_2_ none es0_2_ cl0_2_), .ro (RdS R3 (SV.v s0_3_) a0_3), .row R9 (SV.v g12) u11]) ⟨rfl, rfl, rfl, rfl, trivial⟩ (fun _ h => h.picks [2, 1, 1, 1, 1, 1, 1, 0] rfl) (fun _ _ => .and (.imp (.ro 2 rfl) (fun _ h => h.map)) (.ro 0 rfl)) (fun _ _ => ⟨rfl, rfl, rfl⟩) ⟨rfl, rfl, rfl⟩ rfl rfl (fun u11 g12 e => ?_) (fun aftk13 i3 x4 u11 g12 idx7 ix6 k13 hx5 hs J hJk13 hBk13 hX I cnk13 => ?_)
 ·have hm := Flow.fin_b (f := .brk u11) rfl e
  refine NJ.sat (fun _ h => h.picks [1, 1, 1, 1, 1, 1] rfl) ?_
  refine nj_seq ?_
  refine cj_seq ?_
  refine cj_reg ?_
  refine lp rfl (p_mv rfl) ?_
  obtain ⟨y22, hy22, hm⟩ := bindS hm
  refine r_call [5] cf55 rfl rfl (ok_slices_Sort_string_string g12 u11 hy22) rfl rfl .nil (fun _ => rfl) rfl (fun _ => ?_)
  refine lj_seq ?_
  refine cj_seq ?_
  refine cj_reg ?_
  refine lp rfl (p_mv rfl) ?_
  refine lp rfl (p_as rfl) ?_
  refine lj_seq ?_
  obtain rfl := Option.some.inj hm
  exact cj_rt g12 [0, 0] Tryz.results35 (.tmp rfl .nil) rfl rfl
 ·have hRk13 : ∀ t, k13 = .ret t → some t = some r := fun t e => hX t e
  have hm := hs
  refine cj_pure (F := fun _ => KeptK (a0_0.map Prod.fst) es0_0_ cl0_0_ Z0_0_ es0_0_ cl0_0_) (.ro 1 rfl) (fun _ h => h) (fun hkp16 => ?_)
  refine cj_seq ?_
  refine cj_reg ?_
  refine lp rfl (p_entF (n := 0) (k := x4) (z := nilS) (.ro 3 rfl) hkp16 rfl hx5 rfl) ?_
  refine lp rfl (p_ext rfl rfl) ?_
  refine lp rfl (p_as rfl) ?_
  refine lj_seq ?_
  refine cj_seq ?_
  refine cj_reg ?_
  refine lp rfl (p_mv rfl) ?_
  refine lp rfl (p_mv rfl) ?_
  obtain ⟨y17, hy17, hm⟩ := bindS hm
  refine r_call [2] cf36 rfl rfl (ok_gleeref2_hall_member b0_ b0_0_ Z0_0_ es0_0_ cl0_0_ a0_0 b0_1_ es0_1_ cl0_1_ a0_1 b0_2_ Z0_2_ es0_2_ cl0_2_ a0_2 s0_3_ a0_3 x4 hy17) rfl rfl (.cons (.ro 2 rfl) (.cons (.ro 3 rfl) (.cons (.ro 4 rfl) (.cons (.ro 5 rfl) .nil)))) (fun _ => rfl) rfl (fun _ => ?_)
  refine lj_seq ?_
  refine cj_if (b := y17) rfl (fun hb => ?_) (fun hb => ?_)
  ·have hm := ifB_t hb hm
   refine cj_reg ?_
   refine lp rfl (p_mv rfl) ?_
   refine lp rfl (p_mv rfl) ?_
   refine r_bs R9 [x4] rfl rfl rfl (fun _ => by kernel_rfl) rfl (fun s18 => ?_)
   obtain ⟨q19, hq19, hm⟩ := bindS hm
   refine r_app (k := 8) Tryz.underlying34 ty9 rfl rfl rfl rfl (.row 0 rfl) hq19 rfl (fun s20 => ?_)
   refine lp rfl (p_as rfl) ?_
   refine lj_nil ?_
   refine nj_blk ?_
   exact cnk13 _ _ q19 s20 (hJk13 _ (Option.some.inj hm).symm) ⟨rfl, rfl, rfl, rfl, trivial⟩ (fun _ h => h.picks [2, 2, 1, 1, 1, 1, 1, 1] rfl)
  ·have hm := ifB_f hb hm
   refine cj_skip ?_
   refine nj_blk ?_
   exact cnk13 _ _ u11 g12 (hJk13 _ (Option.some.inj hm).symm) ⟨rfl, rfl, rfl, rfl, trivial⟩ (fun _ h => h.picks [1, 1, 0, 0, 0, 0, 0, 0] rfl)
theorem ok_gleeref2_hall_follow (b0_ : Nat) (b0_0_ : Nat) (Z0_0_ : List (ByteArray × SV)) (es0_0_ : Array MapEntry) (cl0_0_ : Nat) (a0_0 : (List (ByteArray × (List Tgleeref2_stay)))) (b0_1_ : Nat) (es0_1_ : Array MapEntry) (cl0_1_ : Nat) (a0_1 : (List (ByteArray × Int))) (b0_2_ : Nat) (Z0_2_ : List (ByteArray × Option (Nat × SV × Nat × Array MapEntry × Nat))) (es0_2_ : Array MapEntry) (cl0_2_ : Nat) (a0_2 : (List (ByteArray × (Bool × (List ByteArray) × (List (ByteArray × Bool)))))) (s0_3_ : SV) (a0_3 : (List Int)) (a1 : TAct) {r : Bool × (List (ByteArray × (List Tgleeref2_stay))) × (List (ByteArray × Int)) × (List (ByteArray × (Bool × (List ByteArray) × (List (ByteArray × Bool)))))} (hm : m_gleeref2_hall_follow a0_0 a0_1 a0_2 a0_3 a1 = some r) :
  Ctr Tryz.prog 54 [.pointer (some ⟨b0_, 0, none⟩), .agg (R53.enc a1).toArray].toArray [.box b0_ 78 [.map (some b0_0_), .map (some b0_1_), .map (some b0_2_), s0_3_.v], .obj (famO kv9 SV.v (rowE R83) b0_0_ a0_0 Z0_0_ none es0_0_ cl0_0_), .obj (mapO kv9 b0_1_ (mpV vv3 a0_1) es0_1_ cl0_1_), .obj (famO kv9 (vvP Fh106) (entsP Fe106) b0_2_ a0_2 Z0_2_ none es0_2_ cl0_2_)] [RdS R3 (SV.v s0_3_) a0_3] (X := (List (ByteArray × SV) × Array MapEntry × Nat × Array MapEntry × Nat × List (ByteArray × Option (Nat × SV × Nat × Array MapEntry × Nat)) × Array MapEntry × Nat)) (fun s => .bool r.1) (fun s => [.box b0_ 78 [.map (some b0_0_), .map (some b0_1_), .map (some b0_2_), s0_3_.v], .obj (famO kv9 SV.v (rowE R83) b0_0_ r.2.1 s.1 none s.2.1 s.2.2.1), .obj (mapO kv9 b0_1_ (mpV vv3 r.2.2.1) s.2.2.2.1 s.2.2.2.2.1), .obj (famO kv9 (vvP Fh106) (entsP Fe106) b0_2_ r.2.2.2 s.2.2.2.2.2.1 none s.2.2.2.2.2.2.1 s.2.2.2.2.2.2.2)]) := by
 unfold m_gleeref2_hall_follow at hm
 refine ctr_mk (vs := [(0, .pointer (some ⟨b0_, 0, none⟩)), (1, .agg (R53.enc a1).toArray)]) Tryz.func54 rfl Tryz.ntmps54 rfl ⟨rfl, rfl, trivial⟩ (fun w0 A => ?_)
 refine cj_seq ?_
 refine cj_reg ?_
 refine r_bx (cs := [.string a1.Site, .int .i64 a1.No, .int .i64 a1.At, .int .i64 a1.Kind, .string a1.Who, .string a1.Motion, .int .i64 a1.Cents, .bool a1.Yes, .string a1.Of, .int .i64 a1.Other]) rfl rfl rfl (fun b1 => ?_)
 refine lp rfl (p_as rfl) ?_
 refine lj_seq ?_
 refine cj_seq ?_
 refine cj_takeP 4 rfl a1.Motion fro106 (fun hx2 hz3 => ?_) (fun t5 q6 hx2 hq4 => ?_)
 ·have hm := optB_n hx2 hm
  refine cj_quiet (by kernel_rfl) (by kernel_rfl) ?_
  refine q_p rfl (p_mv rfl) ?_
  refine q_p rfl (p_nc rfl) ?_
  refine q_p rfl (p_fab fl78_2 rfl) ?_
  refine q_p rfl (p_lbs ty76 rfl (j := 1) rfl rfl) ?_
  refine q_p rfl (p_fab fl53_5 rfl) ?_
  refine q_p rfl (p_lbs ty9 rfl (j := 0) rfl rfl) ?_
  refine q_p rfl (p_lkPN (k := a1.Motion) Tryz.underlying76 (keyF9) (fun _ => by kernel_rfl) (.fam 4 rfl) hz3 rfl rfl) ?_
  refine q_p rfl (p_as rfl) ?_
  refine q_nil ?_
  refine nj_seq ?_
  refine cj_seq ?_
  refine cj_seq ?_
  refine cj_reg ?_
  refine lp rfl (p_fab fl53_3 rfl) ?_
  refine lp rfl (p_lbs ty3 rfl (j := 0) rfl rfl) ?_
  refine lj_seq ?_
  refine cj_blk ?_
  refine cj_seq ?_
  refine cj_reg ?_
  refine lp rfl (p_eql rfl rfl) ?_
  refine lp rfl (p_as rfl) ?_
  refine lj_seq ?_
  refine cj_if (b := a1.Kind == 1) rfl (fun hb => ?_) (fun hb => ?_)
  ·have hm := ifB_t hb hm
   refine cj_seq ?_
   refine cj_seq ?_
   refine cj_reg ?_
   refine lp rfl (p_mv rfl) ?_
   refine lp rfl (p_fab fl53_4 rfl) ?_
   refine lp rfl (p_lbs ty9 rfl (j := 0) rfl rfl) ?_
   obtain ⟨y7, hy7, hm⟩ := bindS hm
   refine r_call [1] cf36 rfl rfl (ok_gleeref2_hall_member b0_ b0_0_ Z0_0_ es0_0_ cl0_0_ a0_0 b0_1_ es0_1_ cl0_1_ a0_1 b0_2_ Z0_2_ es0_2_ cl0_2_ a0_2 s0_3_ a0_3 a1.Who hy7) rfl rfl (.cons (.fam 1 rfl) (.cons (.map 2 rfl) (.cons (.fam 3 rfl) (.cons (.ro 4 rfl) .nil)))) (fun _ => rfl) rfl (fun _ => ?_)
   refine lj_seq ?_
   refine cj_if (b := y7) rfl (fun hb => ?_) (fun hb => ?_)
   ·have hm := ifB_t hb hm
    refine cj_seq ?_
    refine cj_reg ?_
    refine lp rfl (p_as rfl) ?_
    refine lj_seq ?_
    obtain rfl := Option.some.inj hm
    exact cj_rt (Z0_0_, es0_0_, cl0_0_, es0_1_, cl0_1_, Z0_2_, es0_2_, cl0_2_) [0, 1, 1, 1] Tryz.results54 (.tmp rfl .nil) rfl rfl
   ·have hm := ifB_f hb hm
    refine cj_skip ?_
    refine nj_seq ?_
    obtain ⟨q10, hq10, hm⟩ := bindS hm
    refine cj_anyT [0, 1, 2, 3, 4, 5, 6, 7, 8, 9, 10, 11, 12, 13, 14, 15, 16, 17] [19, 20] (Sat w0 (keys [.box b0_ 78 [.map (some b0_0_), .map (some b0_1_), .map (some b0_2_), s0_3_.v], .obj (famO kv9 SV.v (rowE R83) b0_0_ a0_0 Z0_0_ none es0_0_ cl0_0_), .obj (mapO kv9 b0_1_ (mpV vv3 a0_1) es0_1_ cl0_1_), .obj (famO kv9 (vvP Fh106) (entsP Fe106) b0_2_ a0_2 Z0_2_ none es0_2_ cl0_2_)]) A [.box b0_ 78 [.map (some b0_0_), .map (some b0_1_), .map (some b0_2_), s0_3_.v], .box b1 53 [.string a1.Site, .int .i64 a1.No, .int .i64 a1.At, .int .i64 a1.Kind, .string a1.Who, .string a1.Motion, .int .i64 a1.Cents, .bool a1.Yes, .string a1.Of, .int .i64 a1.Other], .obj (famO kv9 SV.v (rowE R83) b0_0_ a0_0 Z0_0_ none es0_0_ cl0_0_), .obj (mapO kv9 b0_1_ (mpV vv3 a0_1) es0_1_ cl0_1_), .obj (famO kv9 (vvP Fh106) (entsP Fe106) b0_2_ a0_2 Z0_2_ none es0_2_ cl0_2_), .ro (RdS R3 (SV.v s0_3_) a0_3)]) (Sat w0 (keys [.box b0_ 78 [.map (some b0_0_), .map (some b0_1_), .map (some b0_2_), s0_3_.v], .obj (famO kv9 SV.v (rowE R83) b0_0_ a0_0 Z0_0_ none es0_0_ cl0_0_), .obj (mapO kv9 b0_1_ (mpV vv3 a0_1) es0_1_ cl0_1_), .obj (famO kv9 (vvP Fh106) (entsP Fe106) b0_2_ a0_2 Z0_2_ none es0_2_ cl0_2_)]) A [.box b0_ 78 [.map (some b0_0_), .map (some b0_1_), .map (some b0_2_), s0_3_.v], .box b1 53 [.string a1.Site, .int .i64 a1.No, .int .i64 a1.At, .int .i64 a1.Kind, .string a1.Who, .string a1.Motion, .int .i64 a1.Cents, .bool a1.Yes, .string a1.Of, .int .i64 a1.Other], .obj (mapO kv9 b0_1_ (mpV vv3 a0_1) es0_1_ cl0_1_), .obj (famO kv9 (vvP Fh106) (entsP Fe106) b0_2_ a0_2 Z0_2_ none es0_2_ cl0_2_), .ro (RdS R3 (SV.v s0_3_) a0_3)]) (by kernel_rfl) ?_
    refine at_take2 0 rfl (by kernel_rfl) (by kernel_rfl) (by kernel_rfl) (fun _ h => h.picks [0, 0, 1, 1, 1] rfl) rfl rfl (p_mv rfl) (fun _ h => h.picks [0, 0, 1, 1, 1] rfl) ?_
    refine at_take2 1 rfl (by kernel_rfl) (by kernel_rfl) (by kernel_rfl) (fun _ h => h.picks [0, 0, 1, 1, 1] rfl) rfl rfl (p_nc rfl) (fun _ h => h.picks [0, 0, 1, 1, 1] rfl) ?_
    refine at_take2 2 rfl (by kernel_rfl) (by kernel_rfl) (by kernel_rfl) (fun _ h => h.picks [0, 0, 1, 1, 1] rfl) rfl rfl (p_fab fl78_0 rfl) (fun _ h => h.picks [0, 0, 1, 1, 1] rfl) ?_
    refine at_take2 3 rfl (by kernel_rfl) (by kernel_rfl) (by kernel_rfl) (fun _ h => h.picks [0, 0, 1, 1, 1] rfl) rfl rfl (p_lbs ty75 rfl (j := 0) rfl rfl) (fun _ h => h.picks [0, 0, 1, 1, 1] rfl) ?_
    refine at_take2 4 rfl (by kernel_rfl) (by kernel_rfl) (by kernel_rfl) (fun _ h => h.picks [0, 0, 1, 1, 1] rfl) rfl rfl (p_fab fl53_4 rfl) (fun _ h => h.picks [0, 0, 1, 1, 1] rfl) ?_
    refine at_take2 5 rfl (by kernel_rfl) (by kernel_rfl) (by kernel_rfl) (fun _ h => h.picks [0, 0, 1, 1, 1] rfl) rfl rfl (p_lbs ty9 rfl (j := 1) rfl rfl) (fun _ h => h.picks [0, 0, 1, 1, 1] rfl) ?_
    refine at_take2 6 rfl (by kernel_rfl) (by kernel_rfl) (by kernel_rfl) (fun _ h => h.picks [0, 0, 1, 1, 1] rfl) rfl rfl (p_mv rfl) (fun _ h => h.picks [0, 0, 1, 1, 1] rfl) ?_
    refine at_take2 7 rfl (by kernel_rfl) (by kernel_rfl) (by kernel_rfl) (fun _ h => h.picks [0, 0, 1, 1, 1] rfl) rfl rfl (p_nc rfl) (fun _ h => h.picks [0, 0, 1, 1, 1] rfl) ?_
    refine at_take2 8 rfl (by kernel_rfl) (by kernel_rfl) (by kernel_rfl) (fun _ h => h.picks [0, 0, 1, 1, 1] rfl) rfl rfl (p_fab fl78_0 rfl) (fun _ h => h.picks [0, 0, 1, 1, 1] rfl) ?_
    refine at_take2 9 rfl (by kernel_rfl) (by kernel_rfl) (by kernel_rfl) (fun _ h => h.picks [0, 0, 1, 1, 1] rfl) rfl rfl (p_lbs ty75 rfl (j := 0) rfl rfl) (fun _ h => h.picks [0, 0, 1, 1, 1] rfl) ?_
    refine at_take2 10 rfl (by kernel_rfl) (by kernel_rfl) (by kernel_rfl) (fun _ h => h.picks [0, 0, 1, 1, 1] rfl) rfl rfl (p_fab fl53_4 rfl) (fun _ h => h.picks [0, 0, 1, 1, 1] rfl) ?_
    refine at_take2 11 rfl (by kernel_rfl) (by kernel_rfl) (by kernel_rfl) (fun _ h => h.picks [0, 0, 1, 1, 1] rfl) rfl rfl (p_lbs ty9 rfl (j := 1) rfl rfl) (fun _ h => h.picks [0, 0, 1, 1, 1] rfl) ?_
    refine at_take1 12 rfl (by kernel_rfl) (by kernel_rfl) (by kernel_rfl) (by kernel_rfl) rfl rfl (p_lkm (vv := SV.v) (k := a1.Who) (z := nilS) Tryz.underlying75 (keyF9) (fun _ => by kernel_rfl) (.imp (.fam 2 rfl) (fun _ h => h.map)) rfl rfl) (fun _ h => h.picks [0, 0, 0, 0, 0, 0] rfl) ?_
    refine at_take2 13 rfl (by kernel_rfl) (by kernel_rfl) (by kernel_rfl) (fun _ h => h.picks [0, 0, 1, 1, 1] rfl) rfl rfl (p_fab fl53_2 rfl) (fun _ h => h.picks [0, 0, 1, 1, 1] rfl) ?_
    refine at_take2 14 rfl (by kernel_rfl) (by kernel_rfl) (by kernel_rfl) (fun _ h => h.picks [0, 0, 1, 1, 1] rfl) rfl rfl (p_lbs ty3 rfl (j := 1) rfl rfl) (fun _ h => h.picks [0, 0, 1, 1, 1] rfl) ?_
    refine at_take2 15 rfl (by kernel_rfl) (by kernel_rfl) (by kernel_rfl) (fun _ h => h.picks [0, 0, 1, 1, 1] rfl) rfl rfl (p_fab fl53_6 rfl) (fun _ h => h.picks [0, 0, 1, 1, 1] rfl) ?_
    refine at_take2 16 rfl (by kernel_rfl) (by kernel_rfl) (by kernel_rfl) (fun _ h => h.picks [0, 0, 1, 1, 1] rfl) rfl rfl (p_lbs ty3 rfl (j := 1) rfl rfl) (fun _ h => h.picks [0, 0, 1, 1, 1] rfl) ?_
    refine at_take2 17 rfl (by kernel_rfl) (by kernel_rfl) (by kernel_rfl) (fun _ h => h.picks [0, 0, 1, 1, 1] rfl) rfl rfl (p_bld [.int .i64 a1.At, .int .i64 (-1), .int .i64 a1.Cents] rfl (fun _ => by kernel_rfl)) (fun _ h => h.picks [0, 0, 1, 1, 1] rfl) ?_
    refine at_each (rs := [18]) (by kernel_rfl) (by decide) ?_
    refine (.cons rfl (fun I cnI => ?_) .nil)
    ·refine r_bs R83 [(Tgleeref2_stay.mk a1.At (-1) a1.Cents)] rfl rfl rfl (fun _ => by kernel_rfl) rfl (fun s14 => ?_)
     refine lj_nil ?_
     refine cnI _ _ (sof1 rfl rfl (fun _ h => h.picks [1, 1, 1, 1, 1, 1] rfl)) ?_
     refine at_each (rs := [19]) (by kernel_rfl) (by decide) ?_
     refine (.cons rfl (fun I cnI => ?_) .nil)
     ·refine LJ.sat (fun _ h => h.takeR 3 rfl a1.Who) ?_
      refine r_app (k := 0) Tryz.underlying81 ty83 rfl rfl rfl rfl (.row 2 rfl) hq10 rfl (fun s16 => ?_)
      refine lj_nil ?_
      refine cnI _ _ (sof2 rfl rfl (fun _ h => h.picks [3, 3, 3, 3, 3] rfl)) ?_
      refine at_each (rs := [20]) (by kernel_rfl) (by decide) ?_
      refine (.cons rfl (fun I cnI => ?_) .nil)
      ·refine r_mpuF (x1 := q10) (g1 := s16) (k := a1.Who) [1, 0] Tryz.underlying75 keyF9 rfl (.inr rfl) rfl rfl rfl (fun es17 cl18 => ?_)
       refine lj_nil ?_
       refine cnI _ _ (sof2 rfl rfl (fun _ h => h.picks [2, 2, 2, 2, 2] rfl)) ?_
       refine at_done (by kernel_rfl) ?_
       refine nj_blk ?_
       refine nj_seq ?_
       refine cj_seq ?_
       refine cj_reg ?_
       refine lp rfl (p_as rfl) ?_
       refine lj_seq ?_
       obtain rfl := Option.some.inj hm
       exact cj_rt ((putM Z0_0_ a1.Who s16), es17, cl18, es0_1_, cl0_1_, Z0_2_, es0_2_, cl0_2_) [2, 0, 2, 2] Tryz.results54 (.tmp rfl .nil) rfl rfl
  ·have hm := ifB_f hb hm
   refine cj_seq ?_
   refine cj_reg ?_
   refine lp rfl (p_eql rfl rfl) ?_
   refine lp rfl (p_as rfl) ?_
   refine lj_seq ?_
   refine cj_if (b := a1.Kind == 2) rfl (fun hb => ?_) (fun hb => ?_)
   ·have hm := ifB_t hb hm
    refine cj_seq ?_
    refine cj_seq ?_
    refine cj_reg ?_
    refine lp rfl (p_mv rfl) ?_
    refine lp rfl (p_fab fl53_4 rfl) ?_
    refine lp rfl (p_lbs ty9 rfl (j := 0) rfl rfl) ?_
    obtain ⟨y19, hy19, hm⟩ := bindS hm
    refine r_call [1] cf36 rfl rfl (ok_gleeref2_hall_member b0_ b0_0_ Z0_0_ es0_0_ cl0_0_ a0_0 b0_1_ es0_1_ cl0_1_ a0_1 b0_2_ Z0_2_ es0_2_ cl0_2_ a0_2 s0_3_ a0_3 a1.Who hy19) rfl rfl (.cons (.fam 1 rfl) (.cons (.map 2 rfl) (.cons (.fam 3 rfl) (.cons (.ro 4 rfl) .nil)))) (fun _ => rfl) rfl (fun _ => ?_)
    refine lp rfl (p_not rfl) ?_
    refine lj_seq ?_
    refine cj_if (b := !y19) rfl (fun hb => ?_) (fun hb => ?_)
    ·have hm := ifB_t hb hm
     refine cj_seq ?_
     refine cj_reg ?_
     refine lp rfl (p_as rfl) ?_
     refine lj_seq ?_
     obtain rfl := Option.some.inj hm
     exact cj_rt (Z0_0_, es0_0_, cl0_0_, es0_1_, cl0_1_, Z0_2_, es0_2_, cl0_2_) [0, 1, 1, 1] Tryz.results54 (.tmp rfl .nil) rfl rfl
    ·have hm := ifB_f hb hm
     refine cj_skip ?_
     refine nj_seq ?_
     refine cj_tail 20 (by kernel_rfl) (by kernel_rfl) ?_
     refine s_p rfl (p_mv rfl) ?_
     refine s_p rfl (p_nc rfl) ?_
     refine s_p rfl (p_fab fl78_0 rfl) ?_
     refine s_p rfl (p_lbs ty75 rfl (j := 0) rfl rfl) ?_
     refine s_p rfl (p_fab fl53_4 rfl) ?_
     refine s_p rfl (p_lbs ty9 rfl (j := 1) rfl rfl) ?_
     refine s_p rfl (p_lkm (vv := SV.v) (k := a1.Who) (z := nilS) Tryz.underlying75 (keyF9) (fun _ => by kernel_rfl) (.imp (.fam 2 rfl) (fun _ h => h.map)) rfl rfl) ?_
     refine s_p rfl (p_mv rfl) ?_
     refine s_p rfl (p_nc rfl) ?_
     refine s_p rfl (p_fab fl78_0 rfl) ?_
     refine s_p rfl (p_lbs ty75 rfl (j := 0) rfl rfl) ?_
     refine s_p rfl (p_fab fl53_4 rfl) ?_
     refine s_p rfl (p_lbs ty9 rfl (j := 1) rfl rfl) ?_
     refine s_p rfl (p_lkm (vv := SV.v) (k := a1.Who) (z := nilS) Tryz.underlying75 (keyF9) (fun _ => by kernel_rfl) (.imp (.fam 2 rfl) (fun _ h => h.map)) rfl rfl) ?_
     refine s_p rfl (p_len Tryz.underlying81 rfl (.imp (.fam 2 rfl) (fun _ h => h.look a1.Who))) ?_
     refine s_p rfl (p_sub rfl rfl) ?_
     refine s_p rfl (p_fab fl53_2 rfl) ?_
     refine s_p rfl (p_lbs ty3 rfl (j := 1) rfl rfl) ?_
     obtain ⟨e20, he20, hm⟩ := bindS hm
     refine s_p rfl (p_idx Tryz.underlying81 ty83 rfl rfl (.imp (.fam 2 rfl) (fun _ h => h.look a1.Who)) he20) ?_
     refine s_p rfl (p_fae fl83_1 rfl (.imp (.fam 2 rfl) (fun _ h => h.look a1.Who)) (getI_spec he20).2) ?_
     refine s_nil ?_
     refine LJ.sat (fun _ h => h.takeR 2 rfl a1.Who) ?_
     refine r_ste (k := 0) (o := 1) (vs := [.int .i64 a1.At]) ty3 rfl rfl rfl rfl rfl rfl rfl (getI_spec he20).2 (Tgleeref2_stay.mk e20.from_ a1.At e20.cents) rfl rfl ?_
     refine LJ.sat (fun _ h => h.giveR [1, 0] rfl) ?_
     refine lj_nil ?_
     refine nj_blk ?_
     refine nj_seq ?_
     refine cj_seq ?_
     refine cj_reg ?_
     refine lp rfl (p_as rfl) ?_
     refine lj_seq ?_
     obtain rfl := Option.some.inj hm
     exact cj_rt (Z0_0_, es0_0_, cl0_0_, es0_1_, cl0_1_, Z0_2_, es0_2_, cl0_2_) [1, 0, 1, 1] Tryz.results54 (.tmp rfl .nil) rfl rfl
   ·have hm := ifB_f hb hm
    refine cj_seq ?_
    refine cj_reg ?_
    refine lp rfl (p_eql rfl rfl) ?_
    refine lp rfl (p_as rfl) ?_
    refine lj_seq ?_
    refine cj_if (b := a1.Kind == 3) rfl (fun hb => ?_) (fun hb => ?_)
    ·have hm := ifB_t hb hm
     refine cj_tail 10 (by kernel_rfl) (by kernel_rfl) ?_
     refine s_p rfl (p_mv rfl) ?_
     refine s_p rfl (p_nc rfl) ?_
     refine s_p rfl (p_fab fl78_1 rfl) ?_
     refine s_p rfl (p_lbs ty50 rfl (j := 1) rfl rfl) ?_
     refine s_p rfl (p_fab fl53_4 rfl) ?_
     refine s_p rfl (p_lbs ty9 rfl (j := 0) rfl rfl) ?_
     refine s_p rfl (p_lkm (vv := vv3) (k := a1.Who) (z := 0) Tryz.underlying50 (keyF9) (fun _ => by kernel_rfl) (.map 3 rfl) rfl rfl) ?_
     refine s_p rfl (p_fab fl53_6 rfl) ?_
     refine s_p rfl (p_lbs ty3 rfl (j := 0) rfl rfl) ?_
     refine s_p rfl (p_add rfl rfl) ?_
     refine s_nil ?_
     refine r_mpu (j := 3) (vv := vv3) (k := a1.Who) (v := (w64 (((lkM a0_1 a1.Who).getD 0) + a1.Cents))) Tryz.underlying50 keyF9 rfl rfl rfl rfl (fun es22 cl23 => ?_)
     refine lj_nil ?_
     refine nj_blk ?_
     refine nj_seq ?_
     refine cj_seq ?_
     refine cj_reg ?_
     refine lp rfl (p_as rfl) ?_
     refine lj_seq ?_
     obtain rfl := Option.some.inj hm
     exact cj_rt (Z0_0_, es0_0_, cl0_0_, es22, cl23, Z0_2_, es0_2_, cl0_2_) [1, 1, 1, 1] Tryz.results54 (.tmp rfl .nil) rfl rfl
    ·have hm := ifB_f hb hm
     refine cj_seq ?_
     refine cj_reg ?_
     refine lp rfl (p_eql rfl rfl) ?_
     refine lp rfl (p_as rfl) ?_
     refine lj_seq ?_
     refine cj_if (b := a1.Kind == 4) rfl (fun hb => ?_) (fun hb => ?_)
     ·have hm := ifB_t hb hm
      refine cj_seq ?_
      refine cj_seq ?_
      refine cj_reg ?_
      refine lp rfl (p_mv rfl) ?_
      refine lp rfl (p_nepn Tryz.underlying106 rfl rfl) ?_
      refine lj_seq ?_
      refine cj_if_f rfl ?_
      refine cj_skip ?_
      refine nj_seq ?_
      refine cj_anyT [0, 1, 2, 3, 4, 5, 7] [9] (Sat w0 (keys [.box b0_ 78 [.map (some b0_0_), .map (some b0_1_), .map (some b0_2_), s0_3_.v], .obj (famO kv9 SV.v (rowE R83) b0_0_ a0_0 Z0_0_ none es0_0_ cl0_0_), .obj (mapO kv9 b0_1_ (mpV vv3 a0_1) es0_1_ cl0_1_), .obj (famO kv9 (vvP Fh106) (entsP Fe106) b0_2_ a0_2 Z0_2_ none es0_2_ cl0_2_)]) A [.box b1 53 [.string a1.Site, .int .i64 a1.No, .int .i64 a1.At, .int .i64 a1.Kind, .string a1.Who, .string a1.Motion, .int .i64 a1.Cents, .bool a1.Yes, .string a1.Of, .int .i64 a1.Other], .box b0_ 78 [.map (some b0_0_), .map (some b0_1_), .map (some b0_2_), s0_3_.v], .obj (famO kv9 SV.v (rowE R83) b0_0_ a0_0 Z0_0_ none es0_0_ cl0_0_), .obj (mapO kv9 b0_1_ (mpV vv3 a0_1) es0_1_ cl0_1_), .obj (famO kv9 (vvP Fh106) (entsP Fe106) b0_2_ a0_2 Z0_2_ none es0_2_ cl0_2_), .ro (RdS R3 (SV.v s0_3_) a0_3)]) (Sat w0 (keys [.box b0_ 78 [.map (some b0_0_), .map (some b0_1_), .map (some b0_2_), s0_3_.v], .obj (famO kv9 SV.v (rowE R83) b0_0_ a0_0 Z0_0_ none es0_0_ cl0_0_), .obj (mapO kv9 b0_1_ (mpV vv3 a0_1) es0_1_ cl0_1_), .obj (famO kv9 (vvP Fh106) (entsP Fe106) b0_2_ a0_2 Z0_2_ none es0_2_ cl0_2_)]) A [.box b1 53 [.string a1.Site, .int .i64 a1.No, .int .i64 a1.At, .int .i64 a1.Kind, .string a1.Who, .string a1.Motion, .int .i64 a1.Cents, .bool a1.Yes, .string a1.Of, .int .i64 a1.Other], .box b0_ 78 [.map (some b0_0_), .map (some b0_1_), .map (some b0_2_), s0_3_.v], .obj (famO kv9 SV.v (rowE R83) b0_0_ a0_0 Z0_0_ none es0_0_ cl0_0_), .obj (mapO kv9 b0_1_ (mpV vv3 a0_1) es0_1_ cl0_1_), .ro (RdS R3 (SV.v s0_3_) a0_3)]) (by kernel_rfl) ?_
      refine at_take2 0 rfl (by kernel_rfl) (by kernel_rfl) (by kernel_rfl) (fun _ h => h.picks [0, 0, 0, 0, 1] rfl) rfl rfl (p_mv rfl) (fun _ h => h.picks [0, 0, 0, 0, 1] rfl) ?_
      refine at_take2 1 rfl (by kernel_rfl) (by kernel_rfl) (by kernel_rfl) (fun _ h => h.picks [0, 0, 0, 0, 1] rfl) rfl rfl (p_nc rfl) (fun _ h => h.picks [0, 0, 0, 0, 1] rfl) ?_
      refine at_take2 2 rfl (by kernel_rfl) (by kernel_rfl) (by kernel_rfl) (fun _ h => h.picks [0, 0, 0, 0, 1] rfl) rfl rfl (p_fab fl78_2 rfl) (fun _ h => h.picks [0, 0, 0, 0, 1] rfl) ?_
      refine at_take2 3 rfl (by kernel_rfl) (by kernel_rfl) (by kernel_rfl) (fun _ h => h.picks [0, 0, 0, 0, 1] rfl) rfl rfl (p_lbs ty76 rfl (j := 1) rfl rfl) (fun _ h => h.picks [0, 0, 0, 0, 1] rfl) ?_
      refine at_take2 4 rfl (by kernel_rfl) (by kernel_rfl) (by kernel_rfl) (fun _ h => h.picks [0, 0, 0, 0, 1] rfl) rfl rfl (p_fab fl53_5 rfl) (fun _ h => h.picks [0, 0, 0, 0, 1] rfl) ?_
      refine at_take2 5 rfl (by kernel_rfl) (by kernel_rfl) (by kernel_rfl) (fun _ h => h.picks [0, 0, 0, 0, 1] rfl) rfl rfl (p_lbs ty9 rfl (j := 0) rfl rfl) (fun _ h => h.picks [0, 0, 0, 0, 1] rfl) ?_
      refine at_each (rs := [6]) (by kernel_rfl) (by decide) ?_
      refine (.cons rfl (fun I cnI => ?_) .nil)
      ·refine r_mkmap kv9 vv4 rfl (fun b29 => ?_)
       refine lj_nil ?_
       refine cnI _ _ (sof1 rfl rfl (fun _ h => h.picks [1, 1, 1, 1, 1, 1] rfl)) ?_
       refine at_take2 7 rfl (by kernel_rfl) (by kernel_rfl) (by kernel_rfl) (fun _ h => h.picks [0, 0, 0, 0, 1] rfl) rfl rfl (p_bld [.bool true, .slice none 0 0, .map (some b29)] rfl (fun _ => by kernel_rfl)) (fun _ h => h.picks [1, 1, 1, 1, 2] rfl) ?_
       refine at_each (rs := [8]) (by kernel_rfl) (by decide) ?_
       refine (.cons rfl (fun I cnI => ?_) .nil)
       ·refine r_bx (cs := [.bool true, .slice none 0 0, .map (some b29)]) rfl rfl rfl (fun b30 => ?_)
        refine lj_nil ?_
        refine cnI _ _ (sof1 rfl rfl (fun _ h => h.picks [2, 2, 2, 2, 2, 2] rfl)) ?_
        refine at_each (rs := [9]) (by kernel_rfl) (by decide) ?_
        refine (.cons rfl (fun I cnI => ?_) .nil)
        ·refine r_nil R9 ?_
         refine r_mpuF (x1 := (true, ([] : List ByteArray), ([] : (List (ByteArray × Bool))))) (g1 := some (b30, nilS, b29, (#[]), 0)) (k := a1.Motion) [7, 1, 0, 0] Tryz.underlying76 keyF9 rfl (.inl rfl) rfl rfl rfl (fun es32 cl33 => ?_)
         refine lj_nil ?_
         refine cnI _ _ (sof2 rfl rfl (fun _ h => h.picks [1, 1, 1, 1, 1] rfl)) ?_
         refine at_done (by kernel_rfl) ?_
         refine nj_blk ?_
         refine nj_seq ?_
         refine cj_seq ?_
         refine cj_reg ?_
         refine lp rfl (p_as rfl) ?_
         refine lj_seq ?_
         obtain rfl := Option.some.inj hm
         exact cj_rt (Z0_0_, es0_0_, cl0_0_, es0_1_, cl0_1_, (putM Z0_2_ a1.Motion (some (b30, nilS, b29, (#[]), 0))), es32, cl33) [2, 2, 2, 0] Tryz.results54 (.tmp rfl .nil) rfl rfl
     ·have hm := ifB_f hb hm
      refine cj_seq ?_
      refine cj_reg ?_
      refine lp rfl (p_eql rfl rfl) ?_
      refine lp rfl (p_as rfl) ?_
      refine lj_seq ?_
      refine cj_if (b := a1.Kind == 5) rfl (fun hb => ?_) (fun hb => ?_)
      ·have hm := ifB_t hb hm
       refine cj_seq ?_
       refine cj_seq ?_
       refine cj_reg ?_
       obtain ⟨k36, hk36, hm⟩ := bindS hm
       have hRk36 : ∀ t, k36 = .inr t → some t = some r := fun t e => by rw [e] at hm; exact hm
       refine lj_join (σ := Bool) (γ := Unit) (fun u34 => k36 = .inl u34) (fun u34 g35 => [(3, .pointer (some ⟨b1, 0, none⟩)), (4, .bool false), (5, .pointer none), (110, .bool u34)]) (fun u34 g35 => Sat w0 (keys [.box b0_ 78 [.map (some b0_0_), .map (some b0_1_), .map (some b0_2_), s0_3_.v], .obj (famO kv9 SV.v (rowE R83) b0_0_ a0_0 Z0_0_ none es0_0_ cl0_0_), .obj (mapO kv9 b0_1_ (mpV vv3 a0_1) es0_1_ cl0_1_), .obj (famO kv9 (vvP Fh106) (entsP Fe106) b0_2_ a0_2 Z0_2_ none es0_2_ cl0_2_)]) A [.box b1 53 [.string a1.Site, .int .i64 a1.No, .int .i64 a1.At, .int .i64 a1.Kind, .string a1.Who, .string a1.Motion, .int .i64 a1.Cents, .bool a1.Yes, .string a1.Of, .int .i64 a1.Other], .box b0_ 78 [.map (some b0_0_), .map (some b0_1_), .map (some b0_2_), s0_3_.v], .obj (famO kv9 SV.v (rowE R83) b0_0_ a0_0 Z0_0_ none es0_0_ cl0_0_), .obj (mapO kv9 b0_1_ (mpV vv3 a0_1) es0_1_ cl0_1_), .obj (famO kv9 (vvP Fh106) (entsP Fe106) b0_2_ a0_2 Z0_2_ none es0_2_ cl0_2_), .ro (RdS R3 (SV.v s0_3_) a0_3)]) (fun u34 g35 hq => ?_) (fun J cnk36 => ?_)
       ·have hm := Sum.fin_l hq hm
        refine cj_if (b := u34) rfl (fun hb => ?_) (fun hb => ?_)
        ·have hm := ifB_t hb hm
         refine cj_seq ?_
         refine cj_reg ?_
         refine lp rfl (p_as rfl) ?_
         refine lj_seq ?_
         obtain rfl := Option.some.inj hm
         exact cj_rt (Z0_0_, es0_0_, cl0_0_, es0_1_, cl0_1_, Z0_2_, es0_2_, cl0_2_) [1, 1, 1, 1] Tryz.results54 (.tmp rfl .nil) rfl rfl
        ·have hm := ifB_f hb hm
         refine cj_skip ?_
         refine nj_seq ?_
         refine cj_tail 8 (by kernel_rfl) (by kernel_rfl) ?_
         refine s_p rfl (p_mv rfl) ?_
         cases hm
       ·have hm := hk36
        refine lp rfl (p_mv rfl) ?_
        refine lp rfl (p_eqpn Tryz.underlying106 rfl rfl) ?_
        refine lp rfl (p_mv rfl) ?_
        refine ls false rfl rfl rfl rfl ?_
        refine ls false rfl rfl rfl rfl ?_
        refine ls false rfl rfl rfl rfl ?_
        refine ls false rfl rfl rfl rfl ?_
        refine ls false rfl rfl rfl rfl ?_
        refine lp rfl (p_pkt rfl rfl) ?_
        refine lp rfl (p_mv rfl) ?_
        refine ls false rfl rfl rfl rfl ?_
        refine ls false rfl rfl rfl rfl ?_
        refine ls false rfl rfl rfl rfl ?_
        refine ls false rfl rfl rfl rfl ?_
        refine ls false rfl rfl rfl rfl ?_
        refine lp rfl (p_pkt rfl rfl) ?_
        refine lj_nil ?_
        exact cnk36 _ _ true () (Option.some.inj hm).symm ⟨rfl, rfl, rfl, rfl, trivial⟩ (fun _ h => h.picks [0, 0, 0, 0, 0, 0] rfl)
      ·have hm := ifB_f hb hm
       refine cj_seq ?_
       refine cj_reg ?_
       refine lp rfl (p_eql rfl rfl) ?_
       refine lp rfl (p_as rfl) ?_
       refine lj_seq ?_
       refine cj_if (b := a1.Kind == 6) rfl (fun hb => ?_) (fun hb => ?_)
       ·have hm := ifB_t hb hm
        refine cj_seq ?_
        refine cj_seq ?_
        refine cj_reg ?_
        obtain ⟨k39, hk39, hm⟩ := bindS hm
        have hRk39 : ∀ t, k39 = .inr t → some t = some r := fun t e => by rw [e] at hm; exact hm
        refine lj_join (σ := Bool) (γ := Unit) (fun u37 => k39 = .inl u37) (fun u37 g38 => [(0, .pointer (some ⟨b0_, 0, none⟩)), (4, .bool false), (5, .pointer none), (129, .bool u37)]) (fun u37 g38 => Sat w0 (keys [.box b0_ 78 [.map (some b0_0_), .map (some b0_1_), .map (some b0_2_), s0_3_.v], .obj (famO kv9 SV.v (rowE R83) b0_0_ a0_0 Z0_0_ none es0_0_ cl0_0_), .obj (mapO kv9 b0_1_ (mpV vv3 a0_1) es0_1_ cl0_1_), .obj (famO kv9 (vvP Fh106) (entsP Fe106) b0_2_ a0_2 Z0_2_ none es0_2_ cl0_2_)]) A [.box b0_ 78 [.map (some b0_0_), .map (some b0_1_), .map (some b0_2_), s0_3_.v], .obj (famO kv9 SV.v (rowE R83) b0_0_ a0_0 Z0_0_ none es0_0_ cl0_0_), .obj (mapO kv9 b0_1_ (mpV vv3 a0_1) es0_1_ cl0_1_), .obj (famO kv9 (vvP Fh106) (entsP Fe106) b0_2_ a0_2 Z0_2_ none es0_2_ cl0_2_), .ro (RdS R3 (SV.v s0_3_) a0_3)]) (fun u37 g38 hq => ?_) (fun J cnk39 => ?_)
        ·have hm := Sum.fin_l hq hm
         refine cj_if (b := u37) rfl (fun hb => ?_) (fun hb => ?_)
         ·have hm := ifB_t hb hm
          refine cj_seq ?_
          refine cj_reg ?_
          refine lp rfl (p_as rfl) ?_
          refine lj_seq ?_
          obtain rfl := Option.some.inj hm
          exact cj_rt (Z0_0_, es0_0_, cl0_0_, es0_1_, cl0_1_, Z0_2_, es0_2_, cl0_2_) [0, 0, 0, 0] Tryz.results54 (.tmp rfl .nil) rfl rfl
         ·have hm := ifB_f hb hm
          refine cj_skip ?_
          refine nj_seq ?_
          refine cj_reg ?_
          refine lp rfl (p_mv rfl) ?_
          refine lp rfl (p_mv rfl) ?_
          refine lp rfl (p_mv rfl) ?_
          obtain ⟨y40, hy40, hm⟩ := bindS hm
          refine r_call [0] cf35 rfl rfl (ok_gleeref2_hall_members b0_ b0_0_ Z0_0_ es0_0_ cl0_0_ a0_0 b0_1_ es0_1_ cl0_1_ a0_1 b0_2_ Z0_2_ es0_2_ cl0_2_ a0_2 s0_3_ a0_3 hy40) rfl rfl (.cons (.fam 0 rfl) (.cons (.map 1 rfl) (.cons (.fam 2 rfl) (.cons (.ro 3 rfl) .nil)))) (fun _ => rfl) rfl (fun s41 => ?_)
          cases hm
        ·have hm := hk39
         refine lp rfl (p_mv rfl) ?_
         refine lp rfl (p_eqpn Tryz.underlying106 rfl rfl) ?_
         refine lp rfl (p_mv rfl) ?_
         refine ls false rfl rfl rfl rfl ?_
         refine ls false rfl rfl rfl rfl ?_
         refine ls false rfl rfl rfl rfl ?_
         refine ls false rfl rfl rfl rfl ?_
         refine ls false rfl rfl rfl rfl ?_
         refine lp rfl (p_pkt rfl rfl) ?_
         refine lj_nil ?_
         exact cnk39 _ _ true () (Option.some.inj hm).symm ⟨rfl, rfl, rfl, rfl, trivial⟩ (fun _ h => h.picks [1, 1, 1, 1, 1] rfl)
       ·have hm := ifB_f hb hm
        refine cj_skip ?_
        refine nj_blk ?_
        refine nj_seq ?_
        refine cj_seq ?_
        refine cj_reg ?_
        refine lp rfl (p_as rfl) ?_
        refine lj_seq ?_
        obtain rfl := Option.some.inj hm
        exact cj_rt (Z0_0_, es0_0_, cl0_0_, es0_1_, cl0_1_, Z0_2_, es0_2_, cl0_2_) [1, 1, 1, 1] Tryz.results54 (.tmp rfl .nil) rfl rfl
 ·have hm := optB_s hx2 hm
  refine cj_quiet (by kernel_rfl) (by kernel_rfl) ?_
  refine q_p rfl (p_mv rfl) ?_
  refine q_p rfl (p_nc rfl) ?_
  refine q_p rfl (p_fab fl78_2 rfl) ?_
  refine q_p rfl (p_lbs ty76 rfl (j := 5) rfl rfl) ?_
  refine q_p rfl (p_fab fl53_5 rfl) ?_
  refine q_p rfl (p_lbs ty9 rfl (j := 4) rfl rfl) ?_
  refine q_p rfl (p_lkP (k := a1.Motion) Tryz.underlying76 (keyF9) (fun _ => by kernel_rfl) (.fam 3 rfl) hq4 rfl rfl) ?_
  refine q_p rfl (p_as rfl) ?_
  refine q_nil ?_
  refine NJ.sat (fun _ h => h.giveP0 [3, 0, 0, 0] rfl hx2 hq4) ?_
  refine nj_seq ?_
  refine cj_seq ?_
  refine cj_seq ?_
  refine cj_reg ?_
  refine lp rfl (p_fab fl53_3 rfl) ?_
  refine lp rfl (p_lbs ty3 rfl (j := 1) rfl rfl) ?_
  refine lj_seq ?_
  refine cj_blk ?_
  refine cj_seq ?_
  refine cj_reg ?_
  refine lp rfl (p_eql rfl rfl) ?_
  refine lp rfl (p_as rfl) ?_
  refine lj_seq ?_
  refine cj_if (b := a1.Kind == 1) rfl (fun hb => ?_) (fun hb => ?_)
  ·have hm := ifB_t hb hm
   refine cj_seq ?_
   refine cj_seq ?_
   refine cj_reg ?_
   refine lp rfl (p_mv rfl) ?_
   refine lp rfl (p_fab fl53_4 rfl) ?_
   refine lp rfl (p_lbs ty9 rfl (j := 1) rfl rfl) ?_
   obtain ⟨y48, hy48, hm⟩ := bindS hm
   refine r_call [2] cf36 rfl rfl (ok_gleeref2_hall_member b0_ b0_0_ Z0_0_ es0_0_ cl0_0_ a0_0 b0_1_ es0_1_ cl0_1_ a0_1 b0_2_ Z0_2_ es0_2_ cl0_2_ a0_2 s0_3_ a0_3 a1.Who hy48) rfl rfl (.cons (.fam 2 rfl) (.cons (.map 3 rfl) (.cons (.fam 0 rfl) (.cons (.ro 4 rfl) .nil)))) (fun _ => rfl) rfl (fun _ => ?_)
   refine lj_seq ?_
   refine cj_if (b := y48) rfl (fun hb => ?_) (fun hb => ?_)
   ·have hm := ifB_t hb hm
    refine cj_seq ?_
    refine cj_reg ?_
    refine lp rfl (p_as rfl) ?_
    refine lj_seq ?_
    obtain rfl := Option.some.inj hm
    exact cj_rt (Z0_0_, es0_0_, cl0_0_, es0_1_, cl0_1_, Z0_2_, es0_2_, cl0_2_) [0, 2, 2, 0] Tryz.results54 (.tmp rfl .nil) rfl rfl
   ·have hm := ifB_f hb hm
    refine cj_skip ?_
    refine nj_seq ?_
    obtain ⟨q51, hq51, hm⟩ := bindS hm
    refine cj_anyT [0, 1, 2, 3, 4, 5, 6, 7, 8, 9, 10, 11, 12, 13, 14, 15, 16, 17] [19, 20] (Sat w0 (keys [.box b0_ 78 [.map (some b0_0_), .map (some b0_1_), .map (some b0_2_), s0_3_.v], .obj (famO kv9 SV.v (rowE R83) b0_0_ a0_0 Z0_0_ none es0_0_ cl0_0_), .obj (mapO kv9 b0_1_ (mpV vv3 a0_1) es0_1_ cl0_1_), .obj (famO kv9 (vvP Fh106) (entsP Fe106) b0_2_ a0_2 Z0_2_ none es0_2_ cl0_2_)]) A [.box b0_ 78 [.map (some b0_0_), .map (some b0_1_), .map (some b0_2_), s0_3_.v], .obj (famO kv9 (vvP Fh106) (entsP Fe106) b0_2_ a0_2 Z0_2_ none es0_2_ cl0_2_), .box b1 53 [.string a1.Site, .int .i64 a1.No, .int .i64 a1.At, .int .i64 a1.Kind, .string a1.Who, .string a1.Motion, .int .i64 a1.Cents, .bool a1.Yes, .string a1.Of, .int .i64 a1.Other], .obj (famO kv9 SV.v (rowE R83) b0_0_ a0_0 Z0_0_ none es0_0_ cl0_0_), .obj (mapO kv9 b0_1_ (mpV vv3 a0_1) es0_1_ cl0_1_), .ro (RdS R3 (SV.v s0_3_) a0_3)]) (Sat w0 (keys [.box b0_ 78 [.map (some b0_0_), .map (some b0_1_), .map (some b0_2_), s0_3_.v], .obj (famO kv9 SV.v (rowE R83) b0_0_ a0_0 Z0_0_ none es0_0_ cl0_0_), .obj (mapO kv9 b0_1_ (mpV vv3 a0_1) es0_1_ cl0_1_), .obj (famO kv9 (vvP Fh106) (entsP Fe106) b0_2_ a0_2 Z0_2_ none es0_2_ cl0_2_)]) A [.box b0_ 78 [.map (some b0_0_), .map (some b0_1_), .map (some b0_2_), s0_3_.v], .obj (famO kv9 (vvP Fh106) (entsP Fe106) b0_2_ a0_2 Z0_2_ none es0_2_ cl0_2_), .box b1 53 [.string a1.Site, .int .i64 a1.No, .int .i64 a1.At, .int .i64 a1.Kind, .string a1.Who, .string a1.Motion, .int .i64 a1.Cents, .bool a1.Yes, .string a1.Of, .int .i64 a1.Other], .obj (mapO kv9 b0_1_ (mpV vv3 a0_1) es0_1_ cl0_1_), .ro (RdS R3 (SV.v s0_3_) a0_3)]) (by kernel_rfl) ?_
    refine at_take2 0 rfl (by kernel_rfl) (by kernel_rfl) (by kernel_rfl) (fun _ h => h.picks [0, 0, 0, 1, 1] rfl) rfl rfl (p_mv rfl) (fun _ h => h.picks [0, 0, 0, 1, 1] rfl) ?_
    refine at_take2 1 rfl (by kernel_rfl) (by kernel_rfl) (by kernel_rfl) (fun _ h => h.picks [0, 0, 0, 1, 1] rfl) rfl rfl (p_nc rfl) (fun _ h => h.picks [0, 0, 0, 1, 1] rfl) ?_
    refine at_take2 2 rfl (by kernel_rfl) (by kernel_rfl) (by kernel_rfl) (fun _ h => h.picks [0, 0, 0, 1, 1] rfl) rfl rfl (p_fab fl78_0 rfl) (fun _ h => h.picks [0, 0, 0, 1, 1] rfl) ?_
    refine at_take2 3 rfl (by kernel_rfl) (by kernel_rfl) (by kernel_rfl) (fun _ h => h.picks [0, 0, 0, 1, 1] rfl) rfl rfl (p_lbs ty75 rfl (j := 0) rfl rfl) (fun _ h => h.picks [0, 0, 0, 1, 1] rfl) ?_
    refine at_take2 4 rfl (by kernel_rfl) (by kernel_rfl) (by kernel_rfl) (fun _ h => h.picks [0, 0, 0, 1, 1] rfl) rfl rfl (p_fab fl53_4 rfl) (fun _ h => h.picks [0, 0, 0, 1, 1] rfl) ?_
    refine at_take2 5 rfl (by kernel_rfl) (by kernel_rfl) (by kernel_rfl) (fun _ h => h.picks [0, 0, 0, 1, 1] rfl) rfl rfl (p_lbs ty9 rfl (j := 2) rfl rfl) (fun _ h => h.picks [0, 0, 0, 1, 1] rfl) ?_
    refine at_take2 6 rfl (by kernel_rfl) (by kernel_rfl) (by kernel_rfl) (fun _ h => h.picks [0, 0, 0, 1, 1] rfl) rfl rfl (p_mv rfl) (fun _ h => h.picks [0, 0, 0, 1, 1] rfl) ?_
    refine at_take2 7 rfl (by kernel_rfl) (by kernel_rfl) (by kernel_rfl) (fun _ h => h.picks [0, 0, 0, 1, 1] rfl) rfl rfl (p_nc rfl) (fun _ h => h.picks [0, 0, 0, 1, 1] rfl) ?_
    refine at_take2 8 rfl (by kernel_rfl) (by kernel_rfl) (by kernel_rfl) (fun _ h => h.picks [0, 0, 0, 1, 1] rfl) rfl rfl (p_fab fl78_0 rfl) (fun _ h => h.picks [0, 0, 0, 1, 1] rfl) ?_
    refine at_take2 9 rfl (by kernel_rfl) (by kernel_rfl) (by kernel_rfl) (fun _ h => h.picks [0, 0, 0, 1, 1] rfl) rfl rfl (p_lbs ty75 rfl (j := 0) rfl rfl) (fun _ h => h.picks [0, 0, 0, 1, 1] rfl) ?_
    refine at_take2 10 rfl (by kernel_rfl) (by kernel_rfl) (by kernel_rfl) (fun _ h => h.picks [0, 0, 0, 1, 1] rfl) rfl rfl (p_fab fl53_4 rfl) (fun _ h => h.picks [0, 0, 0, 1, 1] rfl) ?_
    refine at_take2 11 rfl (by kernel_rfl) (by kernel_rfl) (by kernel_rfl) (fun _ h => h.picks [0, 0, 0, 1, 1] rfl) rfl rfl (p_lbs ty9 rfl (j := 2) rfl rfl) (fun _ h => h.picks [0, 0, 0, 1, 1] rfl) ?_
    refine at_take1 12 rfl (by kernel_rfl) (by kernel_rfl) (by kernel_rfl) (by kernel_rfl) rfl rfl (p_lkm (vv := SV.v) (k := a1.Who) (z := nilS) Tryz.underlying75 (keyF9) (fun _ => by kernel_rfl) (.imp (.fam 3 rfl) (fun _ h => h.map)) rfl rfl) (fun _ h => h.picks [0, 0, 0, 0, 0, 0] rfl) ?_
    refine at_take2 13 rfl (by kernel_rfl) (by kernel_rfl) (by kernel_rfl) (fun _ h => h.picks [0, 0, 0, 1, 1] rfl) rfl rfl (p_fab fl53_2 rfl) (fun _ h => h.picks [0, 0, 0, 1, 1] rfl) ?_
    refine at_take2 14 rfl (by kernel_rfl) (by kernel_rfl) (by kernel_rfl) (fun _ h => h.picks [0, 0, 0, 1, 1] rfl) rfl rfl (p_lbs ty3 rfl (j := 2) rfl rfl) (fun _ h => h.picks [0, 0, 0, 1, 1] rfl) ?_
    refine at_take2 15 rfl (by kernel_rfl) (by kernel_rfl) (by kernel_rfl) (fun _ h => h.picks [0, 0, 0, 1, 1] rfl) rfl rfl (p_fab fl53_6 rfl) (fun _ h => h.picks [0, 0, 0, 1, 1] rfl) ?_
    refine at_take2 16 rfl (by kernel_rfl) (by kernel_rfl) (by kernel_rfl) (fun _ h => h.picks [0, 0, 0, 1, 1] rfl) rfl rfl (p_lbs ty3 rfl (j := 2) rfl rfl) (fun _ h => h.picks [0, 0, 0, 1, 1] rfl) ?_
    refine at_take2 17 rfl (by kernel_rfl) (by kernel_rfl) (by kernel_rfl) (fun _ h => h.picks [0, 0, 0, 1, 1] rfl) rfl rfl (p_bld [.int .i64 a1.At, .int .i64 (-1), .int .i64 a1.Cents] rfl (fun _ => by kernel_rfl)) (fun _ h => h.picks [0, 0, 0, 1, 1] rfl) ?_
    refine at_each (rs := [18]) (by kernel_rfl) (by decide) ?_
    refine (.cons rfl (fun I cnI => ?_) .nil)
    ·refine r_bs R83 [(Tgleeref2_stay.mk a1.At (-1) a1.Cents)] rfl rfl rfl (fun _ => by kernel_rfl) rfl (fun s55 => ?_)
     refine lj_nil ?_
     refine cnI _ _ (sof1 rfl rfl (fun _ h => h.picks [1, 1, 1, 1, 1, 1] rfl)) ?_
     refine at_each (rs := [19]) (by kernel_rfl) (by decide) ?_
     refine (.cons rfl (fun I cnI => ?_) .nil)
     ·refine LJ.sat (fun _ h => h.takeR 4 rfl a1.Who) ?_
      refine r_app (k := 0) Tryz.underlying81 ty83 rfl rfl rfl rfl (.row 2 rfl) hq51 rfl (fun s57 => ?_)
      refine lj_nil ?_
      refine cnI _ _ (sof2 rfl rfl (fun _ h => h.picks [3, 3, 3, 3, 3] rfl)) ?_
      refine at_each (rs := [20]) (by kernel_rfl) (by decide) ?_
      refine (.cons rfl (fun I cnI => ?_) .nil)
      ·refine r_mpuF (x1 := q51) (g1 := s57) (k := a1.Who) [1, 0] Tryz.underlying75 keyF9 rfl (.inr rfl) rfl rfl rfl (fun es58 cl59 => ?_)
       refine lj_nil ?_
       refine cnI _ _ (sof2 rfl rfl (fun _ h => h.picks [2, 2, 2, 2, 2] rfl)) ?_
       refine at_done (by kernel_rfl) ?_
       refine nj_blk ?_
       refine nj_seq ?_
       refine cj_seq ?_
       refine cj_reg ?_
       refine lp rfl (p_as rfl) ?_
       refine lj_seq ?_
       obtain rfl := Option.some.inj hm
       exact cj_rt ((putM Z0_0_ a1.Who s57), es58, cl59, es0_1_, cl0_1_, Z0_2_, es0_2_, cl0_2_) [2, 0, 3, 1] Tryz.results54 (.tmp rfl .nil) rfl rfl
  ·have hm := ifB_f hb hm
   refine cj_seq ?_
   refine cj_reg ?_
   refine lp rfl (p_eql rfl rfl) ?_
   refine lp rfl (p_as rfl) ?_
   refine lj_seq ?_
   refine cj_if (b := a1.Kind == 2) rfl (fun hb => ?_) (fun hb => ?_)
   ·have hm := ifB_t hb hm
    refine cj_seq ?_
    refine cj_seq ?_
    refine cj_reg ?_
    refine lp rfl (p_mv rfl) ?_
    refine lp rfl (p_fab fl53_4 rfl) ?_
    refine lp rfl (p_lbs ty9 rfl (j := 1) rfl rfl) ?_
    obtain ⟨y60, hy60, hm⟩ := bindS hm
    refine r_call [2] cf36 rfl rfl (ok_gleeref2_hall_member b0_ b0_0_ Z0_0_ es0_0_ cl0_0_ a0_0 b0_1_ es0_1_ cl0_1_ a0_1 b0_2_ Z0_2_ es0_2_ cl0_2_ a0_2 s0_3_ a0_3 a1.Who hy60) rfl rfl (.cons (.fam 2 rfl) (.cons (.map 3 rfl) (.cons (.fam 0 rfl) (.cons (.ro 4 rfl) .nil)))) (fun _ => rfl) rfl (fun _ => ?_)
    refine lp rfl (p_not rfl) ?_
    refine lj_seq ?_
    refine cj_if (b := !y60) rfl (fun hb => ?_) (fun hb => ?_)
    ·have hm := ifB_t hb hm
     refine cj_seq ?_
     refine cj_reg ?_
     refine lp rfl (p_as rfl) ?_
     refine lj_seq ?_
     obtain rfl := Option.some.inj hm
     exact cj_rt (Z0_0_, es0_0_, cl0_0_, es0_1_, cl0_1_, Z0_2_, es0_2_, cl0_2_) [0, 2, 2, 0] Tryz.results54 (.tmp rfl .nil) rfl rfl
    ·have hm := ifB_f hb hm
     refine cj_skip ?_
     refine nj_seq ?_
     refine cj_tail 20 (by kernel_rfl) (by kernel_rfl) ?_
     refine s_p rfl (p_mv rfl) ?_
     refine s_p rfl (p_nc rfl) ?_
     refine s_p rfl (p_fab fl78_0 rfl) ?_
     refine s_p rfl (p_lbs ty75 rfl (j := 0) rfl rfl) ?_
     refine s_p rfl (p_fab fl53_4 rfl) ?_
     refine s_p rfl (p_lbs ty9 rfl (j := 2) rfl rfl) ?_
     refine s_p rfl (p_lkm (vv := SV.v) (k := a1.Who) (z := nilS) Tryz.underlying75 (keyF9) (fun _ => by kernel_rfl) (.imp (.fam 3 rfl) (fun _ h => h.map)) rfl rfl) ?_
     refine s_p rfl (p_mv rfl) ?_
     refine s_p rfl (p_nc rfl) ?_
     refine s_p rfl (p_fab fl78_0 rfl) ?_
     refine s_p rfl (p_lbs ty75 rfl (j := 0) rfl rfl) ?_
     refine s_p rfl (p_fab fl53_4 rfl) ?_
     refine s_p rfl (p_lbs ty9 rfl (j := 2) rfl rfl) ?_
     refine s_p rfl (p_lkm (vv := SV.v) (k := a1.Who) (z := nilS) Tryz.underlying75 (keyF9) (fun _ => by kernel_rfl) (.imp (.fam 3 rfl) (fun _ h => h.map)) rfl rfl) ?_
     refine s_p rfl (p_len Tryz.underlying81 rfl (.imp (.fam 3 rfl) (fun _ h => h.look a1.Who))) ?_
     refine s_p rfl (p_sub rfl rfl) ?_
     refine s_p rfl (p_fab fl53_2 rfl) ?_
     refine s_p rfl (p_lbs ty3 rfl (j := 2) rfl rfl) ?_
     obtain ⟨e61, he61, hm⟩ := bindS hm
     refine s_p rfl (p_idx Tryz.underlying81 ty83 rfl rfl (.imp (.fam 3 rfl) (fun _ h => h.look a1.Who)) he61) ?_
     refine s_p rfl (p_fae fl83_1 rfl (.imp (.fam 3 rfl) (fun _ h => h.look a1.Who)) (getI_spec he61).2) ?_
     refine s_nil ?_
     refine LJ.sat (fun _ h => h.takeR 3 rfl a1.Who) ?_
     refine r_ste (k := 0) (o := 1) (vs := [.int .i64 a1.At]) ty3 rfl rfl rfl rfl rfl rfl rfl (getI_spec he61).2 (Tgleeref2_stay.mk e61.from_ a1.At e61.cents) rfl rfl ?_
     refine LJ.sat (fun _ h => h.giveR [1, 0] rfl) ?_
     refine lj_nil ?_
     refine nj_blk ?_
     refine nj_seq ?_
     refine cj_seq ?_
     refine cj_reg ?_
     refine lp rfl (p_as rfl) ?_
     refine lj_seq ?_
     obtain rfl := Option.some.inj hm
     exact cj_rt (Z0_0_, es0_0_, cl0_0_, es0_1_, cl0_1_, Z0_2_, es0_2_, cl0_2_) [1, 0, 2, 0] Tryz.results54 (.tmp rfl .nil) rfl rfl
   ·have hm := ifB_f hb hm
    refine cj_seq ?_
    refine cj_reg ?_
    refine lp rfl (p_eql rfl rfl) ?_
    refine lp rfl (p_as rfl) ?_
    refine lj_seq ?_
    refine cj_if (b := a1.Kind == 3) rfl (fun hb => ?_) (fun hb => ?_)
    ·have hm := ifB_t hb hm
     refine cj_tail 10 (by kernel_rfl) (by kernel_rfl) ?_
     refine s_p rfl (p_mv rfl) ?_
     refine s_p rfl (p_nc rfl) ?_
     refine s_p rfl (p_fab fl78_1 rfl) ?_
     refine s_p rfl (p_lbs ty50 rfl (j := 2) rfl rfl) ?_
     refine s_p rfl (p_fab fl53_4 rfl) ?_
     refine s_p rfl (p_lbs ty9 rfl (j := 1) rfl rfl) ?_
     refine s_p rfl (p_lkm (vv := vv3) (k := a1.Who) (z := 0) Tryz.underlying50 (keyF9) (fun _ => by kernel_rfl) (.map 4 rfl) rfl rfl) ?_
     refine s_p rfl (p_fab fl53_6 rfl) ?_
     refine s_p rfl (p_lbs ty3 rfl (j := 1) rfl rfl) ?_
     refine s_p rfl (p_add rfl rfl) ?_
     refine s_nil ?_
     refine r_mpu (j := 4) (vv := vv3) (k := a1.Who) (v := (w64 (((lkM a0_1 a1.Who).getD 0) + a1.Cents))) Tryz.underlying50 keyF9 rfl rfl rfl rfl (fun es63 cl64 => ?_)
     refine lj_nil ?_
     refine nj_blk ?_
     refine nj_seq ?_
     refine cj_seq ?_
     refine cj_reg ?_
     refine lp rfl (p_as rfl) ?_
     refine lj_seq ?_
     obtain rfl := Option.some.inj hm
     exact cj_rt (Z0_0_, es0_0_, cl0_0_, es63, cl64, Z0_2_, es0_2_, cl0_2_) [2, 2, 2, 0] Tryz.results54 (.tmp rfl .nil) rfl rfl
    ·have hm := ifB_f hb hm
     refine cj_seq ?_
     refine cj_reg ?_
     refine lp rfl (p_eql rfl rfl) ?_
     refine lp rfl (p_as rfl) ?_
     refine lj_seq ?_
     refine cj_if (b := a1.Kind == 4) rfl (fun hb => ?_) (fun hb => ?_)
     ·have hm := ifB_t hb hm
      refine cj_seq ?_
      refine cj_seq ?_
      refine cj_reg ?_
      refine lp rfl (p_mv rfl) ?_
      refine lp rfl (p_nepn Tryz.underlying106 rfl rfl) ?_
      refine lj_seq ?_
      refine cj_if_t rfl ?_
      refine cj_seq ?_
      refine cj_reg ?_
      refine lp rfl (p_as rfl) ?_
      refine lj_seq ?_
      obtain rfl := Option.some.inj hm
      exact cj_rt (Z0_0_, es0_0_, cl0_0_, es0_1_, cl0_1_, Z0_2_, es0_2_, cl0_2_) [2, 2, 2, 0] Tryz.results54 (.tmp rfl .nil) rfl rfl
     ·have hm := ifB_f hb hm
      refine cj_seq ?_
      refine cj_reg ?_
      refine lp rfl (p_eql rfl rfl) ?_
      refine lp rfl (p_as rfl) ?_
      refine lj_seq ?_
      refine cj_if (b := a1.Kind == 5) rfl (fun hb => ?_) (fun hb => ?_)
      ·have hm := ifB_t hb hm
       refine cj_seq ?_
       refine cj_seq ?_
       refine cj_reg ?_
       obtain ⟨k67, hk67, hm⟩ := bindS hm
       have hRk67 : ∀ t, k67 = .inr t → some t = some r := fun t e => by rw [e] at hm; exact hm
       refine lj_join (σ := Bool) (γ := Unit) (fun u65 => k67 = .inl u65) (fun u65 g66 => [(3, .pointer (some ⟨b1, 0, none⟩)), (4, .bool false), (5, .pointer (some ⟨q6.1, 0, none⟩)), (110, .bool u65)]) (fun u65 g66 => Sat w0 (keys [.box b0_ 78 [.map (some b0_0_), .map (some b0_1_), .map (some b0_2_), s0_3_.v], .obj (famO kv9 SV.v (rowE R83) b0_0_ a0_0 Z0_0_ none es0_0_ cl0_0_), .obj (mapO kv9 b0_1_ (mpV vv3 a0_1) es0_1_ cl0_1_), .obj (famO kv9 (vvP Fh106) (entsP Fe106) b0_2_ a0_2 Z0_2_ none es0_2_ cl0_2_)]) A [.obj (famO kv9 (vvP Fh106) (entsP Fe106) b0_2_ a0_2 Z0_2_ none es0_2_ cl0_2_), .box b1 53 [.string a1.Site, .int .i64 a1.No, .int .i64 a1.At, .int .i64 a1.Kind, .string a1.Who, .string a1.Motion, .int .i64 a1.Cents, .bool a1.Yes, .string a1.Of, .int .i64 a1.Other], .box b0_ 78 [.map (some b0_0_), .map (some b0_1_), .map (some b0_2_), s0_3_.v], .obj (famO kv9 SV.v (rowE R83) b0_0_ a0_0 Z0_0_ none es0_0_ cl0_0_), .obj (mapO kv9 b0_1_ (mpV vv3 a0_1) es0_1_ cl0_1_), .ro (RdS R3 (SV.v s0_3_) a0_3)]) (fun u65 g66 hq => ?_) (fun J cnk67 => ?_)
       ·have hm := Sum.fin_l hq hm
        refine cj_if (b := u65) rfl (fun hb => ?_) (fun hb => ?_)
        ·have hm := ifB_t hb hm
         refine cj_seq ?_
         refine cj_reg ?_
         refine lp rfl (p_as rfl) ?_
         refine lj_seq ?_
         obtain rfl := Option.some.inj hm
         exact cj_rt (Z0_0_, es0_0_, cl0_0_, es0_1_, cl0_1_, Z0_2_, es0_2_, cl0_2_) [2, 2, 2, 0] Tryz.results54 (.tmp rfl .nil) rfl rfl
        ·have hm := ifB_f hb hm
         refine cj_skip ?_
         refine nj_seq ?_
         refine CJ.sat (fun _ h => h.takeK 0 rfl fro106 hx2 hq4) ?_
         refine cj_tail 8 (by kernel_rfl) (by kernel_rfl) ?_
         refine s_p rfl (p_mv rfl) ?_
         refine s_p rfl (p_nc rfl) ?_
         refine s_p rfl (p_fab fl109_2 rfl) ?_
         refine s_p rfl (p_lbs ty107 rfl (j := 0) rfl rfl) ?_
         refine s_p rfl (p_fab fl53_4 rfl) ?_
         refine s_p rfl (p_lbs ty9 rfl (j := 4) rfl rfl) ?_
         refine s_p rfl (p_fab fl53_7 rfl) ?_
         refine s_p rfl (p_lbs ty4 rfl (j := 4) rfl rfl) ?_
         refine s_nil ?_
         refine r_mpu (j := 2) (vv := vv4) (k := a1.Who) (v := a1.Yes) Tryz.underlying107 keyF9 rfl rfl rfl rfl (fun es81 cl82 => ?_)
         refine LJ.sat (fun _ h => h.giveP (t := (t5.1, t5.2.1, (putM t5.2.2 a1.Who a1.Yes))) (q' := (q6.1, q6.2.1, q6.2.2.1, es81, cl82)) [3, 0, 0, 0] rfl hq4 rfl) ?_
         refine lj_nil ?_
         refine nj_blk ?_
         refine nj_seq ?_
         refine cj_seq ?_
         refine cj_reg ?_
         refine lp rfl (p_as rfl) ?_
         refine lj_seq ?_
         obtain rfl := Option.some.inj hm
         exact cj_rt (Z0_0_, es0_0_, cl0_0_, es0_1_, cl0_1_, (repM Z0_2_ a1.Motion (some (q6.1, q6.2.1, q6.2.2.1, es81, cl82))), es0_2_, cl0_2_) [2, 2, 2, 0] Tryz.results54 (.tmp rfl .nil) rfl rfl
       ·have hm := hk67
        refine lp rfl (p_mv rfl) ?_
        refine lp rfl (p_eqpn Tryz.underlying106 rfl rfl) ?_
        refine lp rfl (p_mv rfl) ?_
        refine lg false rfl rfl rfl ?_
        refine lp rfl (p_mv rfl) ?_
        refine lg false rfl rfl rfl ?_
        refine LJ.sat (fun _ h => h.takeK 0 rfl fro106 hx2 hq4) ?_
        refine lp rfl (p_nc rfl) ?_
        refine lg false rfl rfl rfl ?_
        refine lp rfl (p_fab fl109_0 rfl) ?_
        refine lg false rfl rfl rfl ?_
        refine lp rfl (p_lbs ty4 rfl (j := 0) rfl rfl) ?_
        refine lg false rfl rfl rfl ?_
        refine lp rfl (p_not rfl) ?_
        refine lp rfl (p_pkf rfl rfl) ?_
        refine lp rfl (p_mv rfl) ?_
        refine lcase (i := 104) (!t5.1) rfl (fun hb => ?_) (fun hb => ?_)
        ·have hm := ifB_t hb hm
         refine ls false rfl rfl rfl rfl ?_
         refine ls false rfl rfl rfl rfl ?_
         refine ls false rfl rfl rfl rfl ?_
         refine ls false rfl rfl rfl rfl ?_
         refine ls false rfl rfl rfl rfl ?_
         refine lp rfl (p_pkt rfl rfl) ?_
         refine LJ.sat (fun _ h => h.giveP0 [3, 0, 0, 0] rfl hx2 hq4) ?_
         refine lj_nil ?_
         exact cnk67 _ _ true () (Option.some.inj hm).symm ⟨rfl, rfl, rfl, rfl, trivial⟩ (fun _ h => h.picks [0, 0, 0, 0, 0, 0] rfl)
        ·have hm := ifB_f hb hm
         refine lg false rfl rfl rfl ?_
         refine lp rfl (p_mv rfl) ?_
         refine lg false rfl rfl rfl ?_
         refine lp rfl (p_fab fl53_4 rfl) ?_
         refine lg false rfl rfl rfl ?_
         refine lp rfl (p_lbs ty9 rfl (j := 4) rfl rfl) ?_
         refine lg false rfl rfl rfl ?_
         refine LJ.sat (fun _ h => h.giveP0 [3, 0, 0, 0] rfl hx2 hq4) ?_
         obtain ⟨y77, hy77, hm⟩ := bindS hm
         refine r_call [2] cf36 rfl rfl (ok_gleeref2_hall_member b0_ b0_0_ Z0_0_ es0_0_ cl0_0_ a0_0 b0_1_ es0_1_ cl0_1_ a0_1 b0_2_ Z0_2_ es0_2_ cl0_2_ a0_2 s0_3_ a0_3 a1.Who hy77) rfl rfl (.cons (.fam 2 rfl) (.cons (.map 3 rfl) (.cons (.fam 0 rfl) (.cons (.ro 4 rfl) .nil)))) (fun _ => rfl) rfl (fun _ => ?_)
         refine lg false rfl rfl rfl ?_
         refine lp rfl (p_not rfl) ?_
         refine lp rfl (p_pkf rfl rfl) ?_
         refine lj_nil ?_
         exact cnk67 _ _ (!y77) () (Option.some.inj hm).symm ⟨rfl, rfl, rfl, rfl, trivial⟩ (fun _ h => h.picks [1, 1, 0, 0, 0, 0] rfl)
      ·have hm := ifB_f hb hm
       refine cj_seq ?_
       refine cj_reg ?_
       refine lp rfl (p_eql rfl rfl) ?_
       refine lp rfl (p_as rfl) ?_
       refine lj_seq ?_
       refine cj_if (b := a1.Kind == 6) rfl (fun hb => ?_) (fun hb => ?_)
       ·have hm := ifB_t hb hm
        refine cj_seq ?_
        refine cj_seq ?_
        refine cj_reg ?_
        obtain ⟨k88, hk88, hm⟩ := bindS hm
        have hRk88 : ∀ t, k88 = .inr t → some t = some r := fun t e => by rw [e] at hm; exact hm
        refine lj_join (σ := Bool) (γ := Unit) (fun u86 => k88 = .inl u86) (fun u86 g87 => [(0, .pointer (some ⟨b0_, 0, none⟩)), (4, .bool false), (5, .pointer (some ⟨q6.1, 0, none⟩)), (129, .bool u86)]) (fun u86 g87 => Sat w0 (keys [.box b0_ 78 [.map (some b0_0_), .map (some b0_1_), .map (some b0_2_), s0_3_.v], .obj (famO kv9 SV.v (rowE R83) b0_0_ a0_0 Z0_0_ none es0_0_ cl0_0_), .obj (mapO kv9 b0_1_ (mpV vv3 a0_1) es0_1_ cl0_1_), .obj (famO kv9 (vvP Fh106) (entsP Fe106) b0_2_ a0_2 Z0_2_ none es0_2_ cl0_2_)]) A [.obj (famO kv9 (vvP Fh106) (entsP Fe106) b0_2_ a0_2 Z0_2_ none es0_2_ cl0_2_), .box b0_ 78 [.map (some b0_0_), .map (some b0_1_), .map (some b0_2_), s0_3_.v], .obj (famO kv9 SV.v (rowE R83) b0_0_ a0_0 Z0_0_ none es0_0_ cl0_0_), .obj (mapO kv9 b0_1_ (mpV vv3 a0_1) es0_1_ cl0_1_), .ro (RdS R3 (SV.v s0_3_) a0_3)]) (fun u86 g87 hq => ?_) (fun J cnk88 => ?_)
        ·have hm := Sum.fin_l hq hm
         refine cj_if (b := u86) rfl (fun hb => ?_) (fun hb => ?_)
         ·have hm := ifB_t hb hm
          refine cj_seq ?_
          refine cj_reg ?_
          refine lp rfl (p_as rfl) ?_
          refine lj_seq ?_
          obtain rfl := Option.some.inj hm
          exact cj_rt (Z0_0_, es0_0_, cl0_0_, es0_1_, cl0_1_, Z0_2_, es0_2_, cl0_2_) [1, 1, 1, 0] Tryz.results54 (.tmp rfl .nil) rfl rfl
         ·have hm := ifB_f hb hm
          refine cj_skip ?_
          refine nj_seq ?_
          refine cj_reg ?_
          refine lp rfl (p_mv rfl) ?_
          refine lp rfl (p_mv rfl) ?_
          refine lp rfl (p_mv rfl) ?_
          obtain ⟨y95, hy95, hm⟩ := bindS hm
          refine r_call [1] cf35 rfl rfl (ok_gleeref2_hall_members b0_ b0_0_ Z0_0_ es0_0_ cl0_0_ a0_0 b0_1_ es0_1_ cl0_1_ a0_1 b0_2_ Z0_2_ es0_2_ cl0_2_ a0_2 s0_3_ a0_3 hy95) rfl rfl (.cons (.fam 1 rfl) (.cons (.map 2 rfl) (.cons (.fam 0 rfl) (.cons (.ro 3 rfl) .nil)))) (fun _ => rfl) rfl (fun s96 => ?_)
          refine LJ.sat (fun _ h => h.takeK 2 rfl fro106 hx2 hq4) ?_
          refine lp rfl (p_nc rfl) ?_
          refine lp rfl (p_fab fl109_0 rfl) ?_
          refine r_sb (vs := [.bool false]) (j := 0) ty4 rfl rfl rfl rfl rfl rfl rfl ?_
          refine lp rfl (p_nc rfl) ?_
          refine lp rfl (p_fab fl109_1 rfl) ?_
          refine r_sb (vs := [s96.v]) (j := 0) ty34 rfl rfl rfl rfl rfl rfl rfl ?_
          refine LJ.sat (fun _ h => h.giveP (t := (false, y95, t5.2.2)) (q' := (q6.1, s96, q6.2.2.1, q6.2.2.2.1, q6.2.2.2.2)) [3, 0, 2, 1] rfl hq4 rfl) ?_
          refine lj_nil ?_
          refine nj_blk ?_
          refine nj_seq ?_
          refine cj_seq ?_
          refine cj_reg ?_
          refine lp rfl (p_as rfl) ?_
          refine lj_seq ?_
          obtain rfl := Option.some.inj hm
          exact cj_rt (Z0_0_, es0_0_, cl0_0_, es0_1_, cl0_1_, (repM Z0_2_ a1.Motion (some (q6.1, s96, q6.2.2.1, q6.2.2.2.1, q6.2.2.2.2))), es0_2_, cl0_2_) [2, 2, 2, 0] Tryz.results54 (.tmp rfl .nil) rfl rfl
        ·have hm := hk88
         refine lp rfl (p_mv rfl) ?_
         refine lp rfl (p_eqpn Tryz.underlying106 rfl rfl) ?_
         refine lp rfl (p_mv rfl) ?_
         refine lg false rfl rfl rfl ?_
         refine lp rfl (p_mv rfl) ?_
         refine lg false rfl rfl rfl ?_
         refine LJ.sat (fun _ h => h.takeK 0 rfl fro106 hx2 hq4) ?_
         refine lp rfl (p_nc rfl) ?_
         refine lg false rfl rfl rfl ?_
         refine lp rfl (p_fab fl109_0 rfl) ?_
         refine lg false rfl rfl rfl ?_
         refine lp rfl (p_lbs ty4 rfl (j := 0) rfl rfl) ?_
         refine lg false rfl rfl rfl ?_
         refine lp rfl (p_not rfl) ?_
         refine lp rfl (p_pkf rfl rfl) ?_
         refine LJ.sat (fun _ h => h.giveP0 [3, 0, 0, 0] rfl hx2 hq4) ?_
         refine lj_nil ?_
         exact cnk88 _ _ (!t5.1) () (Option.some.inj hm).symm ⟨rfl, rfl, rfl, rfl, trivial⟩ (fun _ h => h.picks [0, 1, 1, 1, 1] rfl)
       ·have hm := ifB_f hb hm
        refine cj_skip ?_
        refine nj_blk ?_
        refine nj_seq ?_
        refine cj_seq ?_
        refine cj_reg ?_
        refine lp rfl (p_as rfl) ?_
        refine lj_seq ?_
        obtain rfl := Option.some.inj hm
        exact cj_rt (Z0_0_, es0_0_, cl0_0_, es0_1_, cl0_1_, Z0_2_, es0_2_, cl0_2_) [2, 2, 2, 0] Tryz.results54 (.tmp rfl .nil) rfl rfl
theorem ok_gleeref2_hallAt (s0_ : SV) (a0 : (List TAct)) (a1 : Int) {r : ((List (ByteArray × (List Tgleeref2_stay))) × (List (ByteArray × Int)) × (List (ByteArray × (Bool × (List ByteArray) × (List (ByteArray × Bool))))) × (List Int))} (hm : m_gleeref2_hallAt a0 a1 = some r) :
  Ctr Tryz.prog 34 [s0_.v, .int .i64 a1].toArray ([] : List Ent) [RdS R53 (SV.v s0_) a0] (X := (Nat × Nat × List (ByteArray × SV) × Array MapEntry × Nat × Nat × Array MapEntry × Nat × Nat × List (ByteArray × Option (Nat × SV × Nat × Array MapEntry × Nat)) × Array MapEntry × Nat × SV)) (fun s => .pointer (some ⟨s.1, 0, none⟩)) (fun s => [.box s.1 78 [.map (some s.2.1), .map (some s.2.2.2.2.2.1), .map (some s.2.2.2.2.2.2.2.2.1), s.2.2.2.2.2.2.2.2.2.2.2.2.v], .obj (famO kv9 SV.v (rowE R83) s.2.1 r.1 s.2.2.1 none s.2.2.2.1 s.2.2.2.2.1), .obj (mapO kv9 s.2.2.2.2.2.1 (mpV vv3 r.2.1) s.2.2.2.2.2.2.1 s.2.2.2.2.2.2.2.1), .obj (famO kv9 (vvP Fh106) (entsP Fe106) s.2.2.2.2.2.2.2.2.1 r.2.2.1 s.2.2.2.2.2.2.2.2.2.1 none s.2.2.2.2.2.2.2.2.2.2.1 s.2.2.2.2.2.2.2.2.2.2.2.1), .row R3 (SV.v s.2.2.2.2.2.2.2.2.2.2.2.2) r.2.2.2]) := by
 unfold m_gleeref2_hallAt at hm
 refine ctr_mk (vs := [(0, s0_.v), (1, .int .i64 a1)]) Tryz.func34 rfl Tryz.ntmps34 rfl ⟨rfl, rfl, trivial⟩ (fun w0 A => ?_)
 refine cj_seq ?_
 refine cj_reg ?_
 refine lp rfl (p_as rfl) ?_
 refine lj_seq ?_
 refine cj_seq ?_
 refine cj_reg ?_
 refine r_mkmapF kv9 SV.v (rowE R83) rfl (fun b1 => ?_)
 refine r_mkmap kv9 vv3 rfl (fun b2 => ?_)
 refine r_mkmapF kv9 (vvP Fh106) (entsP Fe106) rfl (fun b3 => ?_)
 refine lp rfl (p_bld [.map (some b1), .map (some b2), .map (some b3), .slice none 0 0] rfl (fun _ => by kernel_rfl)) ?_
 refine r_bx (cs := [.map (some b1), .map (some b2), .map (some b3), .slice none 0 0]) rfl rfl rfl (fun b4 => ?_)
 refine lp rfl (p_as rfl) ?_
 refine lj_seq ?_
 refine cj_seq ?_
 refine cj_seq ?_
 refine cj_reg ?_
 refine lp rfl (p_mv rfl) ?_
 refine lp rfl (p_mv rfl) ?_
 obtain ⟨y5, hy5, hm⟩ := bindS hm
 refine r_call [] cf53 rfl rfl (ok_gleeref2_CountingOf s0_ a0 a1 hy5) rfl rfl (.cons (.ro 4 rfl) .nil) (fun _ => rfl) rfl (fun s6 => ?_)
 refine lp rfl (p_len Tryz.underlying22 rfl (.row 0 rfl)) ?_
 refine lp rfl (p_mv rfl) ?_
 refine lj_seq ?_
 refine cj_nil R3 ?_
 obtain ⟨f14, hf14, hm⟩ := bindS hm
 refine cj_range (γ := (List (ByteArray × Option (Nat × SV × Nat × Array MapEntry × Nat)) × Array MapEntry × Nat × Array MapEntry × Nat × List (ByteArray × SV) × Array MapEntry × Nat × SV)) (m := (y5.length : Int)) hf14 ([], #[], 0, #[], 0, [], #[], 0, nilS) (fun u11 g12 => [(0, s0_.v), (4, .pointer none), (5, .pointer (some ⟨b4, 0, none⟩)), (15, s6.v)]) (fun u11 g12 => Sat w0 (keys ([] : List Ent)) A [.row R3 (SV.v s6) y5, .box b4 78 [.map (some b1), .map (some b2), .map (some b3), g12.2.2.2.2.2.2.2.2.v], .obj (famO kv9 (vvP Fh106) (entsP Fe106) b3 u11.1 g12.1 none g12.2.1 g12.2.2.1), .obj (mapO kv9 b2 (mpV vv3 u11.2.1) g12.2.2.2.1 g12.2.2.2.2.1), .obj (famO kv9 SV.v (rowE R83) b1 u11.2.2.1 g12.2.2.2.2.2.1 none g12.2.2.2.2.2.2.1 g12.2.2.2.2.2.2.2.1), .ro (RdS R53 (SV.v s0_) a0), .row R3 (SV.v g12.2.2.2.2.2.2.2.2) u11.2.2.2]) ⟨rfl, rfl, rfl, rfl, rfl, rfl, trivial⟩ (fun _ h => h.picks [1, 1, 1, 1, 1, 1, 0] rfl) (nat_lt _) (fun _ h => (FactAt.get (F := RdS R3 (SV.v s6) y5) (.row 1 rfl) h).1) (fun _ _ => ⟨rfl, rfl, rfl, rfl⟩) ⟨rfl, rfl, rfl, rfl, rfl⟩ rfl rfl rfl (fun u11 g12 e => ?_) (fun aftk13 i7 x8 u11 g12 k13 hx9 hs J hJk13 hBk13 hX I cnk13 => ?_)
 ·have hm := Flow.fin_b e hm
  refine nj_seq ?_
  refine cj_seq ?_
  refine cj_reg ?_
  refine lp rfl (p_mv rfl) ?_
  refine lp rfl (p_as rfl) ?_
  refine lj_seq ?_
  obtain rfl := Option.some.inj hm
  exact cj_rt (b4, b1, g12.2.2.2.2.2.1, g12.2.2.2.2.2.2.1, g12.2.2.2.2.2.2.2.1, b2, g12.2.2.2.1, g12.2.2.2.2.1, b3, g12.1, g12.2.1, g12.2.2.1, g12.2.2.2.2.2.2.2.2) [1, 3, 2, 1, 2] Tryz.results34 (.tmp rfl .nil) rfl rfl
 ·have hRk13 : ∀ t, k13 = .ret t → some t = some r := fun t e => by rw [hX t e] at hm; exact hm
  have hm := hs
  refine cj_seq ?_
  refine cj_reg ?_
  refine lp rfl (p_idx Tryz.underlying22 ty3 rfl rfl (.row 0 rfl) (getI_nat.trans hx9)) ?_
  refine lp rfl (p_lde (o := 0) ty3 rfl rfl (.row 0 rfl) hx9 rfl) ?_
  refine lp rfl (p_as rfl) ?_
  refine lj_seq ?_
  refine cj_seq ?_
  refine cj_reg ?_
  refine lp rfl (p_mv rfl) ?_
  refine lp rfl (p_mv rfl) ?_
  refine lp rfl (p_mv rfl) ?_
  obtain ⟨e16, he16, hm⟩ := bindS hm
  refine lp rfl (p_idx Tryz.underlying26 ty53 rfl rfl (.ro 5 rfl) he16) ?_
  refine lp rfl (p_lea ty53 rfl (.ro 5 rfl) (getI_spec he16).2) ?_
  obtain ⟨y17, hy17, hm⟩ := bindS hm
  refine r_call [1, 3, 2, 1] cf54 rfl rfl (ok_gleeref2_hall_follow b4 b1 g12.2.2.2.2.2.1 g12.2.2.2.2.2.2.1 g12.2.2.2.2.2.2.2.1 u11.2.2.1 b2 g12.2.2.2.1 g12.2.2.2.2.1 u11.2.1 b3 g12.1 g12.2.1 g12.2.2.1 u11.1 g12.2.2.2.2.2.2.2.2 u11.2.2.2 e16 hy17) rfl rfl (.cons (.row 2 rfl) .nil) (fun _ => rfl) rfl (fun ⟨gz18, gz19, gz20, gz21, gz22, gz23, gz24, gz25⟩ => ?_)
  refine lp rfl (p_not rfl) ?_
  refine lj_seq ?_
  refine cj_if (b := !y17.1) rfl (fun hb => ?_) (fun hb => ?_)
  ·have hm := ifB_t hb hm
   refine cj_reg ?_
   refine lp rfl (p_mv rfl) ?_
   refine lp rfl (p_mv rfl) ?_
   refine lp rfl (p_nc rfl) ?_
   refine lp rfl (p_fab fl78_3 rfl) ?_
   refine lp rfl (p_lbs ty22 rfl (j := 0) rfl rfl) ?_
   refine lp rfl (p_mv rfl) ?_
   refine r_bs R3 [x8] rfl rfl rfl (fun _ => by kernel_rfl) rfl (fun s26 => ?_)
   obtain ⟨q27, hq27, hm⟩ := bindS hm
   refine r_app (k := 7) Tryz.underlying22 ty3 rfl rfl rfl rfl (.row 0 rfl) hq27 rfl (fun s28 => ?_)
   refine lp rfl (p_nc rfl) ?_
   refine lp rfl (p_fab fl78_3 rfl) ?_
   refine r_sb (vs := [s28.v]) (j := 1) ty22 rfl rfl rfl rfl rfl rfl rfl ?_
   refine lj_nil ?_
   refine nj_blk ?_
   exact cnk13 _ _ (y17.2.2.2, y17.2.2.1, y17.2.1, q27) (gz23, gz24, gz25, gz21, gz22, gz18, gz19, gz20, s28) (hJk13 _ (Option.some.inj hm).symm) ⟨rfl, rfl, rfl, rfl, rfl, rfl, trivial⟩ (fun _ h => h.picks [5, 1, 3, 2, 1, 1, 1] rfl)
  ·have hm := ifB_f hb hm
   refine cj_skip ?_
   refine nj_blk ?_
   exact cnk13 _ _ (y17.2.2.2, y17.2.2.1, y17.2.1, u11.2.2.2) (gz23, gz24, gz25, gz21, gz22, gz18, gz19, gz20, g12.2.2.2.2.2.2.2.2) (hJk13 _ (Option.some.inj hm).symm) ⟨rfl, rfl, rfl, rfl, rfl, rfl, trivial⟩ (fun _ h => h.picks [4, 0, 2, 1, 0, 0, 0] rfl)
theorem ok_gleeref2_RefusedActs (s0_ : SV) (a0 : (List TAct)) (a1 : Int) {r : (List Int)} (hm : m_gleeref2_RefusedActs a0 a1 = some r) :
  Ctr Tryz.prog 14 [s0_.v, .int .i64 a1].toArray ([] : List Ent) [RdS R53 (SV.v s0_) a0] (X := SV) (fun s => s.v) (fun s => [.row R3 (SV.v s) r]) := by
 unfold m_gleeref2_RefusedActs at hm
 refine ctr_mk (vs := [(0, s0_.v), (1, .int .i64 a1)]) Tryz.func14 rfl Tryz.ntmps14 rfl ⟨rfl, rfl, trivial⟩ (fun w0 A => ?_)
 refine cj_seq ?_
 refine cj_reg ?_
 refine lp rfl (p_as rfl) ?_
 refine lj_seq ?_
 refine cj_seq ?_
 refine cj_reg ?_
 refine lp rfl (p_mv rfl) ?_
 refine lp rfl (p_mv rfl) ?_
 obtain ⟨y1, hy1, hm⟩ := bindS hm
 refine r_call [] cf34 rfl rfl (ok_gleeref2_hallAt s0_ a0 a1 hy1) rfl rfl (.cons (.ro 0 rfl) .nil) (fun _ => rfl) rfl (fun ⟨b2, b3, gz4, gz5, gz6, b7, gz8, gz9, b10, gz11, gz12, gz13, s14⟩ => ?_)
 refine lp rfl (p_nc rfl) ?_
 refine lp rfl (p_fab fl78_3 rfl) ?_
 refine lp rfl (p_lbs ty22 rfl (j := 0) rfl rfl) ?_
 refine lp rfl (p_as rfl) ?_
 refine lj_seq ?_
 obtain rfl := Option.some.inj hm
 exact cj_rt s14 [4] Tryz.results14 (.tmp rfl .nil) rfl rfl
theorem ok_gleeref2_MembersAt (s0_ : SV) (a0 : (List TAct)) (a1 : Int) {r : (List ByteArray)} (hm : m_gleeref2_MembersAt a0 a1 = some r) :
  Ctr Tryz.prog 15 [s0_.v, .int .i64 a1].toArray ([] : List Ent) [RdS R53 (SV.v s0_) a0] (X := SV) (fun s => s.v) (fun s => [.row R9 (SV.v s) r]) := by
 unfold m_gleeref2_MembersAt at hm
 refine ctr_mk (vs := [(0, s0_.v), (1, .int .i64 a1)]) Tryz.func15 rfl Tryz.ntmps15 rfl ⟨rfl, rfl, trivial⟩ (fun w0 A => ?_)
 refine cj_seq ?_
 refine cj_reg ?_
 refine lp rfl (p_as rfl) ?_
 refine lj_seq ?_
 refine cj_seq ?_
 refine cj_reg ?_
 refine lp rfl (p_mv rfl) ?_
 refine lp rfl (p_mv rfl) ?_
 obtain ⟨y1, hy1, hm⟩ := bindS hm
 refine r_call [] cf34 rfl rfl (ok_gleeref2_hallAt s0_ a0 a1 hy1) rfl rfl (.cons (.ro 0 rfl) .nil) (fun _ => rfl) rfl (fun ⟨b2, b3, gz4, gz5, gz6, b7, gz8, gz9, b10, gz11, gz12, gz13, s14⟩ => ?_)
 obtain ⟨y15, hy15, hm⟩ := bindS hm
 refine r_call [0] cf35 rfl rfl (ok_gleeref2_hall_members b2 b3 gz4 gz5 gz6 y1.1 b7 gz8 gz9 y1.2.1 b10 gz11 gz12 gz13 y1.2.2.1 s14 y1.2.2.2 hy15) rfl rfl (.cons (.fam 0 rfl) (.cons (.map 1 rfl) (.cons (.fam 2 rfl) (.cons (.row 3 rfl) .nil)))) (fun _ => rfl) rfl (fun s16 => ?_)
 refine lp rfl (p_as rfl) ?_
 refine lj_seq ?_
 obtain rfl := Option.some.inj hm
 exact cj_rt s16 [0] Tryz.results15 (.tmp rfl .nil) rfl rfl
theorem ok_gleeref2_SinceOf (s0_ : SV) (a0 : (List TAct)) (a1 : ByteArray) (a2 : Int) {r : Int × Bool} (hm : m_gleeref2_SinceOf a0 a1 a2 = some r) :
  Ctr Tryz.prog 16 [s0_.v, .string a1, .int .i64 a2].toArray ([] : List Ent) [RdS R53 (SV.v s0_) a0] (X := Unit) (fun _ => .tuple [.int .i64 r.1, .bool r.2].toArray) (fun _ => []) := by
 unfold m_gleeref2_SinceOf at hm
 refine ctr_mk (vs := [(0, s0_.v), (1, .string a1), (2, .int .i64 a2)]) Tryz.func16 rfl Tryz.ntmps16 rfl ⟨rfl, rfl, rfl, trivial⟩ (fun w0 A => ?_)
 refine cj_seq ?_
 refine cj_reg ?_
 refine lp rfl (p_as rfl) ?_
 refine lp rfl (p_as rfl) ?_
 refine lj_seq ?_
 refine cj_seq ?_
 refine cj_reg ?_
 refine lp rfl (p_mv rfl) ?_
 refine lp rfl (p_mv rfl) ?_
 obtain ⟨y1, hy1, hm⟩ := bindS hm
 refine r_call [] cf34 rfl rfl (ok_gleeref2_hallAt s0_ a0 a2 hy1) rfl rfl (.cons (.ro 0 rfl) .nil) (fun _ => rfl) rfl (fun ⟨b2, b3, gz4, gz5, gz6, b7, gz8, gz9, b10, gz11, gz12, gz13, s14⟩ => ?_)
 refine lp rfl (p_as rfl) ?_
 refine lj_seq ?_
 refine cj_seq ?_
 refine cj_seq ?_
 refine cj_reg ?_
 refine lp rfl (p_mv rfl) ?_
 refine lp rfl (p_mv rfl) ?_
 obtain ⟨y15, hy15, hm⟩ := bindS hm
 refine r_call [0] cf36 rfl rfl (ok_gleeref2_hall_member b2 b3 gz4 gz5 gz6 y1.1 b7 gz8 gz9 y1.2.1 b10 gz11 gz12 gz13 y1.2.2.1 s14 y1.2.2.2 a1 hy15) rfl rfl (.cons (.fam 0 rfl) (.cons (.map 1 rfl) (.cons (.fam 2 rfl) (.cons (.row 3 rfl) .nil)))) (fun _ => rfl) rfl (fun _ => ?_)
 refine lp rfl (p_not rfl) ?_
 refine lj_seq ?_
 refine cj_if (b := !y15) rfl (fun hb => ?_) (fun hb => ?_)
 ·have hm := ifB_t hb hm
  refine cj_seq ?_
  refine cj_reg ?_
  refine lp rfl (p_as rfl) ?_
  refine lp rfl (p_as rfl) ?_
  refine lj_seq ?_
  obtain rfl := Option.some.inj hm
  exact cj_rt () [] Tryz.results16 (.tmp rfl (.tmp rfl .nil)) rfl rfl
 ·have hm := ifB_f hb hm
  refine cj_skip ?_
  refine nj_seq ?_
  refine cj_seq ?_
  refine cj_reg ?_
  refine lp rfl (p_mv rfl) ?_
  refine lp rfl (p_nc rfl) ?_
  refine lp rfl (p_fab fl78_0 rfl) ?_
  refine lp rfl (p_lbs ty75 rfl (j := 0) rfl rfl) ?_
  refine lp rfl (p_mv rfl) ?_
  refine lp rfl (p_lkm (vv := SV.v) (k := a1) (z := nilS) Tryz.underlying75 (keyF9) (fun _ => by kernel_rfl) (.imp (.fam 1 rfl) (fun _ h => h.map)) rfl rfl) ?_
  refine lp rfl (p_as rfl) ?_
  refine lj_seq ?_
  refine cj_seq ?_
  refine cj_reg ?_
  refine lp rfl (p_mv rfl) ?_
  refine lp rfl (p_mv rfl) ?_
  refine lp rfl (p_len Tryz.underlying81 rfl (.imp (.fam 1 rfl) (fun _ h => h.look a1))) ?_
  refine lp rfl (p_sub rfl rfl) ?_
  obtain ⟨e16, he16, hm⟩ := bindS hm
  refine lp rfl (p_idx Tryz.underlying81 ty83 rfl rfl (.imp (.fam 1 rfl) (fun _ h => h.look a1)) he16) ?_
  refine lp rfl (p_fae fl83_0 rfl (.imp (.fam 1 rfl) (fun _ h => h.look a1)) (getI_spec he16).2) ?_
  refine lp rfl (p_lde (o := 0) ty3 rfl rfl (.imp (.fam 1 rfl) (fun _ h => h.look a1)) (getI_spec he16).2 rfl) ?_
  refine lp rfl (p_as rfl) ?_
  refine lp rfl (p_as rfl) ?_
  refine lj_seq ?_
  obtain rfl := Option.some.inj hm
  exact cj_rt () [] Tryz.results16 (.tmp rfl (.tmp rfl .nil)) rfl rfl
theorem ok_slices_Equal_int_int (s0_ : SV) (a0 : (List Int)) (s1_ : SV) (a1 : (List Int)) {r : Bool} (hm : m_slices_Equal_int_int a0 a1 = some r) :
  Ctr Tryz.prog 17 [s0_.v, s1_.v].toArray ([] : List Ent) [RdS R3 (SV.v s0_) a0, RdS R3 (SV.v s1_) a1] (X := Unit) (fun _ => .bool r) (fun _ => []) := by
 unfold m_slices_Equal_int_int at hm
 refine ctr_mk (vs := [(0, s0_.v), (1, s1_.v)]) Tryz.func17 rfl Tryz.ntmps17 rfl ⟨rfl, rfl, trivial⟩ (fun w0 A => ?_)
 refine cj_seq ?_
 refine cj_reg ?_
 refine lp rfl (p_as rfl) ?_
 refine lj_seq ?_
 refine cj_seq ?_
 refine cj_seq ?_
 refine cj_reg ?_
 refine lp rfl (p_mv rfl) ?_
 refine lp rfl (p_len Tryz.underlying22 rfl (.ro 0 rfl)) ?_
 refine lp rfl (p_mv rfl) ?_
 refine lp rfl (p_len Tryz.underlying22 rfl (.ro 1 rfl)) ?_
 refine lp rfl (p_neq rfl rfl) ?_
 refine lj_seq ?_
 refine cj_if (b := (a0.length : Int) != (a1.length : Int)) rfl (fun hb => ?_) (fun hb => ?_)
 ·have hm := ifB_t hb hm
  refine cj_seq ?_
  refine cj_reg ?_
  refine lp rfl (p_as rfl) ?_
  refine lj_seq ?_
  obtain rfl := Option.some.inj hm
  exact cj_rt () [] Tryz.results17 (.tmp rfl .nil) rfl rfl
 ·have hm := ifB_f hb hm
  refine cj_skip ?_
  refine nj_seq ?_
  refine cj_seq ?_
  refine cj_seq ?_
  refine cj_reg ?_
  refine lp rfl (p_mv rfl) ?_
  refine lp rfl (p_len Tryz.underlying22 rfl (.ro 0 rfl)) ?_
  refine lp rfl (p_mv rfl) ?_
  refine lj_seq ?_
  obtain ⟨f7, hf7, hm⟩ := bindS hm
  refine cj_range (γ := Unit) (m := (a0.length : Int)) hf7 () (fun u4 g5 => [(0, s0_.v), (1, s1_.v), (4, .bool false)]) (fun u4 g5 => Sat w0 (keys ([] : List Ent)) A [.ro (RdS R3 (SV.v s0_) a0), .ro (RdS R3 (SV.v s1_) a1)]) ⟨rfl, rfl, rfl, rfl, rfl, trivial⟩ (fun _ h => h.picks [0, 0] rfl) (nat_lt _) (fun _ h => (FactAt.get (F := RdS R3 (SV.v s0_) a0) (.ro 0 rfl) h).1) (fun _ _ => ⟨rfl, rfl, rfl, rfl⟩) ⟨rfl, rfl, rfl, rfl, rfl⟩ rfl rfl rfl (fun u4 g5 e => ?_) (fun aftk6 i1 x2 u4 g5 k6 hx3 hs J hJk6 hBk6 hX I cnk6 => ?_)
  ·have hm := Flow.fin_b e hm
   refine nj_seq ?_
   refine cj_seq ?_
   refine cj_reg ?_
   refine lp rfl (p_as rfl) ?_
   refine lj_seq ?_
   obtain rfl := Option.some.inj hm
   exact cj_rt () [] Tryz.results17 (.tmp rfl .nil) rfl rfl
  ·have hRk6 : ∀ t, k6 = .ret t → some t = some r := fun t e => by rw [hX t e] at hm; exact hm
   have hm := hs
   refine cj_seq ?_
   refine cj_reg ?_
   refine lp rfl (p_mv rfl) ?_
   refine lp rfl (p_as rfl) ?_
   refine lj_seq ?_
   refine cj_seq ?_
   refine cj_quiet (by kernel_rfl) (by kernel_rfl) ?_
   refine q_p rfl (p_mv rfl) ?_
   refine q_p rfl (p_mv rfl) ?_
   refine q_p rfl (p_idx Tryz.underlying22 ty3 rfl rfl (.ro 0 rfl) (getI_nat.trans hx3)) ?_
   refine q_p rfl (p_lde (o := 0) ty3 rfl rfl (.ro 0 rfl) hx3 rfl) ?_
   refine q_p rfl (p_mv rfl) ?_
   refine q_p rfl (p_mv rfl) ?_
   obtain ⟨e8, he8, hm⟩ := bindS hm
   refine q_p rfl (p_idx Tryz.underlying22 ty3 rfl rfl (.ro 1 rfl) he8) ?_
   refine q_p rfl (p_lde (o := 0) ty3 rfl rfl (.ro 1 rfl) (getI_spec he8).2 rfl) ?_
   refine q_p rfl (p_neq rfl rfl) ?_
   refine q_nil ?_
   refine nj_seq ?_
   refine cj_if (b := x2 != e8) rfl (fun hb => ?_) (fun hb => ?_)
   ·have hm := ifB_t hb hm
    refine cj_seq ?_
    refine cj_reg ?_
    refine lp rfl (p_as rfl) ?_
    refine lj_seq ?_
    have hm := hRk6 _ (Option.some.inj hm).symm
    obtain rfl := Option.some.inj hm
    exact cj_rt () [] Tryz.results17 (.tmp rfl .nil) rfl rfl
   ·have hm := ifB_f hb hm
    refine cj_skip ?_
    refine nj_blk ?_
    exact cnk6 _ _ () () (hJk6 _ (Option.some.inj hm).symm) ⟨rfl, rfl, rfl, rfl, rfl, trivial⟩ (fun _ h => h.picks [0, 0] rfl)
end Go.Proofs.YtnhgkhhceokibaaGreatDoor
