/- The walks. Written by program. -/
import Derived.Test.YtdeoejkgmeemaahGreatDoorW1
namespace Go.Proofs.YtdeoejkgmeemaahGreatDoor
open Go Go.J Go.G
set_option maxRecDepth 100000
set_option linter.unusedVariables false
set_option linter.unusedSimpArgs false
theorem ok_club_books_act (b0_ : Nat) (a0_0 : Int) (b0_1_ : Nat) (Z0_1_ : List (ByteArray × SV)) (es0_1_ : Array MapEntry) (cl0_1_ : Nat) (a0_1 : (List (ByteArray × (List Tclub_stay)))) (b0_2_ : Nat) (es0_2_ : Array MapEntry) (cl0_2_ : Nat) (a0_2 : (List (ByteArray × Int))) (b0_3_ : Nat) (es0_3_ : Array MapEntry) (cl0_3_ : Nat) (a0_3 : (List (ByteArray × Unit))) (s0_4_ : SV) (a0_4 : (List Int)) (a1 : TAct) {r : (List (ByteArray × (List Tclub_stay))) × (List (ByteArray × Int))} (hm : m_club_books_act a0_0 a0_1 a0_2 a0_3 a0_4 a1 = some r) :
    Ctr Tryz.prog 114 [.pointer (some ⟨b0_, 0, none⟩), .agg (R71.enc a1).toArray].toArray [.box b0_ 141 [.int .i64 a0_0, .map (some b0_1_), .map (some b0_2_), .map (some b0_3_), s0_4_.v], .obj (famO kv9 SV.v (rowE R172) b0_1_ a0_1 Z0_1_ none es0_1_ cl0_1_), .obj (mapO kv9 b0_2_ (mpV vv3 a0_2) es0_2_ cl0_2_), .obj (mapO kv9 b0_3_ (mpV vv215 a0_3) es0_3_ cl0_3_)] [RdS R3 (SV.v s0_4_) a0_4] (X := (List (ByteArray × SV) × Array MapEntry × Nat × Array MapEntry × Nat)) (fun s => .tuple [].toArray) (fun s => [.box b0_ 141 [.int .i64 a0_0, .map (some b0_1_), .map (some b0_2_), .map (some b0_3_), s0_4_.v], .obj (famO kv9 SV.v (rowE R172) b0_1_ r.1 s.1 none s.2.1 s.2.2.1), .obj (mapO kv9 b0_2_ (mpV vv3 r.2) s.2.2.2.1 s.2.2.2.2), .obj (mapO kv9 b0_3_ (mpV vv215 a0_3) es0_3_ cl0_3_)]) := by
  unfold m_club_books_act at hm
  refine ctr_mk (vs := [(0, .pointer (some ⟨b0_, 0, none⟩)), (1, .agg (R71.enc a1).toArray)]) Tryz.func114 rfl Tryz.ntmps114 rfl ⟨rfl, rfl, trivial⟩ (fun w0 A => ?_)
  refine cj_seq ?_
  refine cj_reg ?_
  refine r_bx (cs := [.string a1.Site, .int .i64 a1.No, .int .i64 a1.At, .int .i64 a1.Kind, .string a1.Who, .string a1.Motion, .int .i64 a1.Cents, .bool a1.Yes, .string a1.Of, .int .i64 a1.Other]) rfl rfl rfl (fun b1 => ?_)
  refine lj_seq ?_
  refine cj_seq ?_
  refine cj_reg ?_
  refine lp rfl (p_fab fl71_3 rfl) ?_
  refine lp rfl (p_lbs ty3 rfl (j := 0) rfl rfl) ?_
  refine lj_seq ?_
  refine cj_blk ?_
  refine cj_seq ?_
  refine cj_reg ?_
  refine lp rfl (p_eql rfl rfl) ?_
  refine lp rfl (p_as rfl) ?_
  refine lj_seq ?_
  refine cj_if (b := a1.Kind == 1) rfl (fun hb => ?_) (fun hb => ?_)
  · have hm := ifB_t hb hm
    obtain ⟨q4, hq4, hm⟩ := bindS hm
    refine cj_anyT [0, 1, 2, 3, 4, 5, 6, 7, 8, 9, 10, 11, 12, 13, 14, 15, 16, 17] [19, 20] (Sat w0 (keys [.box b0_ 141 [.int .i64 a0_0, .map (some b0_1_), .map (some b0_2_), .map (some b0_3_), s0_4_.v], .obj (famO kv9 SV.v (rowE R172) b0_1_ a0_1 Z0_1_ none es0_1_ cl0_1_), .obj (mapO kv9 b0_2_ (mpV vv3 a0_2) es0_2_ cl0_2_), .obj (mapO kv9 b0_3_ (mpV vv215 a0_3) es0_3_ cl0_3_)]) A [.box b1 71 [.string a1.Site, .int .i64 a1.No, .int .i64 a1.At, .int .i64 a1.Kind, .string a1.Who, .string a1.Motion, .int .i64 a1.Cents, .bool a1.Yes, .string a1.Of, .int .i64 a1.Other], .box b0_ 141 [.int .i64 a0_0, .map (some b0_1_), .map (some b0_2_), .map (some b0_3_), s0_4_.v], .obj (famO kv9 SV.v (rowE R172) b0_1_ a0_1 Z0_1_ none es0_1_ cl0_1_), .obj (mapO kv9 b0_2_ (mpV vv3 a0_2) es0_2_ cl0_2_), .obj (mapO kv9 b0_3_ (mpV vv215 a0_3) es0_3_ cl0_3_), .ro (RdS R3 (SV.v s0_4_) a0_4)]) (Sat w0 (keys [.box b0_ 141 [.int .i64 a0_0, .map (some b0_1_), .map (some b0_2_), .map (some b0_3_), s0_4_.v], .obj (famO kv9 SV.v (rowE R172) b0_1_ a0_1 Z0_1_ none es0_1_ cl0_1_), .obj (mapO kv9 b0_2_ (mpV vv3 a0_2) es0_2_ cl0_2_), .obj (mapO kv9 b0_3_ (mpV vv215 a0_3) es0_3_ cl0_3_)]) A [.box b1 71 [.string a1.Site, .int .i64 a1.No, .int .i64 a1.At, .int .i64 a1.Kind, .string a1.Who, .string a1.Motion, .int .i64 a1.Cents, .bool a1.Yes, .string a1.Of, .int .i64 a1.Other], .box b0_ 141 [.int .i64 a0_0, .map (some b0_1_), .map (some b0_2_), .map (some b0_3_), s0_4_.v], .obj (mapO kv9 b0_2_ (mpV vv3 a0_2) es0_2_ cl0_2_), .obj (mapO kv9 b0_3_ (mpV vv215 a0_3) es0_3_ cl0_3_), .ro (RdS R3 (SV.v s0_4_) a0_4)]) (by kernel_rfl) ?_
    refine at_take2 0 rfl (by kernel_rfl) (by kernel_rfl) (by kernel_rfl) (fun _ h => h.picks [0, 0, 1, 1, 1] rfl) rfl rfl (p_mv rfl) (fun _ h => h.picks [0, 0, 1, 1, 1] rfl) ?_
    refine at_take2 1 rfl (by kernel_rfl) (by kernel_rfl) (by kernel_rfl) (fun _ h => h.picks [0, 0, 1, 1, 1] rfl) rfl rfl (p_nc rfl) (fun _ h => h.picks [0, 0, 1, 1, 1] rfl) ?_
    refine at_take2 2 rfl (by kernel_rfl) (by kernel_rfl) (by kernel_rfl) (fun _ h => h.picks [0, 0, 1, 1, 1] rfl) rfl rfl (p_fab fl141_1 rfl) (fun _ h => h.picks [0, 0, 1, 1, 1] rfl) ?_
    refine at_take2 3 rfl (by kernel_rfl) (by kernel_rfl) (by kernel_rfl) (fun _ h => h.picks [0, 0, 1, 1, 1] rfl) rfl rfl (p_lbs ty137 rfl (j := 1) rfl rfl) (fun _ h => h.picks [0, 0, 1, 1, 1] rfl) ?_
    refine at_take2 4 rfl (by kernel_rfl) (by kernel_rfl) (by kernel_rfl) (fun _ h => h.picks [0, 0, 1, 1, 1] rfl) rfl rfl (p_fab fl71_4 rfl) (fun _ h => h.picks [0, 0, 1, 1, 1] rfl) ?_
    refine at_take2 5 rfl (by kernel_rfl) (by kernel_rfl) (by kernel_rfl) (fun _ h => h.picks [0, 0, 1, 1, 1] rfl) rfl rfl (p_lbs ty9 rfl (j := 0) rfl rfl) (fun _ h => h.picks [0, 0, 1, 1, 1] rfl) ?_
    refine at_take2 6 rfl (by kernel_rfl) (by kernel_rfl) (by kernel_rfl) (fun _ h => h.picks [0, 0, 1, 1, 1] rfl) rfl rfl (p_mv rfl) (fun _ h => h.picks [0, 0, 1, 1, 1] rfl) ?_
    refine at_take2 7 rfl (by kernel_rfl) (by kernel_rfl) (by kernel_rfl) (fun _ h => h.picks [0, 0, 1, 1, 1] rfl) rfl rfl (p_nc rfl) (fun _ h => h.picks [0, 0, 1, 1, 1] rfl) ?_
    refine at_take2 8 rfl (by kernel_rfl) (by kernel_rfl) (by kernel_rfl) (fun _ h => h.picks [0, 0, 1, 1, 1] rfl) rfl rfl (p_fab fl141_1 rfl) (fun _ h => h.picks [0, 0, 1, 1, 1] rfl) ?_
    refine at_take2 9 rfl (by kernel_rfl) (by kernel_rfl) (by kernel_rfl) (fun _ h => h.picks [0, 0, 1, 1, 1] rfl) rfl rfl (p_lbs ty137 rfl (j := 1) rfl rfl) (fun _ h => h.picks [0, 0, 1, 1, 1] rfl) ?_
    refine at_take2 10 rfl (by kernel_rfl) (by kernel_rfl) (by kernel_rfl) (fun _ h => h.picks [0, 0, 1, 1, 1] rfl) rfl rfl (p_fab fl71_4 rfl) (fun _ h => h.picks [0, 0, 1, 1, 1] rfl) ?_
    refine at_take2 11 rfl (by kernel_rfl) (by kernel_rfl) (by kernel_rfl) (fun _ h => h.picks [0, 0, 1, 1, 1] rfl) rfl rfl (p_lbs ty9 rfl (j := 0) rfl rfl) (fun _ h => h.picks [0, 0, 1, 1, 1] rfl) ?_
    refine at_take1 12 rfl (by kernel_rfl) (by kernel_rfl) (by kernel_rfl) (by kernel_rfl) rfl rfl (p_lkm (vv := SV.v) (k := a1.Who) (z := nilS) Tryz.underlying137 (keyF9) (fun _ => by kernel_rfl) (.imp (.fam 2 rfl) (fun _ h => h.map)) rfl rfl) (fun _ h => h.picks [0, 0, 0, 0, 0, 0] rfl) ?_
    refine at_take2 13 rfl (by kernel_rfl) (by kernel_rfl) (by kernel_rfl) (fun _ h => h.picks [0, 0, 1, 1, 1] rfl) rfl rfl (p_fab fl71_2 rfl) (fun _ h => h.picks [0, 0, 1, 1, 1] rfl) ?_
    refine at_take2 14 rfl (by kernel_rfl) (by kernel_rfl) (by kernel_rfl) (fun _ h => h.picks [0, 0, 1, 1, 1] rfl) rfl rfl (p_lbs ty3 rfl (j := 0) rfl rfl) (fun _ h => h.picks [0, 0, 1, 1, 1] rfl) ?_
    refine at_take2 15 rfl (by kernel_rfl) (by kernel_rfl) (by kernel_rfl) (fun _ h => h.picks [0, 0, 1, 1, 1] rfl) rfl rfl (p_fab fl71_6 rfl) (fun _ h => h.picks [0, 0, 1, 1, 1] rfl) ?_
    refine at_take2 16 rfl (by kernel_rfl) (by kernel_rfl) (by kernel_rfl) (fun _ h => h.picks [0, 0, 1, 1, 1] rfl) rfl rfl (p_lbs ty3 rfl (j := 0) rfl rfl) (fun _ h => h.picks [0, 0, 1, 1, 1] rfl) ?_
    refine at_take2 17 rfl (by kernel_rfl) (by kernel_rfl) (by kernel_rfl) (fun _ h => h.picks [0, 0, 1, 1, 1] rfl) rfl rfl (p_bld [.int .i64 a1.At, .int .i64 (-1), .int .i64 a1.Cents] rfl (fun _ => by kernel_rfl)) (fun _ h => h.picks [0, 0, 1, 1, 1] rfl) ?_
    refine at_each (rs := [18]) (by kernel_rfl) (by decide) ?_
    refine (.cons rfl (fun I cnI => ?_) .nil)
    · refine r_bs R172 [(Tclub_stay.mk a1.At (-1) a1.Cents)] rfl rfl rfl (fun _ => by kernel_rfl) rfl (fun s8 => ?_)
      refine lj_nil ?_
      refine cnI _ _ (sof1 rfl rfl (fun _ h => h.picks [1, 1, 1, 1, 1, 1] rfl)) ?_
      refine at_each (rs := [19]) (by kernel_rfl) (by decide) ?_
      refine (.cons rfl (fun I cnI => ?_) .nil)
      · refine LJ.sat (fun _ h => h.takeR 3 rfl a1.Who) ?_
        refine r_app (k := 0) Tryz.underlying138 ty172 rfl rfl rfl rfl (.row 2 rfl) hq4 rfl (fun s10 => ?_)
        refine lj_nil ?_
        refine cnI _ _ (sof2 rfl rfl (fun _ h => h.picks [3, 3, 3, 3, 3] rfl)) ?_
        refine at_each (rs := [20]) (by kernel_rfl) (by decide) ?_
        refine (.cons rfl (fun I cnI => ?_) .nil)
        · refine r_mpuF (x1 := q4) (g1 := s10) (k := a1.Who) [1, 0] Tryz.underlying137 keyF9 rfl (.inr rfl) rfl rfl rfl (fun es11 cl12 => ?_)
          refine lj_nil ?_
          refine cnI _ _ (sof2 rfl rfl (fun _ h => h.picks [2, 2, 2, 2, 2] rfl)) ?_
          refine at_done (by kernel_rfl) ?_
          refine nj_blk ?_
          obtain rfl := Option.some.inj hm
          exact nj_rt ((putM Z0_1_ a1.Who s10), es11, cl12, es0_2_, cl0_2_) [3, 0, 2, 2] Tryz.results114 .nil rfl rfl
  · have hm := ifB_f hb hm
    refine cj_seq ?_
    refine cj_reg ?_
    refine lp rfl (p_eql rfl rfl) ?_
    refine lp rfl (p_as rfl) ?_
    refine lj_seq ?_
    refine cj_if (b := a1.Kind == 2) rfl (fun hb => ?_) (fun hb => ?_)
    · have hm := ifB_t hb hm
      refine cj_seq ?_
      refine cj_quiet (by kernel_rfl) (by kernel_rfl) ?_
      refine q_p rfl (p_mv rfl) ?_
      refine q_p rfl (p_nc rfl) ?_
      refine q_p rfl (p_fab fl141_1 rfl) ?_
      refine q_p rfl (p_lbs ty137 rfl (j := 1) rfl rfl) ?_
      refine q_p rfl (p_fab fl71_4 rfl) ?_
      refine q_p rfl (p_lbs ty9 rfl (j := 0) rfl rfl) ?_
      refine q_p rfl (p_lkm (vv := SV.v) (k := a1.Who) (z := nilS) Tryz.underlying137 (keyF9) (fun _ => by kernel_rfl) (.imp (.fam 2 rfl) (fun _ h => h.map)) rfl rfl) ?_
      refine q_p rfl (p_as rfl) ?_
      refine q_nil ?_
      refine nj_seq ?_
      refine cj_reg ?_
      refine lp rfl (p_mv rfl) ?_
      refine lp rfl (p_mv rfl) ?_
      refine lp rfl (p_len Tryz.underlying138 rfl (.imp (.fam 2 rfl) (fun _ h => h.look a1.Who))) ?_
      refine lp rfl (p_sub rfl rfl) ?_
      refine lp rfl (p_fab fl71_2 rfl) ?_
      refine lp rfl (p_lbs ty3 rfl (j := 0) rfl rfl) ?_
      obtain ⟨e13, he13, hm⟩ := bindS hm
      refine lp rfl (p_idx Tryz.underlying138 ty172 rfl rfl (.imp (.fam 2 rfl) (fun _ h => h.look a1.Who)) he13) ?_
      refine lp rfl (p_fae fl172_1 rfl (.imp (.fam 2 rfl) (fun _ h => h.look a1.Who)) (getI_spec he13).2) ?_
      refine LJ.sat (fun _ h => h.takeR 2 rfl a1.Who) ?_
      refine r_ste (k := 0) (o := 1) (vs := [.int .i64 a1.At]) ty3 rfl rfl rfl rfl rfl rfl rfl (getI_spec he13).2 (Tclub_stay.mk e13.since a1.At e13.cents) rfl rfl ?_
      refine LJ.sat (fun _ h => h.giveR [1, 0] rfl) ?_
      refine lj_nil ?_
      refine nj_blk ?_
      obtain rfl := Option.some.inj hm
      exact nj_rt (Z0_1_, es0_1_, cl0_1_, es0_2_, cl0_2_) [2, 0, 1, 1] Tryz.results114 .nil rfl rfl
    · have hm := ifB_f hb hm
      refine cj_seq ?_
      refine cj_reg ?_
      refine lp rfl (p_eql rfl rfl) ?_
      refine lp rfl (p_as rfl) ?_
      refine lj_seq ?_
      refine cj_if (b := a1.Kind == 3) rfl (fun hb => ?_) (fun hb => ?_)
      · have hm := ifB_t hb hm
        refine cj_tail 10 (by kernel_rfl) (by kernel_rfl) ?_
        refine s_p rfl (p_mv rfl) ?_
        refine s_p rfl (p_nc rfl) ?_
        refine s_p rfl (p_fab fl141_2 rfl) ?_
        refine s_p rfl (p_lbs ty128 rfl (j := 1) rfl rfl) ?_
        refine s_p rfl (p_fab fl71_4 rfl) ?_
        refine s_p rfl (p_lbs ty9 rfl (j := 0) rfl rfl) ?_
        refine s_p rfl (p_lkm (vv := vv3) (k := a1.Who) (z := 0) Tryz.underlying128 (keyF9) (fun _ => by kernel_rfl) (.map 3 rfl) rfl rfl) ?_
        refine s_p rfl (p_fab fl71_6 rfl) ?_
        refine s_p rfl (p_lbs ty3 rfl (j := 0) rfl rfl) ?_
        refine s_p rfl (p_add rfl rfl) ?_
        refine s_nil ?_
        refine r_mpu (j := 3) (vv := vv3) (k := a1.Who) (v := (w64 (((lkM a0_2 a1.Who).getD 0) + a1.Cents))) Tryz.underlying128 keyF9 rfl rfl rfl rfl (fun es15 cl16 => ?_)
        refine lj_nil ?_
        refine nj_blk ?_
        obtain rfl := Option.some.inj hm
        exact nj_rt (Z0_1_, es0_1_, cl0_1_, es15, cl16) [1, 1, 1, 1] Tryz.results114 .nil rfl rfl
      · have hm := ifB_f hb hm
        refine cj_seq ?_
        refine cj_reg ?_
        refine lp rfl (p_eql rfl rfl) ?_
        refine lp rfl (p_as rfl) ?_
        refine lj_seq ?_
        refine cj_if (b := a1.Kind == 4) rfl (fun hb => ?_) (fun hb => ?_)
        · have hm := ifB_t hb hm
          cases hm
        · have hm := ifB_f hb hm
          refine cj_seq ?_
          refine cj_reg ?_
          refine lp rfl (p_eql rfl rfl) ?_
          refine lp rfl (p_as rfl) ?_
          refine lj_seq ?_
          refine cj_if (b := a1.Kind == 5) rfl (fun hb => ?_) (fun hb => ?_)
          · have hm := ifB_t hb hm
            refine cj_tail 14 (by kernel_rfl) (by kernel_rfl) ?_
            refine s_p rfl (p_mv rfl) ?_
            refine s_p rfl (p_nc rfl) ?_
            refine s_p rfl (p_fab fl141_3 rfl) ?_
            refine s_p rfl (p_lbs ty139 rfl (j := 1) rfl rfl) ?_
            refine s_p rfl (p_fab fl71_5 rfl) ?_
            refine s_p rfl (p_lbs ty9 rfl (j := 0) rfl rfl) ?_
            refine s_p rfl (p_lkm (vv := vv215) (k := a1.Motion) (z := ()) Tryz.underlying139 (keyF9) (fun _ => by kernel_rfl) (.map 4 rfl) rfl rfl) ?_
            cases hm
          · have hm := ifB_f hb hm
            refine cj_seq ?_
            refine cj_reg ?_
            refine lp rfl (p_eql rfl rfl) ?_
            refine lp rfl (p_as rfl) ?_
            refine lj_seq ?_
            refine cj_if (b := a1.Kind == 6) rfl (fun hb => ?_) (fun hb => ?_)
            · have hm := ifB_t hb hm
              refine cj_seq ?_
              refine cj_quiet (by kernel_rfl) (by kernel_rfl) ?_
              refine q_p rfl (p_mv rfl) ?_
              refine q_p rfl (p_nc rfl) ?_
              refine q_p rfl (p_fab fl141_3 rfl) ?_
              refine q_p rfl (p_lbs ty139 rfl (j := 1) rfl rfl) ?_
              refine q_p rfl (p_fab fl71_5 rfl) ?_
              refine q_p rfl (p_lbs ty9 rfl (j := 0) rfl rfl) ?_
              refine q_p rfl (p_lkm (vv := vv215) (k := a1.Motion) (z := ()) Tryz.underlying139 (keyF9) (fun _ => by kernel_rfl) (.map 4 rfl) rfl rfl) ?_
              refine q_p rfl (p_as rfl) ?_
              refine q_nil ?_
              refine nj_seq ?_
              refine cj_reg ?_
              refine lp rfl (p_mv rfl) ?_
              refine lp rfl (p_mv rfl) ?_
              refine lp rfl (p_mv rfl) ?_
              obtain ⟨y19, hy19, hm⟩ := bindS hm
              refine r_call [1] cf57 rfl rfl (ok_club_books_members b0_ a0_0 b0_1_ Z0_1_ es0_1_ cl0_1_ a0_1 b0_2_ es0_2_ cl0_2_ a0_2 b0_3_ es0_3_ cl0_3_ a0_3 s0_4_ a0_4 hy19) rfl rfl (.cons (.fam 1 rfl) (.cons (.map 2 rfl) (.cons (.map 3 rfl) (.cons (.ro 4 rfl) .nil)))) (fun _ => rfl) rfl (fun s20 => ?_)
              cases hm
            · have hm := ifB_f hb hm
              refine cj_skip ?_
              refine nj_blk ?_
              obtain rfl := Option.some.inj hm
              exact nj_rt (Z0_1_, es0_1_, cl0_1_, es0_2_, cl0_2_) [1, 1, 1, 1] Tryz.results114 .nil rfl rfl
theorem ok_club_booksAt (s0_ : SV) (a0 : (List TAct)) (a1 : Int) {r : (Int × (List (ByteArray × (List Tclub_stay))) × (List (ByteArray × Int)) × (List (ByteArray × Unit)) × (List Int))} (hm : m_club_booksAt a0 a1 = some r) :
    Ctr Tryz.prog 81 [s0_.v, .int .i64 a1].toArray ([] : List Ent) [RdS R71 (SV.v s0_) a0] (X := (Nat × Nat × List (ByteArray × SV) × Array MapEntry × Nat × Nat × Array MapEntry × Nat × Nat × Array MapEntry × Nat × SV)) (fun s => .pointer (some ⟨s.1, 0, none⟩)) (fun s => [.box s.1 141 [.int .i64 r.1, .map (some s.2.1), .map (some s.2.2.2.2.2.1), .map (some s.2.2.2.2.2.2.2.2.1), s.2.2.2.2.2.2.2.2.2.2.2.v], .obj (famO kv9 SV.v (rowE R172) s.2.1 r.2.1 s.2.2.1 none s.2.2.2.1 s.2.2.2.2.1), .obj (mapO kv9 s.2.2.2.2.2.1 (mpV vv3 r.2.2.1) s.2.2.2.2.2.2.1 s.2.2.2.2.2.2.2.1), .obj (mapO kv9 s.2.2.2.2.2.2.2.2.1 (mpV vv215 r.2.2.2.1) s.2.2.2.2.2.2.2.2.2.1 s.2.2.2.2.2.2.2.2.2.2.1), .row R3 (SV.v s.2.2.2.2.2.2.2.2.2.2.2) r.2.2.2.2]) := by
  unfold m_club_booksAt at hm
  refine ctr_mk (vs := [(0, s0_.v), (1, .int .i64 a1)]) Tryz.func81 rfl Tryz.ntmps81 rfl ⟨rfl, rfl, trivial⟩ (fun w0 A => ?_)
  refine cj_seq ?_
  refine cj_reg ?_
  refine lp rfl (p_as rfl) ?_
  refine lj_seq ?_
  refine cj_seq ?_
  refine cj_reg ?_
  refine lp rfl (p_mv rfl) ?_
  refine r_mkmapF kv9 SV.v (rowE R172) rfl (fun b1 => ?_)
  refine r_mkmap kv9 vv3 rfl (fun b2 => ?_)
  refine r_mkmap kv9 vv215 rfl (fun b3 => ?_)
  refine lp rfl (p_bld [.int .i64 a1, .map (some b1), .map (some b2), .map (some b3), .slice none 0 0] rfl (fun _ => by kernel_rfl)) ?_
  refine r_bx (cs := [.int .i64 a1, .map (some b1), .map (some b2), .map (some b3), .slice none 0 0]) rfl rfl rfl (fun b4 => ?_)
  refine lp rfl (p_as rfl) ?_
  refine lj_seq ?_
  refine cj_seq ?_
  refine cj_seq ?_
  refine cj_reg ?_
  refine lp rfl (p_mv rfl) ?_
  refine lp rfl (p_mv rfl) ?_
  obtain ⟨y5, hy5, hm⟩ := bindS hm
  refine r_call [] cf112 rfl rfl (ok_club_counting s0_ a0 a1 hy5) rfl rfl (.cons (.ro 4 rfl) .nil) (fun _ => rfl) rfl (fun s6 => ?_)
  refine lp rfl (p_len Tryz.underlying22 rfl (.row 0 rfl)) ?_
  refine lp rfl (p_mv rfl) ?_
  refine lj_seq ?_
  refine cj_nil R3 ?_
  obtain ⟨f14, hf14, hm⟩ := bindS hm
  refine cj_range (γ := (Array MapEntry × Nat × List (ByteArray × SV) × Array MapEntry × Nat × SV)) (m := (y5.length : Int)) hf14 (#[], 0, [], #[], 0, nilS) (fun u11 g12 => [(0, s0_.v), (4, .pointer none), (5, .pointer (some ⟨b4, 0, none⟩)), (16, s6.v)]) (fun u11 g12 => Sat w0 (keys ([] : List Ent)) A [.row R3 (SV.v s6) y5, .box b4 141 [.int .i64 a1, .map (some b1), .map (some b2), .map (some b3), g12.2.2.2.2.2.v], .obj (mapO kv9 b3 (mpV vv215 []) (#[]) 0), .obj (mapO kv9 b2 (mpV vv3 u11.1) g12.1 g12.2.1), .obj (famO kv9 SV.v (rowE R172) b1 u11.2.1 g12.2.2.1 none g12.2.2.2.1 g12.2.2.2.2.1), .ro (RdS R71 (SV.v s0_) a0), .row R3 (SV.v g12.2.2.2.2.2) u11.2.2]) ⟨rfl, rfl, rfl, rfl, rfl, rfl, trivial⟩ (fun _ h => h.picks [1, 1, 1, 1, 1, 1, 0] rfl) (nat_lt _) (fun _ h => (FactAt.get (F := RdS R3 (SV.v s6) y5) (.row 1 rfl) h).1) (fun _ _ => ⟨rfl, rfl, rfl, rfl⟩) ⟨rfl, rfl, rfl, rfl, rfl⟩ rfl rfl rfl (fun u11 g12 e => ?_) (fun aftk13 i7 x8 u11 g12 k13 hx9 hs J hJk13 hBk13 hX I cnk13 => ?_)
  · have hm := Flow.fin_b e hm
    refine nj_seq ?_
    refine cj_seq ?_
    refine cj_reg ?_
    refine lp rfl (p_mv rfl) ?_
    refine lp rfl (p_as rfl) ?_
    refine lj_seq ?_
    obtain rfl := Option.some.inj hm
    exact cj_rt (b4, b1, g12.2.2.1, g12.2.2.2.1, g12.2.2.2.2.1, b2, g12.1, g12.2.1, b3, (#[]), 0, g12.2.2.2.2.2) [1, 3, 2, 1, 2] Tryz.results81 (.tmp rfl .nil) rfl rfl
  · have hRk13 : ∀ t, k13 = .ret t → some t = some r := fun t e => by rw [hX t e] at hm; exact hm
    have hm := hs
    refine cj_seq ?_
    refine cj_reg ?_
    refine lp rfl (p_idx Tryz.underlying22 ty3 rfl rfl (.row 0 rfl) (getI_nat.trans hx9)) ?_
    refine lp rfl (p_lde (o := 0) ty3 rfl rfl (.row 0 rfl) hx9 rfl) ?_
    refine lp rfl (p_as rfl) ?_
    refine lj_seq ?_
    refine cj_seq ?_
    refine cj_reg ?_
    refine lp rfl (p_mv rfl) ?_
    refine lp rfl (p_mv rfl) ?_
    refine lp rfl (p_mv rfl) ?_
    obtain ⟨e16, he16, hm⟩ := bindS hm
    refine lp rfl (p_idx Tryz.underlying72 ty71 rfl rfl (.ro 5 rfl) he16) ?_
    refine lp rfl (p_lea ty71 rfl (.ro 5 rfl) (getI_spec he16).2) ?_
    obtain ⟨y17, hy17, hm⟩ := bindS hm
    refine r_call [1] cf113 rfl rfl (ok_club_books_permits b4 a1 b1 g12.2.2.1 g12.2.2.2.1 g12.2.2.2.2.1 u11.2.1 b2 g12.1 g12.2.1 u11.1 b3 (#[]) 0 ([] : (List (ByteArray × Unit))) g12.2.2.2.2.2 u11.2.2 e16 hy17) rfl rfl (.cons (.fam 3 rfl) (.cons (.map 2 rfl) (.cons (.map 1 rfl) (.cons (.row 5 rfl) .nil)))) (fun _ => rfl) rfl (fun _ => ?_)
    refine lj_seq ?_
    refine cj_if (b := y17) rfl (fun hb => ?_) (fun hb => ?_)
    · have hm := ifB_t hb hm
      refine cj_reg ?_
      refine lp rfl (p_mv rfl) ?_
      refine lp rfl (p_mv rfl) ?_
      refine lp rfl (p_mv rfl) ?_
      obtain ⟨e18, he18, hm⟩ := bindS hm
      refine lp rfl (p_idx Tryz.underlying72 ty71 rfl rfl (.ro 5 rfl) he18) ?_
      refine lp rfl (p_lea ty71 rfl (.ro 5 rfl) (getI_spec he18).2) ?_
      obtain ⟨y19, hy19, hm⟩ := bindS hm
      refine r_call [0, 3, 2, 1] cf114 rfl rfl (ok_club_books_act b4 a1 b1 g12.2.2.1 g12.2.2.2.1 g12.2.2.2.2.1 u11.2.1 b2 g12.1 g12.2.1 u11.1 b3 (#[]) 0 ([] : (List (ByteArray × Unit))) g12.2.2.2.2.2 u11.2.2 e18 hy19) rfl rfl (.cons (.row 2 rfl) .nil) (fun _ => rfl) rfl (fun ⟨gz20, gz21, gz22, gz23, gz24⟩ => ?_)
      refine lj_nil ?_
      refine nj_blk ?_
      exact cnk13 _ _ (y19.2, y19.1, u11.2.2) (gz23, gz24, gz20, gz21, gz22, g12.2.2.2.2.2) (hJk13 _ (Option.some.inj hm).symm) ⟨rfl, rfl, rfl, rfl, rfl, rfl, trivial⟩ (fun _ h => h.picks [4, 0, 2, 1, 0, 0, 0] rfl)
    · have hm := ifB_f hb hm
      refine cj_reg ?_
      refine lp rfl (p_mv rfl) ?_
      refine lp rfl (p_mv rfl) ?_
      refine lp rfl (p_nc rfl) ?_
      refine lp rfl (p_fab fl141_4 rfl) ?_
      refine lp rfl (p_lbs ty22 rfl (j := 0) rfl rfl) ?_
      refine lp rfl (p_mv rfl) ?_
      refine r_bs R3 [x8] rfl rfl rfl (fun _ => by kernel_rfl) rfl (fun s25 => ?_)
      obtain ⟨q26, hq26, hm⟩ := bindS hm
      refine r_app (k := 7) Tryz.underlying22 ty3 rfl rfl rfl rfl (.row 0 rfl) hq26 rfl (fun s27 => ?_)
      refine lp rfl (p_nc rfl) ?_
      refine lp rfl (p_fab fl141_4 rfl) ?_
      refine r_sb (vs := [s27.v]) (j := 1) ty22 rfl rfl rfl rfl rfl rfl rfl ?_
      refine lj_nil ?_
      refine nj_blk ?_
      exact cnk13 _ _ (u11.1, u11.2.1, q26) (g12.1, g12.2.1, g12.2.2.1, g12.2.2.2.1, g12.2.2.2.2.1, s27) (hJk13 _ (Option.some.inj hm).symm) ⟨rfl, rfl, rfl, rfl, rfl, rfl, trivial⟩ (fun _ h => h.picks [2, 1, 1, 1, 1, 1, 1] rfl)
theorem ok_club_checkedAt (s0_ : SV) (a0 : (List TAct)) (a1 : Int) {r : (Option (Int × (List (ByteArray × (List Tclub_stay))) × (List (ByteArray × Int)) × (List (ByteArray × Unit)) × (List Int))) × Int} (hm : m_club_checkedAt a0 a1 = some r) :
    Ctr Tryz.prog 56 [s0_.v, .int .i64 a1].toArray ([] : List Ent) [RdS R71 (SV.v s0_) a0] (X := (Nat × Nat × List (ByteArray × SV) × Array MapEntry × Nat × Nat × Array MapEntry × Nat × Nat × Array MapEntry × Nat × SV)) (fun s => .tuple [optV r.1 (.pointer (some ⟨s.1, 0, none⟩)), .int .i64 r.2].toArray) (fun s => (optE r.1 (fun t_ => [.box s.1 141 [.int .i64 t_.1, .map (some s.2.1), .map (some s.2.2.2.2.2.1), .map (some s.2.2.2.2.2.2.2.2.1), s.2.2.2.2.2.2.2.2.2.2.2.v], .obj (famO kv9 SV.v (rowE R172) s.2.1 t_.2.1 s.2.2.1 none s.2.2.2.1 s.2.2.2.2.1), .obj (mapO kv9 s.2.2.2.2.2.1 (mpV vv3 t_.2.2.1) s.2.2.2.2.2.2.1 s.2.2.2.2.2.2.2.1), .obj (mapO kv9 s.2.2.2.2.2.2.2.2.1 (mpV vv215 t_.2.2.2.1) s.2.2.2.2.2.2.2.2.2.1 s.2.2.2.2.2.2.2.2.2.2.1), .row R3 (SV.v s.2.2.2.2.2.2.2.2.2.2.2) t_.2.2.2.2])) ++ []) := by
  unfold m_club_checkedAt at hm
  refine ctr_mk (vs := [(0, s0_.v), (1, .int .i64 a1)]) Tryz.func56 rfl Tryz.ntmps56 rfl ⟨rfl, rfl, trivial⟩ (fun w0 A => ?_)
  refine cj_seq ?_
  refine cj_reg ?_
  refine lp rfl (p_as rfl) ?_
  refine lp rfl (p_as rfl) ?_
  refine lj_seq ?_
  refine cj_seq ?_
  refine cj_seq ?_
  refine cj_reg ?_
  refine lp rfl (p_mv rfl) ?_
  refine lp rfl (p_mv rfl) ?_
  obtain ⟨y1, hy1, hm⟩ := bindS hm
  refine r_call [] cf80 rfl rfl (ok_club_askedFault s0_ a0 a1 hy1) rfl rfl (.cons (.ro 0 rfl) .nil) (fun _ => rfl) rfl (fun _ => ?_)
  refine lp rfl (p_as rfl) ?_
  refine lj_seq ?_
  refine cj_seq ?_
  refine cj_reg ?_
  refine lp rfl (p_mv rfl) ?_
  refine lp rfl (p_neq rfl rfl) ?_
  refine lj_seq ?_
  refine cj_if (b := y1 != 0) rfl (fun hb => ?_) (fun hb => ?_)
  · have hm := ifB_t hb hm
    refine cj_seq ?_
    refine cj_reg ?_
    refine lp rfl (p_mv rfl) ?_
    refine lp rfl (p_as rfl) ?_
    refine lp rfl (p_as rfl) ?_
    refine lj_seq ?_
    obtain rfl := Option.some.inj hm
    exact cj_rt (0, 0, [], #[], 0, 0, #[], 0, 0, #[], 0, nilS) [] Tryz.results56 (.tmp rfl (.tmp rfl .nil)) rfl rfl
  · have hm := ifB_f hb hm
    refine cj_skip ?_
    refine nj_seq ?_
    refine cj_seq ?_
    refine cj_reg ?_
    refine lp rfl (p_mv rfl) ?_
    refine lp rfl (p_mv rfl) ?_
    obtain ⟨y2, hy2, hm⟩ := bindS hm
    refine r_call [] cf81 rfl rfl (ok_club_booksAt s0_ a0 a1 hy2) rfl rfl (.cons (.ro 0 rfl) .nil) (fun _ => rfl) rfl (fun ⟨b3, b4, gz5, gz6, gz7, b8, gz9, gz10, b11, gz12, gz13, s14⟩ => ?_)
    refine lp rfl (p_as rfl) ?_
    refine lp rfl (p_as rfl) ?_
    refine lj_seq ?_
    obtain rfl := Option.some.inj hm
    exact cj_rt (b3, b4, gz5, gz6, gz7, b8, gz9, gz10, b11, gz12, gz13, s14) [0, 0, 0, 0, 0] Tryz.results56 (.tmp rfl (.tmp rfl .nil)) rfl rfl
theorem ok_club_Members (s0_ : SV) (a0 : (List TAct)) (a1 : Int) {r : (List ByteArray) × Int} (hm : m_club_Members a0 a1 = some r) :
    Ctr Tryz.prog 28 [s0_.v, .int .i64 a1].toArray ([] : List Ent) [RdS R71 (SV.v s0_) a0] (X := SV) (fun s => .tuple [s.v, .int .i64 r.2].toArray) (fun s => [.row R9 (SV.v s) r.1]) := by
  unfold m_club_Members at hm
  refine ctr_mk (vs := [(0, s0_.v), (1, .int .i64 a1)]) Tryz.func28 rfl Tryz.ntmps28 rfl ⟨rfl, rfl, trivial⟩ (fun w0 A => ?_)
  refine cj_seq ?_
  refine cj_reg ?_
  refine lp rfl (p_as rfl) ?_
  refine lp rfl (p_as rfl) ?_
  refine lj_seq ?_
  refine cj_seq ?_
  refine cj_reg ?_
  refine lp rfl (p_mv rfl) ?_
  refine lp rfl (p_mv rfl) ?_
  obtain ⟨y1, hy1, hm⟩ := bindS hm
  refine optB_cases hm (fun ho3 hm => ?_) (fun t2 ho3 hm => ?_)
  · have hc4 := (ok_club_checkedAt s0_ a0 a1 hy1)
    rw [ho3] at hc4
    simp only [optE_none, optE_some, optV_none, optV_some, List.nil_append, List.cons_append] at hc4
    refine r_call [] cf56 rfl rfl hc4 rfl rfl (.cons (.ro 0 rfl) .nil) (fun _ => rfl) rfl (fun ⟨b5, b6, gz7, gz8, gz9, b10, gz11, gz12, b13, gz14, gz15, s16⟩ => ?_)
    refine lp rfl (p_mv rfl) ?_
    refine lp rfl (p_ext rfl rfl) ?_
    refine lp rfl (p_ext rfl rfl) ?_
    refine lp rfl (p_as rfl) ?_
    refine lp rfl (p_as rfl) ?_
    refine lj_seq ?_
    refine cj_seq ?_
    refine cj_seq ?_
    refine cj_reg ?_
    refine lp rfl (p_mv rfl) ?_
    refine lp rfl (p_neq rfl rfl) ?_
    refine lj_seq ?_
    refine cj_if (b := y1.2 != 0) rfl (fun hb => ?_) (fun hb => ?_)
    · have hm := ifB_t hb hm
      refine cj_seq ?_
      refine cj_reg ?_
      refine lp rfl (p_mv rfl) ?_
      refine lp rfl (p_as rfl) ?_
      refine lp rfl (p_as rfl) ?_
      refine lj_seq ?_
      obtain rfl := Option.some.inj hm
      refine cj_nil R9 ?_
      exact cj_rt nilS [0] Tryz.results28 (.tmp rfl (.tmp rfl .nil)) rfl rfl
    · have hm := ifB_f hb hm
      refine cj_skip ?_
      refine nj_seq ?_
      refine cj_seq ?_
      refine cj_reg ?_
      refine lp rfl (p_mv rfl) ?_
      cases hm
  · have hc4 := (ok_club_checkedAt s0_ a0 a1 hy1)
    rw [ho3] at hc4
    simp only [optE_none, optE_some, optV_none, optV_some, List.nil_append, List.cons_append] at hc4
    refine r_call [] cf56 rfl rfl hc4 rfl rfl (.cons (.ro 0 rfl) .nil) (fun _ => rfl) rfl (fun ⟨b18, b19, gz20, gz21, gz22, b23, gz24, gz25, b26, gz27, gz28, s29⟩ => ?_)
    refine lp rfl (p_mv rfl) ?_
    refine lp rfl (p_ext rfl rfl) ?_
    refine lp rfl (p_ext rfl rfl) ?_
    refine lp rfl (p_as rfl) ?_
    refine lp rfl (p_as rfl) ?_
    refine lj_seq ?_
    refine cj_seq ?_
    refine cj_seq ?_
    refine cj_reg ?_
    refine lp rfl (p_mv rfl) ?_
    refine lp rfl (p_neq rfl rfl) ?_
    refine lj_seq ?_
    refine cj_if (b := y1.2 != 0) rfl (fun hb => ?_) (fun hb => ?_)
    · have hm := ifB_t hb hm
      refine cj_seq ?_
      refine cj_reg ?_
      refine lp rfl (p_mv rfl) ?_
      refine lp rfl (p_as rfl) ?_
      refine lp rfl (p_as rfl) ?_
      refine lj_seq ?_
      obtain rfl := Option.some.inj hm
      refine cj_nil R9 ?_
      exact cj_rt nilS [0] Tryz.results28 (.tmp rfl (.tmp rfl .nil)) rfl rfl
    · have hm := ifB_f hb hm
      refine cj_skip ?_
      refine nj_seq ?_
      refine cj_seq ?_
      refine cj_reg ?_
      refine lp rfl (p_mv rfl) ?_
      obtain ⟨y31, hy31, hm⟩ := bindS hm
      refine r_call [0] cf57 rfl rfl (ok_club_books_members b18 t2.1 b19 gz20 gz21 gz22 t2.2.1 b23 gz24 gz25 t2.2.2.1 b26 gz27 gz28 t2.2.2.2.1 s29 t2.2.2.2.2 hy31) rfl rfl (.cons (.fam 0 rfl) (.cons (.map 1 rfl) (.cons (.map 2 rfl) (.cons (.row 3 rfl) .nil)))) (fun _ => rfl) rfl (fun s32 => ?_)
      refine lp rfl (p_as rfl) ?_
      refine lp rfl (p_as rfl) ?_
      refine lj_seq ?_
      obtain rfl := Option.some.inj hm
      exact cj_rt s32 [0] Tryz.results28 (.tmp rfl (.tmp rfl .nil)) rfl rfl
theorem ok_gleekeep2_errs (s0_ : SV) (a0 : (List Int)) {r : Int} (hm : m_gleekeep2_errs a0 = some r) :
    Ctr Tryz.prog 13 [s0_.v].toArray ([] : List Ent) [RdS R29 (SV.v s0_) a0] (X := Unit) (fun _ => .int .i64 r) (fun _ => []) := by
  unfold m_gleekeep2_errs at hm
  refine ctr_mk (vs := [(0, s0_.v)]) Tryz.func13 rfl Tryz.ntmps13 rfl ⟨rfl, trivial⟩ (fun w0 A => ?_)
  refine cj_seq ?_
  refine cj_reg ?_
  refine lp rfl (p_as rfl) ?_
  refine lj_seq ?_
  refine cj_seq ?_
  refine cj_seq ?_
  refine cj_reg ?_
  refine lp rfl (p_mv rfl) ?_
  refine lp rfl (p_len Tryz.underlying82 rfl (.ro 0 rfl)) ?_
  refine lp rfl (p_mv rfl) ?_
  refine lj_seq ?_
  obtain ⟨f7, hf7, hm⟩ := bindS hm
  refine cj_range (γ := Unit) (m := (a0.length : Int)) hf7 () (fun u4 g5 => [(2, .int .i64 0), (5, s0_.v)]) (fun u4 g5 => Sat w0 (keys ([] : List Ent)) A [.ro (RdS R29 (SV.v s0_) a0)]) ⟨rfl, rfl, rfl, rfl, trivial⟩ (fun _ h => h.picks [0] rfl) (nat_lt _) (fun _ h => (FactAt.get (F := RdS R29 (SV.v s0_) a0) (.ro 0 rfl) h).1) (fun _ _ => ⟨rfl, rfl, rfl, rfl⟩) ⟨rfl, rfl, rfl, rfl, rfl⟩ rfl rfl rfl (fun u4 g5 e => ?_) (fun aftk6 i1 x2 u4 g5 k6 hx3 hs J hJk6 hBk6 hX I cnk6 => ?_)
  · have hm := Flow.fin_b e hm
    refine nj_seq ?_
    refine cj_seq ?_
    refine cj_reg ?_
    refine lp rfl (p_as rfl) ?_
    refine lj_seq ?_
    obtain rfl := Option.some.inj hm
    exact cj_rt () [] Tryz.results13 (.tmp rfl .nil) rfl rfl
  · have hRk6 : ∀ t, k6 = .ret t → some t = some r := fun t e => by rw [hX t e] at hm; exact hm
    have hm := hs
    refine cj_seq ?_
    refine cj_reg ?_
    refine lp rfl (p_idx Tryz.underlying82 ty29 rfl rfl (.ro 0 rfl) (getI_nat.trans hx3)) ?_
    refine lp rfl (p_lde (o := 0) ty29 rfl rfl (.ro 0 rfl) hx3 rfl) ?_
    refine lp rfl (p_as rfl) ?_
    refine lj_seq ?_
    refine cj_seq ?_
    refine cj_reg ?_
    refine lp rfl (p_mv rfl) ?_
    refine lp rfl (p_neq rfl rfl) ?_
    refine lj_seq ?_
    refine cj_if (b := x2 != 0) rfl (fun hb => ?_) (fun hb => ?_)
    · have hm := ifB_t hb hm
      refine cj_seq ?_
      refine cj_reg ?_
      refine lp rfl (p_mv rfl) ?_
      refine lp rfl (p_as rfl) ?_
      refine lj_seq ?_
      have hm := hRk6 _ (Option.some.inj hm).symm
      obtain rfl := Option.some.inj hm
      exact cj_rt () [] Tryz.results13 (.tmp rfl .nil) rfl rfl
    · have hm := ifB_f hb hm
      refine cj_skip ?_
      refine nj_blk ?_
      exact cnk6 _ _ () () (hJk6 _ (Option.some.inj hm).symm) ⟨rfl, rfl, rfl, rfl, trivial⟩ (fun _ h => h.picks [0] rfl)
theorem ok_gleekeep2_ready  {r : Bool} (hm : m_gleekeep2_ready  = some r) :
    Ctr Tryz.prog 7 [].toArray ([] : List Ent) [PowT] (X := Unit) (fun _ => .bool r) (fun _ => []) := by
  unfold m_gleekeep2_ready at hm
  refine ctr_mk (vs := []) Tryz.func7 rfl Tryz.ntmps7 rfl trivial (fun w0 A => ?_)
  refine cj_seq ?_
  refine cj_reg ?_
  refine lp rfl (p_as rfl) ?_
  refine lj_seq ?_
  refine cj_seq ?_
  refine cj_reg ?_
  refine lp rfl (p_bld [.int .i64 1, .int .i64 4, .int .i64 2, .int .i64 0, .bool true] rfl (fun _ => by kernel_rfl)) ?_
  refine r_bs R54 [(TBar.mk 1 4 2 0 true)] rfl rfl rfl (fun _ => by kernel_rfl) rfl (fun s1 => ?_)
  obtain ⟨y2, hy2, hm⟩ := bindS hm
  refine r_call [] cf25 rfl rfl (ok_piece_Order s1 [(TBar.mk 1 4 2 0 true)] hy2) rfl rfl (.cons (.row 0 rfl) .nil) (fun _ => rfl) rfl (fun s3 => ?_)
  refine lp rfl (p_mv rfl) ?_
  refine lp rfl (p_ext rfl rfl) ?_
  refine lp rfl (p_ext rfl rfl) ?_
  refine lp rfl (p_as rfl) ?_
  refine lp rfl (p_as rfl) ?_
  refine lj_seq ?_
  refine cj_seq ?_
  refine cj_reg ?_
  refine lp rfl (p_bld [.int .i64 1, .int .i64 2, .int .i64 1] rfl (fun _ => by kernel_rfl)) ?_
  obtain ⟨y4, hy4, hm⟩ := bindS hm
  refine r_call [] cf8 rfl rfl (ok_chord_Name (TChord.mk 1 2 1) hy4) rfl rfl (.cons (.ro 2 rfl) .nil) (fun _ => rfl) rfl (fun _ => ?_)
  refine lp rfl (p_mv rfl) ?_
  refine lp rfl (p_ext rfl rfl) ?_
  refine lp rfl (p_ext rfl rfl) ?_
  refine lp rfl (p_as rfl) ?_
  refine lp rfl (p_as rfl) ?_
  refine lj_seq ?_
  refine cj_seq ?_
  refine cj_reg ?_
  refine lp rfl (p_bld [.int .i64 5, .string (ByteArray.mk [97, 110, 110].toArray), .bool false] rfl (fun _ => by kernel_rfl)) ?_
  refine r_bs R60 [(TCame.mk 5 (ByteArray.mk [97, 110, 110].toArray) false)] rfl rfl rfl (fun _ => by kernel_rfl) rfl (fun s5 => ?_)
  obtain ⟨y6, hy6, hm⟩ := bindS hm
  refine r_call [] cf26 rfl rfl (ok_rehearse_There s5 [(TCame.mk 5 (ByteArray.mk [97, 110, 110].toArray) false)] 6 hy6) rfl rfl (.cons (.row 0 rfl) .nil) (fun _ => rfl) rfl (fun s7 => ?_)
  refine lp rfl (p_mv rfl) ?_
  refine lp rfl (p_ext rfl rfl) ?_
  refine lp rfl (p_ext rfl rfl) ?_
  refine lp rfl (p_as rfl) ?_
  refine lp rfl (p_as rfl) ?_
  refine lj_seq ?_
  refine cj_seq ?_
  refine cj_reg ?_
  refine r_bs R9 [(ByteArray.mk [97, 108, 116, 111].toArray)] rfl rfl rfl (fun _ => by kernel_rfl) rfl (fun s8 => ?_)
  refine lp rfl (p_bld [.string (ByteArray.mk [97].toArray), .string (ByteArray.mk [112].toArray), .int .i64 7, s8.v] rfl (fun _ => by kernel_rfl)) ?_
  refine r_fz 0 rfl ?_
  refine r_fact (F := Lk N65 [(TItem.mk (ByteArray.mk [97].toArray) (ByteArray.mk [112].toArray) 7 [(ByteArray.mk [97, 108, 116, 111].toArray)])] [((TItem.mk (ByteArray.mk [97].toArray) (ByteArray.mk [112].toArray) 7 [(ByteArray.mk [97, 108, 116, 111].toArray)]), s8)]) (.imp (.and (.ro 0 rfl) (.nilL N65)) (fun _ h => Lk.cons h.1 h.2)) ?_
  have hLs9 : (([((TItem.mk (ByteArray.mk [97].toArray) (ByteArray.mk [112].toArray) 7 [(ByteArray.mk [97, 108, 116, 111].toArray)]), s8)] : List (TItem × SV)).map Prod.fst) = ([(TItem.mk (ByteArray.mk [97].toArray) (ByteArray.mk [112].toArray) 7 [(ByteArray.mk [97, 108, 116, 111].toArray)])] : List TItem) := rfl
  refine r_bs N65.R [((TItem.mk (ByteArray.mk [97].toArray) (ByteArray.mk [112].toArray) 7 [(ByteArray.mk [97, 108, 116, 111].toArray)]), s8)] rfl rfl rfl (fun _ => by kernel_rfl) rfl (fun s9 => ?_)
  refine lp rfl (p_bld [s9.v, .int .i64 0, .int .i64 0, .int .i64 0, .int .i64 (-1)] rfl (fun _ => by kernel_rfl)) ?_
  obtain ⟨y10, hy10, hm⟩ := bindS hm
  refine r_call [] cf27 rfl rfl (ok_concert_Long (TProgram.mk [(TItem.mk (ByteArray.mk [97].toArray) (ByteArray.mk [112].toArray) 7 [(ByteArray.mk [97, 108, 116, 111].toArray)])] 0 0 0 (-1)) s9 [((TItem.mk (ByteArray.mk [97].toArray) (ByteArray.mk [112].toArray) 7 [(ByteArray.mk [97, 108, 116, 111].toArray)]), s8)] hy10) rfl rfl (.cons (.ro 1 rfl) (.cons (.row 0 rfl) .nil)) (fun _ => rfl) rfl (fun _ => ?_)
  refine lp rfl (p_mv rfl) ?_
  refine lp rfl (p_ext rfl rfl) ?_
  refine lp rfl (p_ext rfl rfl) ?_
  refine lp rfl (p_as rfl) ?_
  refine lp rfl (p_as rfl) ?_
  refine lj_seq ?_
  refine cj_seq ?_
  refine cj_reg ?_
  refine lp rfl (p_bld [.string (ByteArray.mk [97].toArray), .int .i64 1, .int .i64 0, .int .i64 1, .string (ByteArray.mk [97, 110, 110].toArray), .string ByteArray.empty, .int .i64 0, .bool false, .string ByteArray.empty, .int .i64 0] rfl (fun _ => by kernel_rfl)) ?_
  refine r_bs R71 [(TAct.mk (ByteArray.mk [97].toArray) 1 0 1 (ByteArray.mk [97, 110, 110].toArray) ByteArray.empty 0 false ByteArray.empty 0)] rfl rfl rfl (fun _ => by kernel_rfl) rfl (fun s11 => ?_)
  obtain ⟨y12, hy12, hm⟩ := bindS hm
  refine r_call [] cf28 rfl rfl (ok_club_Members s11 [(TAct.mk (ByteArray.mk [97].toArray) 1 0 1 (ByteArray.mk [97, 110, 110].toArray) ByteArray.empty 0 false ByteArray.empty 0)] 0 hy12) rfl rfl (.cons (.row 0 rfl) .nil) (fun _ => rfl) rfl (fun s13 => ?_)
  refine lp rfl (p_mv rfl) ?_
  refine lp rfl (p_ext rfl rfl) ?_
  refine lp rfl (p_ext rfl rfl) ?_
  refine lp rfl (p_as rfl) ?_
  refine lp rfl (p_as rfl) ?_
  refine lj_seq ?_
  refine cj_seq ?_
  refine cj_reg ?_
  refine lp rfl (p_mv rfl) ?_
  refine lp rfl (p_mv rfl) ?_
  refine lp rfl (p_mv rfl) ?_
  refine lp rfl (p_mv rfl) ?_
  refine lp rfl (p_mv rfl) ?_
  refine r_bs R29 [y2.2, y4.2, y6.2, y10.2, y12.2] rfl rfl rfl (fun _ => by kernel_rfl) rfl (fun s14 => ?_)
  obtain ⟨y15, hy15, hm⟩ := bindS hm
  refine r_call [] cf13 rfl rfl (ok_gleekeep2_errs s14 [y2.2, y4.2, y6.2, y10.2, y12.2] hy15) rfl rfl (.cons (.row 0 rfl) .nil) (fun _ => rfl) rfl (fun _ => ?_)
  refine lp rfl (p_eql rfl rfl) ?_
  refine lp rfl (p_mv rfl) ?_
  refine lcase (i := 50) (y15 == 0) rfl (fun hb => ?_) (fun hb => ?_)
  · have hm := ifB_t hb hm
    refine lg true rfl rfl rfl ?_
    refine lp rfl (p_mv rfl) ?_
    refine lg true rfl rfl rfl ?_
    refine lp rfl (p_len Tryz.underlying22 rfl (.row 8 rfl)) ?_
    refine lg true rfl rfl rfl ?_
    refine lp rfl (p_eql rfl rfl) ?_
    refine lp rfl (p_pkt rfl rfl) ?_
    refine lp rfl (p_mv rfl) ?_
    refine lcase (i := 55) ((y2.1.length : Int) == 2) rfl (fun hb => ?_) (fun hb => ?_)
    · have hm := ifB_t hb hm
      refine lg true rfl rfl rfl ?_
      refine lp rfl (p_mv rfl) ?_
      refine lg true rfl rfl rfl ?_
      refine lp rfl (p_eqs rfl rfl) ?_
      refine lp rfl (p_pkt rfl rfl) ?_
      refine lp rfl (p_mv rfl) ?_
      refine lcase (i := 59) (y4.1.toList == (ByteArray.mk [99, 35, 32, 109, 105, 110, 47, 49].toArray).toList) rfl (fun hb => ?_) (fun hb => ?_)
      · have hm := ifB_t hb hm
        refine lg true rfl rfl rfl ?_
        refine lp rfl (p_mv rfl) ?_
        refine lg true rfl rfl rfl ?_
        refine lp rfl (p_len Tryz.underlying56 rfl (.row 6 rfl)) ?_
        refine lg true rfl rfl rfl ?_
        refine lp rfl (p_eql rfl rfl) ?_
        refine lp rfl (p_pkt rfl rfl) ?_
        refine lp rfl (p_mv rfl) ?_
        refine lcase (i := 64) ((y6.1.length : Int) == 1) rfl (fun hb => ?_) (fun hb => ?_)
        · have hm := ifB_t hb hm
          refine lg true rfl rfl rfl ?_
          refine lp rfl (p_mv rfl) ?_
          refine lg true rfl rfl rfl ?_
          refine lp rfl (p_eql rfl rfl) ?_
          refine lp rfl (p_pkt rfl rfl) ?_
          refine lp rfl (p_mv rfl) ?_
          refine lcase (i := 68) (y10.1 == 7) rfl (fun hb => ?_) (fun hb => ?_)
          · have hm := ifB_t hb hm
            refine lg true rfl rfl rfl ?_
            refine lp rfl (p_mv rfl) ?_
            refine lg true rfl rfl rfl ?_
            refine lp rfl (p_len Tryz.underlying56 rfl (.row 1 rfl)) ?_
            refine lg true rfl rfl rfl ?_
            refine lp rfl (p_eql rfl rfl) ?_
            refine lp rfl (p_pkt rfl rfl) ?_
            refine lp rfl (p_as rfl) ?_
            refine lj_seq ?_
            obtain rfl := Option.some.inj hm
            exact cj_rt () [] Tryz.results7 (.tmp rfl .nil) rfl rfl
          · have hm := ifB_f hb hm
            refine ls true rfl rfl rfl rfl ?_
            refine ls true rfl rfl rfl rfl ?_
            refine ls true rfl rfl rfl rfl ?_
            refine lp rfl (p_pkf rfl rfl) ?_
            refine lp rfl (p_as rfl) ?_
            refine lj_seq ?_
            obtain rfl := Option.some.inj hm
            exact cj_rt () [] Tryz.results7 (.tmp rfl .nil) rfl rfl
        · have hm := ifB_f hb hm
          refine ls true rfl rfl rfl rfl ?_
          refine ls true rfl rfl rfl rfl ?_
          refine lp rfl (p_pkf rfl rfl) ?_
          refine lp rfl (p_mv rfl) ?_
          refine ls true rfl rfl rfl rfl ?_
          refine ls true rfl rfl rfl rfl ?_
          refine ls true rfl rfl rfl rfl ?_
          refine lp rfl (p_pkf rfl rfl) ?_
          refine lp rfl (p_as rfl) ?_
          refine lj_seq ?_
          obtain rfl := Option.some.inj hm
          exact cj_rt () [] Tryz.results7 (.tmp rfl .nil) rfl rfl
      · have hm := ifB_f hb hm
        refine ls true rfl rfl rfl rfl ?_
        refine ls true rfl rfl rfl rfl ?_
        refine ls true rfl rfl rfl rfl ?_
        refine lp rfl (p_pkf rfl rfl) ?_
        refine lp rfl (p_mv rfl) ?_
        refine ls true rfl rfl rfl rfl ?_
        refine ls true rfl rfl rfl rfl ?_
        refine lp rfl (p_pkf rfl rfl) ?_
        refine lp rfl (p_mv rfl) ?_
        refine ls true rfl rfl rfl rfl ?_
        refine ls true rfl rfl rfl rfl ?_
        refine ls true rfl rfl rfl rfl ?_
        refine lp rfl (p_pkf rfl rfl) ?_
        refine lp rfl (p_as rfl) ?_
        refine lj_seq ?_
        obtain rfl := Option.some.inj hm
        exact cj_rt () [] Tryz.results7 (.tmp rfl .nil) rfl rfl
    · have hm := ifB_f hb hm
      refine ls true rfl rfl rfl rfl ?_
      refine ls true rfl rfl rfl rfl ?_
      refine lp rfl (p_pkf rfl rfl) ?_
      refine lp rfl (p_mv rfl) ?_
      refine ls true rfl rfl rfl rfl ?_
      refine ls true rfl rfl rfl rfl ?_
      refine ls true rfl rfl rfl rfl ?_
      refine lp rfl (p_pkf rfl rfl) ?_
      refine lp rfl (p_mv rfl) ?_
      refine ls true rfl rfl rfl rfl ?_
      refine ls true rfl rfl rfl rfl ?_
      refine lp rfl (p_pkf rfl rfl) ?_
      refine lp rfl (p_mv rfl) ?_
      refine ls true rfl rfl rfl rfl ?_
      refine ls true rfl rfl rfl rfl ?_
      refine ls true rfl rfl rfl rfl ?_
      refine lp rfl (p_pkf rfl rfl) ?_
      refine lp rfl (p_as rfl) ?_
      refine lj_seq ?_
      obtain rfl := Option.some.inj hm
      exact cj_rt () [] Tryz.results7 (.tmp rfl .nil) rfl rfl
  · have hm := ifB_f hb hm
    refine ls true rfl rfl rfl rfl ?_
    refine ls true rfl rfl rfl rfl ?_
    refine ls true rfl rfl rfl rfl ?_
    refine lp rfl (p_pkf rfl rfl) ?_
    refine lp rfl (p_mv rfl) ?_
    refine ls true rfl rfl rfl rfl ?_
    refine ls true rfl rfl rfl rfl ?_
    refine lp rfl (p_pkf rfl rfl) ?_
    refine lp rfl (p_mv rfl) ?_
    refine ls true rfl rfl rfl rfl ?_
    refine ls true rfl rfl rfl rfl ?_
    refine ls true rfl rfl rfl rfl ?_
    refine lp rfl (p_pkf rfl rfl) ?_
    refine lp rfl (p_mv rfl) ?_
    refine ls true rfl rfl rfl rfl ?_
    refine ls true rfl rfl rfl rfl ?_
    refine lp rfl (p_pkf rfl rfl) ?_
    refine lp rfl (p_mv rfl) ?_
    refine ls true rfl rfl rfl rfl ?_
    refine ls true rfl rfl rfl rfl ?_
    refine ls true rfl rfl rfl rfl ?_
    refine lp rfl (p_pkf rfl rfl) ?_
    refine lp rfl (p_as rfl) ?_
    refine lj_seq ?_
    obtain rfl := Option.some.inj hm
    exact cj_rt () [] Tryz.results7 (.tmp rfl .nil) rfl rfl
theorem ok_stringslite_Index (a0 : ByteArray) (a1 : ByteArray) {r : Int} (hm : m_stringslite_Index a0 a1 = some r) :
    Ctr Tryz.prog 85 [.string a0, .string a1].toArray ([] : List Ent) [] (X := Unit) (fun _ => .int .i64 r) (fun _ => []) := by
  unfold m_stringslite_Index at hm
  refine ctr_mk (vs := [(0, .string a0), (1, .string a1)]) Tryz.func85 rfl Tryz.ntmps85 rfl ⟨rfl, rfl, trivial⟩ (fun w0 A => ?_)
  refine cj_seq ?_
  refine cj_reg ?_
  refine lp rfl (p_as rfl) ?_
  refine lj_seq ?_
  refine cj_seq ?_
  refine cj_reg ?_
  refine lp rfl (p_mv rfl) ?_
  refine lp rfl (p_lens Tryz.underlying9 rfl) ?_
  refine lp rfl (p_as rfl) ?_
  refine lj_seq ?_
  refine cj_seq ?_
  refine cj_blk ?_
  refine cj_seq ?_
  refine cj_reg ?_
  obtain ⟨k3, hk3, hm⟩ := bindS hm
  have hRk3 : ∀ t, k3 = .inr t → some t = some r := fun t e => by rw [e] at hm; exact hm
  refine lj_join (σ := Bool) (γ := Unit) (fun u1 => k3 = .inl u1) (fun u1 g2 => [(0, .string a0), (1, .string a1), (4, .int .i64 0), (5, .int .i64 (a1.size : Int)), (16, .bool u1)]) (fun u1 g2 => Sat w0 (keys ([] : List Ent)) A []) (fun u1 g2 hq => ?_) (fun J cnk3 => ?_)
  · have hm := Sum.fin_l hq hm
    refine cj_if (b := u1) rfl (fun hb => ?_) (fun hb => ?_)
    · have hm := ifB_t hb hm
      refine cj_seq ?_
      refine cj_reg ?_
      refine lp rfl (p_as rfl) ?_
      refine lj_seq ?_
      obtain rfl := Option.some.inj hm
      exact cj_rt () [] Tryz.results85 (.tmp rfl .nil) rfl rfl
    · have hm := ifB_f hb hm
      refine cj_seq ?_
      refine cj_reg ?_
      refine lp rfl (p_mv rfl) ?_
      refine lp rfl (p_eql rfl rfl) ?_
      refine lp rfl (p_as rfl) ?_
      refine lj_seq ?_
      refine cj_if (b := (a1.size : Int) == 1) rfl (fun hb => ?_) (fun hb => ?_)
      · have hm := ifB_t hb hm
        refine cj_seq ?_
        refine cj_reg ?_
        refine lp rfl (p_mv rfl) ?_
        refine lp rfl (p_mv rfl) ?_
        obtain ⟨c4, hc4, hm⟩ := bindS hm
        refine lp rfl (p_stri Tryz.underlying9 rfl rfl hc4) ?_
        obtain ⟨y5, hy5, hm⟩ := bindS hm
        refine r_call [] cf120 rfl rfl (ok_stringslite_IndexByte a0 c4 hy5) rfl rfl .nil (fun _ => rfl) rfl (fun _ => ?_)
        refine lp rfl (p_as rfl) ?_
        refine lj_seq ?_
        obtain rfl := Option.some.inj hm
        exact cj_rt () [] Tryz.results85 (.tmp rfl .nil) rfl rfl
      · have hm := ifB_f hb hm
        refine cj_seq ?_
        refine cj_reg ?_
        refine lp rfl (p_mv rfl) ?_
        refine lp rfl (p_mv rfl) ?_
        refine lp rfl (p_lens Tryz.underlying9 rfl) ?_
        refine lp rfl (p_geq rfl rfl) ?_
        refine lp rfl (p_as rfl) ?_
        refine lj_seq ?_
        refine cj_if (b := decide ((a1.size : Int) ≥ (a0.size : Int))) rfl (fun hb => ?_) (fun hb => ?_)
        · have hm := ifB_t hb hm
          refine cj_seq ?_
          refine cj_reg ?_
          refine lp rfl (p_as rfl) ?_
          refine lj_seq ?_
          obtain rfl := Option.some.inj hm
          exact cj_rt () [] Tryz.results85 (.tmp rfl .nil) rfl rfl
        · have hm := ifB_f hb hm
          refine cj_seq ?_
          refine cj_reg ?_
          refine lp rfl (p_mv rfl) ?_
          cases hm
  · have hm := hk3
    refine lp rfl (p_mv rfl) ?_
    refine lp rfl (p_eql rfl rfl) ?_
    refine lp rfl (p_mv rfl) ?_
    refine lcase (i := 19) ((a1.size : Int) == 0) rfl (fun hb => ?_) (fun hb => ?_)
    · have hm := ifB_t hb hm
      refine ls false rfl rfl rfl rfl ?_
      refine ls false rfl rfl rfl rfl ?_
      refine ls false rfl rfl rfl rfl ?_
      refine lp rfl (p_pkt rfl rfl) ?_
      refine lp rfl (p_as rfl) ?_
      refine lj_nil ?_
      exact cnk3 _ _ true () (Option.some.inj hm).symm ⟨rfl, rfl, rfl, rfl, rfl, trivial⟩ (fun _ h => h.picks [] rfl)
    · have hm := ifB_f hb hm
      refine lg false rfl rfl rfl ?_
      refine lp rfl (p_mv rfl) ?_
      refine lg false rfl rfl rfl ?_
      refine lp rfl (p_mv rfl) ?_
      refine lg false rfl rfl rfl ?_
      refine lp rfl (p_eqs rfl rfl) ?_
      refine lp rfl (p_pkf rfl rfl) ?_
      refine lp rfl (p_as rfl) ?_
      refine lj_nil ?_
      exact cnk3 _ _ (a1.toList == a0.toList) () (Option.some.inj hm).symm ⟨rfl, rfl, rfl, rfl, rfl, trivial⟩ (fun _ h => h.picks [] rfl)
theorem ok_stringslite_Cut (a0 : ByteArray) (a1 : ByteArray) {r : ByteArray × ByteArray × Bool} (hm : m_stringslite_Cut a0 a1 = some r) :
    Ctr Tryz.prog 59 [.string a0, .string a1].toArray ([] : List Ent) [] (X := Unit) (fun _ => .tuple [.string r.1, .string r.2.1, .bool r.2.2].toArray) (fun _ => []) := by
  unfold m_stringslite_Cut at hm
  refine ctr_mk (vs := [(0, .string a0), (1, .string a1)]) Tryz.func59 rfl Tryz.ntmps59 rfl ⟨rfl, rfl, trivial⟩ (fun w0 A => ?_)
  refine cj_seq ?_
  refine cj_reg ?_
  refine lp rfl (p_as rfl) ?_
  refine lp rfl (p_as rfl) ?_
  refine lp rfl (p_as rfl) ?_
  refine lj_seq ?_
  refine cj_seq ?_
  refine cj_seq ?_
  refine cj_reg ?_
  refine lp rfl (p_mv rfl) ?_
  refine lp rfl (p_mv rfl) ?_
  obtain ⟨y1, hy1, hm⟩ := bindS hm
  refine r_call [] cf85 rfl rfl (ok_stringslite_Index a0 a1 hy1) rfl rfl .nil (fun _ => rfl) rfl (fun _ => ?_)
  refine lp rfl (p_as rfl) ?_
  refine lj_seq ?_
  refine cj_seq ?_
  refine cj_reg ?_
  refine lp rfl (p_mv rfl) ?_
  refine lp rfl (p_geq rfl rfl) ?_
  refine lj_seq ?_
  refine cj_if (b := decide (y1 ≥ 0)) rfl (fun hb => ?_) (fun hb => ?_)
  · have hm := ifB_t hb hm
    refine cj_seq ?_
    refine cj_quiet (by kernel_rfl) (by kernel_rfl) ?_
    refine q_p rfl (p_mv rfl) ?_
    refine q_p rfl (p_mv rfl) ?_
    obtain ⟨c2, hc2, hm⟩ := bindS hm
    refine q_p rfl (p_strs Tryz.underlying9 rfl rfl rfl rfl rfl rfl rfl hc2) ?_
    refine q_p rfl (p_mv rfl) ?_
    refine q_p rfl (p_mv rfl) ?_
    refine q_p rfl (p_mv rfl) ?_
    refine q_p rfl (p_lens Tryz.underlying9 rfl) ?_
    refine q_p rfl (p_add rfl rfl) ?_
    obtain ⟨c3, hc3, hm⟩ := bindS hm
    refine q_p rfl (p_strs Tryz.underlying9 rfl rfl rfl rfl rfl rfl rfl hc3) ?_
    refine q_p rfl (p_as rfl) ?_
    refine q_p rfl (p_as rfl) ?_
    refine q_p rfl (p_as rfl) ?_
    refine q_nil ?_
    refine nj_seq ?_
    obtain rfl := Option.some.inj hm
    exact cj_rt () [] Tryz.results59 (.tmp rfl (.tmp rfl (.tmp rfl .nil))) rfl rfl
  · have hm := ifB_f hb hm
    refine cj_skip ?_
    refine nj_seq ?_
    refine cj_seq ?_
    refine cj_reg ?_
    refine lp rfl (p_mv rfl) ?_
    refine lp rfl (p_as rfl) ?_
    refine lp rfl (p_as rfl) ?_
    refine lp rfl (p_as rfl) ?_
    refine lj_seq ?_
    obtain rfl := Option.some.inj hm
    exact cj_rt () [] Tryz.results59 (.tmp rfl (.tmp rfl (.tmp rfl .nil))) rfl rfl
theorem ok_strings_Cut (a0 : ByteArray) (a1 : ByteArray) {r : ByteArray × ByteArray × Bool} (hm : m_strings_Cut a0 a1 = some r) :
    Ctr Tryz.prog 32 [.string a0, .string a1].toArray ([] : List Ent) [] (X := Unit) (fun _ => .tuple [.string r.1, .string r.2.1, .bool r.2.2].toArray) (fun _ => []) := by
  unfold m_strings_Cut at hm
  refine ctr_mk (vs := [(0, .string a0), (1, .string a1)]) Tryz.func32 rfl Tryz.ntmps32 rfl ⟨rfl, rfl, trivial⟩ (fun w0 A => ?_)
  refine cj_seq ?_
  refine cj_reg ?_
  refine lp rfl (p_as rfl) ?_
  refine lp rfl (p_as rfl) ?_
  refine lp rfl (p_as rfl) ?_
  refine lj_seq ?_
  refine cj_seq ?_
  refine cj_reg ?_
  refine lp rfl (p_mv rfl) ?_
  refine lp rfl (p_mv rfl) ?_
  obtain ⟨y1, hy1, hm⟩ := bindS hm
  refine r_call [] cf59 rfl rfl (ok_stringslite_Cut a0 a1 hy1) rfl rfl .nil (fun _ => rfl) rfl (fun _ => ?_)
  refine lp rfl (p_ext rfl rfl) ?_
  refine lp rfl (p_ext rfl rfl) ?_
  refine lp rfl (p_ext rfl rfl) ?_
  refine lp rfl (p_as rfl) ?_
  refine lp rfl (p_as rfl) ?_
  refine lp rfl (p_as rfl) ?_
  refine lj_seq ?_
  obtain rfl := Option.some.inj hm
  exact cj_rt () [] Tryz.results32 (.tmp rfl (.tmp rfl (.tmp rfl .nil))) rfl rfl
theorem ok_slices_Index_string_string (s0_ : SV) (a0 : (List ByteArray)) (a1 : ByteArray) {r : Int} (hm : m_slices_Index_string_string a0 a1 = some r) :
    Ctr Tryz.prog 33 [s0_.v, .string a1].toArray ([] : List Ent) [RdS R9 (SV.v s0_) a0] (X := Unit) (fun _ => .int .i64 r) (fun _ => []) := by
  unfold m_slices_Index_string_string at hm
  refine ctr_mk (vs := [(0, s0_.v), (1, .string a1)]) Tryz.func33 rfl Tryz.ntmps33 rfl ⟨rfl, rfl, trivial⟩ (fun w0 A => ?_)
  refine cj_seq ?_
  refine cj_reg ?_
  refine lp rfl (p_as rfl) ?_
  refine lj_seq ?_
  refine cj_seq ?_
  refine cj_seq ?_
  refine cj_reg ?_
  refine lp rfl (p_mv rfl) ?_
  refine lp rfl (p_len Tryz.underlying56 rfl (.ro 0 rfl)) ?_
  refine lp rfl (p_mv rfl) ?_
  refine lj_seq ?_
  obtain ⟨f7, hf7, hm⟩ := bindS hm
  refine cj_range (γ := Unit) (m := (a0.length : Int)) hf7 () (fun u4 g5 => [(0, s0_.v), (1, .string a1), (4, .int .i64 0)]) (fun u4 g5 => Sat w0 (keys ([] : List Ent)) A [.ro (RdS R9 (SV.v s0_) a0)]) ⟨rfl, rfl, rfl, rfl, rfl, trivial⟩ (fun _ h => h.picks [0] rfl) (nat_lt _) (fun _ h => (FactAt.get (F := RdS R9 (SV.v s0_) a0) (.ro 0 rfl) h).1) (fun _ _ => ⟨rfl, rfl, rfl, rfl⟩) ⟨rfl, rfl, rfl, rfl, rfl⟩ rfl rfl rfl (fun u4 g5 e => ?_) (fun aftk6 i1 x2 u4 g5 k6 hx3 hs J hJk6 hBk6 hX I cnk6 => ?_)
  · have hm := Flow.fin_b e hm
    refine nj_seq ?_
    refine cj_seq ?_
    refine cj_reg ?_
    refine lp rfl (p_as rfl) ?_
    refine lj_seq ?_
    obtain rfl := Option.some.inj hm
    exact cj_rt () [] Tryz.results33 (.tmp rfl .nil) rfl rfl
  · have hRk6 : ∀ t, k6 = .ret t → some t = some r := fun t e => by rw [hX t e] at hm; exact hm
    have hm := hs
    refine cj_seq ?_
    refine cj_reg ?_
    refine lp rfl (p_mv rfl) ?_
    refine lp rfl (p_as rfl) ?_
    refine lj_seq ?_
    refine cj_seq ?_
    refine cj_reg ?_
    refine lp rfl (p_mv rfl) ?_
    refine lp rfl (p_mv rfl) ?_
    refine lp rfl (p_mv rfl) ?_
    refine lp rfl (p_idx Tryz.underlying56 ty9 rfl rfl (.ro 0 rfl) (getI_nat.trans hx3)) ?_
    refine lp rfl (p_lde (o := 0) ty9 rfl rfl (.ro 0 rfl) hx3 rfl) ?_
    refine lp rfl (p_eqs rfl rfl) ?_
    refine lj_seq ?_
    refine cj_if (b := a1.toList == x2.toList) rfl (fun hb => ?_) (fun hb => ?_)
    · have hm := ifB_t hb hm
      refine cj_seq ?_
      refine cj_reg ?_
      refine lp rfl (p_mv rfl) ?_
      refine lp rfl (p_as rfl) ?_
      refine lj_seq ?_
      have hm := hRk6 _ (Option.some.inj hm).symm
      obtain rfl := Option.some.inj hm
      exact cj_rt () [] Tryz.results33 (.tmp rfl .nil) rfl rfl
    · have hm := ifB_f hb hm
      refine cj_skip ?_
      refine nj_blk ?_
      exact cnk6 _ _ () () (hJk6 _ (Option.some.inj hm).symm) ⟨rfl, rfl, rfl, rfl, rfl, trivial⟩ (fun _ h => h.picks [0] rfl)
theorem ok_stringslite_HasPrefix (a0 : ByteArray) (a1 : ByteArray) {r : Bool} (hm : m_stringslite_HasPrefix a0 a1 = some r) :
    Ctr Tryz.prog 124 [.string a0, .string a1].toArray ([] : List Ent) [] (X := Unit) (fun _ => .bool r) (fun _ => []) := by
  unfold m_stringslite_HasPrefix at hm
  refine ctr_mk (vs := [(0, .string a0), (1, .string a1)]) Tryz.func124 rfl Tryz.ntmps124 rfl ⟨rfl, rfl, trivial⟩ (fun w0 A => ?_)
  refine cj_seq ?_
  refine cj_reg ?_
  refine lp rfl (p_as rfl) ?_
  refine lj_seq ?_
  refine cj_seq ?_
  refine cj_reg ?_
  refine lp rfl (p_mv rfl) ?_
  refine lp rfl (p_lens Tryz.underlying9 rfl) ?_
  refine lp rfl (p_mv rfl) ?_
  refine lp rfl (p_lens Tryz.underlying9 rfl) ?_
  refine lp rfl (p_geq rfl rfl) ?_
  refine lp rfl (p_mv rfl) ?_
  refine lcase (i := 10) (decide ((a0.size : Int) ≥ (a1.size : Int))) rfl (fun hb => ?_) (fun hb => ?_)
  · have hm := ifB_t hb hm
    refine lg true rfl rfl rfl ?_
    refine lp rfl (p_mv rfl) ?_
    refine lg true rfl rfl rfl ?_
    refine lp rfl (p_mv rfl) ?_
    refine lg true rfl rfl rfl ?_
    refine lp rfl (p_lens Tryz.underlying9 rfl) ?_
    refine lg true rfl rfl rfl ?_
    obtain ⟨c1, hc1, hm⟩ := bindS hm
    refine lp rfl (p_strs Tryz.underlying9 rfl rfl rfl rfl rfl rfl rfl hc1) ?_
    refine lg true rfl rfl rfl ?_
    refine lp rfl (p_mv rfl) ?_
    refine lg true rfl rfl rfl ?_
    refine lp rfl (p_eqs rfl rfl) ?_
    refine lp rfl (p_pkt rfl rfl) ?_
    refine lp rfl (p_as rfl) ?_
    refine lj_seq ?_
    obtain rfl := Option.some.inj hm
    exact cj_rt () [] Tryz.results124 (.tmp rfl .nil) rfl rfl
  · have hm := ifB_f hb hm
    refine ls true rfl rfl rfl rfl ?_
    refine ls true rfl rfl rfl rfl ?_
    refine ls true rfl rfl rfl rfl ?_
    refine ls true rfl rfl rfl rfl ?_
    refine ls true rfl rfl rfl rfl ?_
    refine ls true rfl rfl rfl rfl ?_
    refine lp rfl (p_pkf rfl rfl) ?_
    refine lp rfl (p_as rfl) ?_
    refine lj_seq ?_
    obtain rfl := Option.some.inj hm
    exact cj_rt () [] Tryz.results124 (.tmp rfl .nil) rfl rfl
theorem ok_stringslite_CutPrefix (a0 : ByteArray) (a1 : ByteArray) {r : ByteArray × Bool} (hm : m_stringslite_CutPrefix a0 a1 = some r) :
    Ctr Tryz.prog 86 [.string a0, .string a1].toArray ([] : List Ent) [] (X := Unit) (fun _ => .tuple [.string r.1, .bool r.2].toArray) (fun _ => []) := by
  unfold m_stringslite_CutPrefix at hm
  refine ctr_mk (vs := [(0, .string a0), (1, .string a1)]) Tryz.func86 rfl Tryz.ntmps86 rfl ⟨rfl, rfl, trivial⟩ (fun w0 A => ?_)
  refine cj_seq ?_
  refine cj_reg ?_
  refine lp rfl (p_as rfl) ?_
  refine lp rfl (p_as rfl) ?_
  refine lj_seq ?_
  refine cj_seq ?_
  refine cj_seq ?_
  refine cj_reg ?_
  refine lp rfl (p_mv rfl) ?_
  refine lp rfl (p_mv rfl) ?_
  obtain ⟨y1, hy1, hm⟩ := bindS hm
  refine r_call [] cf124 rfl rfl (ok_stringslite_HasPrefix a0 a1 hy1) rfl rfl .nil (fun _ => rfl) rfl (fun _ => ?_)
  refine lp rfl (p_not rfl) ?_
  refine lj_seq ?_
  refine cj_if (b := !y1) rfl (fun hb => ?_) (fun hb => ?_)
  · have hm := ifB_t hb hm
    refine cj_seq ?_
    refine cj_reg ?_
    refine lp rfl (p_mv rfl) ?_
    refine lp rfl (p_as rfl) ?_
    refine lp rfl (p_as rfl) ?_
    refine lj_seq ?_
    obtain rfl := Option.some.inj hm
    exact cj_rt () [] Tryz.results86 (.tmp rfl (.tmp rfl .nil)) rfl rfl
  · have hm := ifB_f hb hm
    refine cj_skip ?_
    refine nj_seq ?_
    refine cj_seq ?_
    refine cj_reg ?_
    refine lp rfl (p_mv rfl) ?_
    refine lp rfl (p_mv rfl) ?_
    refine lp rfl (p_lens Tryz.underlying9 rfl) ?_
    obtain ⟨c2, hc2, hm⟩ := bindS hm
    refine lp rfl (p_strs Tryz.underlying9 rfl rfl rfl rfl rfl rfl rfl hc2) ?_
    refine lp rfl (p_as rfl) ?_
    refine lp rfl (p_as rfl) ?_
    refine lj_seq ?_
    obtain rfl := Option.some.inj hm
    exact cj_rt () [] Tryz.results86 (.tmp rfl (.tmp rfl .nil)) rfl rfl
theorem ok_strings_CutPrefix (a0 : ByteArray) (a1 : ByteArray) {r : ByteArray × Bool} (hm : m_strings_CutPrefix a0 a1 = some r) :
    Ctr Tryz.prog 60 [.string a0, .string a1].toArray ([] : List Ent) [] (X := Unit) (fun _ => .tuple [.string r.1, .bool r.2].toArray) (fun _ => []) := by
  unfold m_strings_CutPrefix at hm
  refine ctr_mk (vs := [(0, .string a0), (1, .string a1)]) Tryz.func60 rfl Tryz.ntmps60 rfl ⟨rfl, rfl, trivial⟩ (fun w0 A => ?_)
  refine cj_seq ?_
  refine cj_reg ?_
  refine lp rfl (p_as rfl) ?_
  refine lp rfl (p_as rfl) ?_
  refine lj_seq ?_
  refine cj_seq ?_
  refine cj_reg ?_
  refine lp rfl (p_mv rfl) ?_
  refine lp rfl (p_mv rfl) ?_
  obtain ⟨y1, hy1, hm⟩ := bindS hm
  refine r_call [] cf86 rfl rfl (ok_stringslite_CutPrefix a0 a1 hy1) rfl rfl .nil (fun _ => rfl) rfl (fun _ => ?_)
  refine lp rfl (p_ext rfl rfl) ?_
  refine lp rfl (p_ext rfl rfl) ?_
  refine lp rfl (p_as rfl) ?_
  refine lp rfl (p_as rfl) ?_
  refine lj_seq ?_
  obtain rfl := Option.some.inj hm
  exact cj_rt () [] Tryz.results60 (.tmp rfl (.tmp rfl .nil)) rfl rfl
theorem ok_kit_Number (a0 : ByteArray) (a1 : Int) {r : Int × Bool} (hm : m_kit_Number a0 a1 = some r) :
    Ctr Tryz.prog 34 [.string a0, .int .i64 a1].toArray ([] : List Ent) [] (X := Unit) (fun _ => .tuple [.int .i64 r.1, .bool r.2].toArray) (fun _ => []) := by
  unfold m_kit_Number at hm
  refine ctr_mk (vs := [(0, .string a0), (1, .int .i64 a1)]) Tryz.func34 rfl Tryz.ntmps34 rfl ⟨rfl, rfl, trivial⟩ (fun w0 A => ?_)
  refine cj_seq ?_
  refine cj_reg ?_
  refine lp rfl (p_as rfl) ?_
  refine lp rfl (p_as rfl) ?_
  refine lj_seq ?_
  refine cj_seq ?_
  refine cj_reg ?_
  refine lp rfl (p_mv rfl) ?_
  obtain ⟨y1, hy1, hm⟩ := bindS hm
  refine r_call [] cf60 rfl rfl (ok_strings_CutPrefix a0 (ByteArray.mk [45].toArray) hy1) rfl rfl .nil (fun _ => rfl) rfl (fun _ => ?_)
  refine lp rfl (p_mv rfl) ?_
  refine lp rfl (p_ext rfl rfl) ?_
  refine lp rfl (p_ext rfl rfl) ?_
  refine lp rfl (p_as rfl) ?_
  refine lp rfl (p_as rfl) ?_
  refine lj_seq ?_
  refine cj_seq ?_
  refine cj_seq ?_
  refine cj_reg ?_
  obtain ⟨k4, hk4, hm⟩ := bindS hm
  have hRk4 : ∀ t, k4 = .inr t → some t = some r := fun t e => by rw [e] at hm; exact hm
  refine lj_join (σ := Bool) (γ := Unit) (fun u2 => k4 = .inl u2) (fun u2 g3 => [(4, .int .i64 0), (5, .bool false), (6, .string y1.1), (7, .bool y1.2), (40, .bool u2)]) (fun u2 g3 => Sat w0 (keys ([] : List Ent)) A []) (fun u2 g3 hq => ?_) (fun J cnk4 => ?_)
  · have hm := Sum.fin_l hq hm
    refine cj_if (b := u2) rfl (fun hb => ?_) (fun hb => ?_)
    · have hm := ifB_t hb hm
      refine cj_seq ?_
      refine cj_reg ?_
      refine lp rfl (p_as rfl) ?_
      refine lp rfl (p_as rfl) ?_
      refine lj_seq ?_
      obtain rfl := Option.some.inj hm
      exact cj_rt () [] Tryz.results34 (.tmp rfl (.tmp rfl .nil)) rfl rfl
    · have hm := ifB_f hb hm
      refine cj_skip ?_
      refine nj_seq ?_
      refine cj_seq ?_
      refine cj_reg ?_
      refine lp rfl (p_mv rfl) ?_
      obtain ⟨y7, hy7, hm⟩ := bindS hm
      refine r_call [] cf62 rfl rfl (ok_strconv_Atoi y1.1 hy7) rfl rfl .nil (fun _ => rfl) rfl (fun _ => ?_)
      refine lp rfl (p_mv rfl) ?_
      refine lp rfl (p_ext rfl rfl) ?_
      refine lp rfl (p_ext rfl rfl) ?_
      refine lp rfl (p_as rfl) ?_
      refine lp rfl (p_as rfl) ?_
      refine lj_seq ?_
      refine cj_seq ?_
      refine cj_seq ?_
      refine cj_reg ?_
      refine lp rfl (p_mv rfl) ?_
      refine lj_seq ?_
      refine cj_if (b := y1.2) rfl (fun hb => ?_) (fun hb => ?_)
      · have hm := ifB_t hb hm
        refine cj_reg ?_
        refine lp rfl (p_mv rfl) ?_
        refine lp rfl (p_neg rfl) ?_
        refine lp rfl (p_as rfl) ?_
        refine lj_seq ?_
        refine cj_seq ?_
        refine cj_quiet (by kernel_rfl) (by kernel_rfl) ?_
        refine q_p rfl (p_mv rfl) ?_
        refine q_p rfl (p_mv rfl) ?_
        refine q_p rfl (p_eqni Tryz.underlying117 (by kernel_rfl) rfl) ?_
        refine q_p rfl (p_as rfl) ?_
        refine q_p rfl (p_as rfl) ?_
        refine q_nil ?_
        refine nj_seq ?_
        obtain rfl := Option.some.inj hm
        exact cj_rt () [] Tryz.results34 (.tmp rfl (.tmp rfl .nil)) rfl rfl
      · have hm := ifB_f hb hm
        refine cj_skip ?_
        refine nj_seq ?_
        refine cj_seq ?_
        refine cj_quiet (by kernel_rfl) (by kernel_rfl) ?_
        refine q_p rfl (p_mv rfl) ?_
        refine q_p rfl (p_mv rfl) ?_
        refine q_p rfl (p_eqni Tryz.underlying117 (by kernel_rfl) rfl) ?_
        refine q_p rfl (p_as rfl) ?_
        refine q_p rfl (p_as rfl) ?_
        refine q_nil ?_
        refine nj_seq ?_
        obtain rfl := Option.some.inj hm
        exact cj_rt () [] Tryz.results34 (.tmp rfl (.tmp rfl .nil)) rfl rfl
  · have hm := hk4
    refine lp rfl (p_mv rfl) ?_
    refine lp rfl (p_eqs rfl rfl) ?_
    refine lp rfl (p_mv rfl) ?_
    refine lcase (i := 17) (y1.1.toList == ByteArray.empty.toList) rfl (fun hb => ?_) (fun hb => ?_)
    · have hm := ifB_t hb hm
      refine ls false rfl rfl rfl rfl ?_
      refine ls false rfl rfl rfl rfl ?_
      refine ls false rfl rfl rfl rfl ?_
      refine ls false rfl rfl rfl rfl ?_
      refine lp rfl (p_pkt rfl rfl) ?_
      refine lp rfl (p_mv rfl) ?_
      refine ls false rfl rfl rfl rfl ?_
      refine ls false rfl rfl rfl rfl ?_
      refine ls false rfl rfl rfl rfl ?_
      refine lp rfl (p_pkt rfl rfl) ?_
      refine lp rfl (p_mv rfl) ?_
      refine ls false rfl rfl rfl rfl ?_
      refine ls false rfl rfl rfl rfl ?_
      refine ls false rfl rfl rfl rfl ?_
      refine ls false rfl rfl rfl rfl ?_
      refine lsu rfl rfl rfl rfl ?_
      refine lsu rfl rfl rfl rfl ?_
      refine lsu rfl rfl rfl rfl ?_
      refine lsu rfl rfl rfl rfl ?_
      refine lsu rfl rfl rfl rfl ?_
      refine lsu rfl rfl rfl rfl ?_
      refine ls false rfl rfl rfl rfl ?_
      refine lp rfl (p_pkt rfl rfl) ?_
      refine lj_nil ?_
      exact cnk4 _ _ true () (Option.some.inj hm).symm ⟨rfl, rfl, rfl, rfl, rfl, trivial⟩ (fun _ h => h.picks [] rfl)
    · have hm := ifB_f hb hm
      refine lg false rfl rfl rfl ?_
      refine lp rfl (p_mv rfl) ?_
      refine lg false rfl rfl rfl ?_
      refine lp rfl (p_lens Tryz.underlying9 rfl) ?_
      refine lg false rfl rfl rfl ?_
      refine lp rfl (p_mv rfl) ?_
      refine lg false rfl rfl rfl ?_
      refine lp rfl (p_gtr rfl rfl) ?_
      refine lp rfl (p_pkf rfl rfl) ?_
      refine lp rfl (p_mv rfl) ?_
      refine lcase (i := 23) (decide ((y1.1.size : Int) > a1)) rfl (fun hb => ?_) (fun hb => ?_)
      · have hm := ifB_t hb hm
        refine ls false rfl rfl rfl rfl ?_
        refine ls false rfl rfl rfl rfl ?_
        refine ls false rfl rfl rfl rfl ?_
        refine lp rfl (p_pkt rfl rfl) ?_
        refine lp rfl (p_mv rfl) ?_
        refine ls false rfl rfl rfl rfl ?_
        refine ls false rfl rfl rfl rfl ?_
        refine ls false rfl rfl rfl rfl ?_
        refine ls false rfl rfl rfl rfl ?_
        refine lsu rfl rfl rfl rfl ?_
        refine lsu rfl rfl rfl rfl ?_
        refine lsu rfl rfl rfl rfl ?_
        refine lsu rfl rfl rfl rfl ?_
        refine lsu rfl rfl rfl rfl ?_
        refine lsu rfl rfl rfl rfl ?_
        refine ls false rfl rfl rfl rfl ?_
        refine lp rfl (p_pkt rfl rfl) ?_
        refine lj_nil ?_
        exact cnk4 _ _ true () (Option.some.inj hm).symm ⟨rfl, rfl, rfl, rfl, rfl, trivial⟩ (fun _ h => h.picks [] rfl)
      · have hm := ifB_f hb hm
        refine lg false rfl rfl rfl ?_
        refine lp rfl (p_mv rfl) ?_
        refine lg false rfl rfl rfl ?_
        obtain ⟨y5, hy5, hm⟩ := bindS hm
        refine r_call [] cf61 rfl rfl (ok_strings_Trim y1.1 (ByteArray.mk [48, 49, 50, 51, 52, 53, 54, 55, 56, 57].toArray) hy5) rfl rfl .nil (fun _ => rfl) rfl (fun _ => ?_)
        refine lg false rfl rfl rfl ?_
        refine lp rfl (p_nes rfl rfl) ?_
        refine lp rfl (p_pkf rfl rfl) ?_
        refine lp rfl (p_mv rfl) ?_
        refine lcase (i := 28) (!(y5.toList == ByteArray.empty.toList)) rfl (fun hb => ?_) (fun hb => ?_)
        · have hm := ifB_t hb hm
          refine ls false rfl rfl rfl rfl ?_
          refine ls false rfl rfl rfl rfl ?_
          refine ls false rfl rfl rfl rfl ?_
          refine ls false rfl rfl rfl rfl ?_
          refine lsu rfl rfl rfl rfl ?_
          refine lsu rfl rfl rfl rfl ?_
          refine lsu rfl rfl rfl rfl ?_
          refine lsu rfl rfl rfl rfl ?_
          refine lsu rfl rfl rfl rfl ?_
          refine lsu rfl rfl rfl rfl ?_
          refine ls false rfl rfl rfl rfl ?_
          refine lp rfl (p_pkt rfl rfl) ?_
          refine lj_nil ?_
          exact cnk4 _ _ true () (Option.some.inj hm).symm ⟨rfl, rfl, rfl, rfl, rfl, trivial⟩ (fun _ h => h.picks [] rfl)
        · have hm := ifB_f hb hm
          refine lg false rfl rfl rfl ?_
          refine lp rfl (p_mv rfl) ?_
          refine lg false rfl rfl rfl ?_
          obtain ⟨c6, hc6, hm⟩ := bindS hm
          refine lp rfl (p_stri Tryz.underlying9 rfl rfl hc6) ?_
          refine lg false rfl rfl rfl ?_
          refine lp rfl (p_eql rfl rfl) ?_
          refine lg false rfl rfl rfl ?_
          refine lp rfl (p_mv rfl) ?_
          refine lcase (i := 32) (c6 == 48) rfl (fun hb => ?_) (fun hb => ?_)
          · have hm := ifB_t hb hm
            refine lg true rfl rfl rfl ?_
            refine lp rfl (p_mv rfl) ?_
            refine lg true rfl rfl rfl ?_
            refine lp rfl (p_lens Tryz.underlying9 rfl) ?_
            refine lg true rfl rfl rfl ?_
            refine lp rfl (p_gtr rfl rfl) ?_
            refine lg true rfl rfl rfl ?_
            refine lp rfl (p_mv rfl) ?_
            refine lcase (i := 36) (decide ((y1.1.size : Int) > 1)) rfl (fun hb => ?_) (fun hb => ?_)
            · have hm := ifB_t hb hm
              refine ls false rfl rfl rfl rfl ?_
              refine lg true rfl rfl rfl ?_
              refine lp rfl (p_pkt rfl rfl) ?_
              refine lg false rfl rfl rfl ?_
              refine lp rfl (p_pkt rfl rfl) ?_
              refine lp rfl (p_pkf rfl rfl) ?_
              refine lj_nil ?_
              exact cnk4 _ _ true () (Option.some.inj hm).symm ⟨rfl, rfl, rfl, rfl, rfl, trivial⟩ (fun _ h => h.picks [] rfl)
            · have hm := ifB_f hb hm
              refine lg false rfl rfl rfl ?_
              refine lp rfl (p_mv rfl) ?_
              refine lg true rfl rfl rfl ?_
              refine lp rfl (p_pkf rfl rfl) ?_
              refine lg false rfl rfl rfl ?_
              refine lp rfl (p_pkt rfl rfl) ?_
              refine lp rfl (p_pkf rfl rfl) ?_
              refine lj_nil ?_
              exact cnk4 _ _ y1.2 () (Option.some.inj hm).symm ⟨rfl, rfl, rfl, rfl, rfl, trivial⟩ (fun _ h => h.picks [] rfl)
          · have hm := ifB_f hb hm
            refine ls true rfl rfl rfl rfl ?_
            refine ls true rfl rfl rfl rfl ?_
            refine ls true rfl rfl rfl rfl ?_
            refine ls true rfl rfl rfl rfl ?_
            refine lsu rfl rfl rfl rfl ?_
            refine ls true rfl rfl rfl rfl ?_
            refine lg false rfl rfl rfl ?_
            refine lp rfl (p_pkf rfl rfl) ?_
            refine lp rfl (p_pkf rfl rfl) ?_
            refine lj_nil ?_
            exact cnk4 _ _ false () (Option.some.inj hm).symm ⟨rfl, rfl, rfl, rfl, rfl, trivial⟩ (fun _ h => h.picks [] rfl)
theorem ok_chord_Parse (a0 : ByteArray) {r : TChord × Int} (hm : m_chord_Parse a0 = some r) :
    Ctr Tryz.prog 9 [.string a0].toArray ([] : List Ent) [] (X := Unit) (fun _ => .tuple [.agg (R27.enc r.1).toArray, .int .i64 r.2].toArray) (fun _ => []) := by
  unfold m_chord_Parse at hm
  refine ctr_mk (vs := [(0, .string a0)]) Tryz.func9 rfl Tryz.ntmps9 rfl ⟨rfl, trivial⟩ (fun w0 A => ?_)
  refine cj_seq ?_
  refine cj_reg ?_
  refine r_al ty27 rfl (fun b1 => ?_)
  refine lp rfl (p_as rfl) ?_
  refine lj_seq ?_
  refine cj_seq ?_
  refine cj_reg ?_
  refine lp rfl (p_mv rfl) ?_
  obtain ⟨y2, hy2, hm⟩ := bindS hm
  refine r_call [] cf32 rfl rfl (ok_strings_Cut a0 (ByteArray.mk [32].toArray) hy2) rfl rfl .nil (fun _ => rfl) rfl (fun _ => ?_)
  refine lp rfl (p_mv rfl) ?_
  refine lp rfl (p_ext rfl rfl) ?_
  refine lp rfl (p_ext rfl rfl) ?_
  refine lp rfl (p_ext rfl rfl) ?_
  refine lp rfl (p_as rfl) ?_
  refine lp rfl (p_as rfl) ?_
  refine lp rfl (p_as rfl) ?_
  refine lj_seq ?_
  refine cj_seq ?_
  refine cj_reg ?_
  refine lp rfl (p_mv rfl) ?_
  obtain ⟨y3, hy3, hm⟩ := bindS hm
  refine r_call [] cf32 rfl rfl (ok_strings_Cut y2.2.1 (ByteArray.mk [47].toArray) hy3) rfl rfl .nil (fun _ => rfl) rfl (fun _ => ?_)
  refine lp rfl (p_mv rfl) ?_
  refine lp rfl (p_ext rfl rfl) ?_
  refine lp rfl (p_ext rfl rfl) ?_
  refine lp rfl (p_ext rfl rfl) ?_
  refine lp rfl (p_as rfl) ?_
  refine lp rfl (p_as rfl) ?_
  refine lp rfl (p_as rfl) ?_
  refine lj_seq ?_
  refine cj_seq ?_
  refine cj_reg ?_
  obtain ⟨y4, hy4, hm⟩ := bindS hm
  refine r_call [] cf29 rfl rfl (ok_chord_rootWords  hy4) rfl rfl .nil (fun _ => rfl) rfl (fun s5 => ?_)
  refine lp rfl (p_mv rfl) ?_
  obtain ⟨y6, hy6, hm⟩ := bindS hm
  refine r_call [] cf33 rfl rfl (ok_slices_Index_string_string s5 y4 y2.1 hy6) rfl rfl (.cons (.row 0 rfl) .nil) (fun _ => rfl) rfl (fun _ => ?_)
  obtain ⟨y7, hy7, hm⟩ := bindS hm
  refine r_call [] cf30 rfl rfl (ok_chord_kindWords  hy7) rfl rfl .nil (fun _ => rfl) rfl (fun s8 => ?_)
  refine lp rfl (p_mv rfl) ?_
  obtain ⟨y9, hy9, hm⟩ := bindS hm
  refine r_call [] cf33 rfl rfl (ok_slices_Index_string_string s8 y7 y3.1 hy9) rfl rfl (.cons (.row 0 rfl) .nil) (fun _ => rfl) rfl (fun _ => ?_)
  refine lp rfl (p_bld [.int .i64 y6, .int .i64 y9, .int .i64 0] rfl (fun _ => by kernel_rfl)) ?_
  refine r_al ty27 rfl (fun b10 => ?_)
  refine r_sb (vs := [.int .i64 y6, .int .i64 y9, .int .i64 0]) (j := 0) ty27 rfl rfl rfl rfl rfl rfl rfl ?_
  refine lj_seq ?_
  refine cj_seq ?_
  refine cj_seq ?_
  refine cj_reg ?_
  obtain ⟨k13, hk13, hm⟩ := bindS hm
  have hRk13 : ∀ t, k13 = .inr t → some t = some r := fun t e => by rw [e] at hm; exact hm
  refine lj_join (σ := Bool) (γ := Unit) (fun u11 => k13 = .inl u11) (fun u11 g12 => [(2, .pointer (some ⟨b1, 0, none⟩)), (3, .int .i64 0), (8, .string y3.2.1), (9, .bool y3.2.2), (10, .pointer (some ⟨b10, 0, none⟩)), (45, .bool u11)]) (fun u11 g12 => Sat w0 (keys ([] : List Ent)) A [.box b10 27 [.int .i64 y6, .int .i64 y9, .int .i64 0], .box b1 27 [.int .i64 0, .int .i64 0, .int .i64 0]]) (fun u11 g12 hq => ?_) (fun J cnk13 => ?_)
  · have hm := Sum.fin_l hq hm
    refine cj_if (b := u11) rfl (fun hb => ?_) (fun hb => ?_)
    · have hm := ifB_t hb hm
      refine cj_seq ?_
      refine cj_reg ?_
      refine lp rfl (p_bld [.int .i64 0, .int .i64 0, .int .i64 0] rfl (fun _ => by kernel_rfl)) ?_
      refine r_sb (vs := [.int .i64 0, .int .i64 0, .int .i64 0]) (j := 1) ty27 rfl rfl rfl rfl rfl rfl rfl ?_
      refine lp rfl (p_as rfl) ?_
      refine lj_seq ?_
      obtain rfl := Option.some.inj hm
      exact cj_rt () [] Tryz.results9 (.agg (k := 1) ty27 rfl rfl rfl (.tmp rfl .nil)) rfl rfl
    · have hm := ifB_f hb hm
      refine cj_skip ?_
      refine nj_seq ?_
      refine cj_seq ?_
      refine cj_seq ?_
      refine cj_reg ?_
      refine lp rfl (p_mv rfl) ?_
      refine lj_seq ?_
      obtain ⟨k17, hk17, hm⟩ := bindS hm
      have hRk17 : ∀ t, k17 = .inr t → some t = some r := fun t e => by rw [e] at hm; exact hm
      refine cj_joinK (σ := Int) (γ := Unit) (fun u15 => k17 = .inl u15) (fun u15 g16 => [(2, .pointer (some ⟨b1, 0, none⟩)), (3, .int .i64 0), (10, .pointer (some ⟨b10, 0, none⟩))]) (fun u15 g16 => Sat w0 (keys ([] : List Ent)) A [.box b10 27 [.int .i64 y6, .int .i64 y9, .int .i64 u15], .box b1 27 [.int .i64 0, .int .i64 0, .int .i64 0]]) (fun u15 g16 hq => ?_) (fun J cnk17 => ?_)
      · have hm := Sum.fin_l hq hm
        refine cj_seq ?_
        refine cj_seq ?_
        refine cj_reg ?_
        refine lp rfl (p_lbw ty27 rfl (j := 0) rfl rfl) ?_
        obtain ⟨y22, hy22, hm⟩ := bindS hm
        refine r_call [] cf6 rfl rfl (ok_chord_CheckChord (TChord.mk y6 y9 u15) hy22) rfl rfl .nil (fun _ => rfl) rfl (fun _ => ?_)
        refine lp rfl (p_as rfl) ?_
        refine lj_seq ?_
        refine cj_seq ?_
        refine cj_reg ?_
        refine lp rfl (p_mv rfl) ?_
        refine lp rfl (p_neq rfl rfl) ?_
        refine lj_seq ?_
        refine cj_if (b := y22 != 0) rfl (fun hb => ?_) (fun hb => ?_)
        · have hm := ifB_t hb hm
          refine cj_seq ?_
          refine cj_reg ?_
          refine lp rfl (p_bld [.int .i64 0, .int .i64 0, .int .i64 0] rfl (fun _ => by kernel_rfl)) ?_
          refine lp rfl (p_mv rfl) ?_
          refine r_sb (vs := [.int .i64 0, .int .i64 0, .int .i64 0]) (j := 1) ty27 rfl rfl rfl rfl rfl rfl rfl ?_
          refine lp rfl (p_as rfl) ?_
          refine lj_seq ?_
          obtain rfl := Option.some.inj hm
          exact cj_rt () [] Tryz.results9 (.agg (k := 1) ty27 rfl rfl rfl (.tmp rfl .nil)) rfl rfl
        · have hm := ifB_f hb hm
          refine cj_skip ?_
          refine nj_seq ?_
          refine cj_seq ?_
          refine cj_reg ?_
          refine lp rfl (p_lbw ty27 rfl (j := 0) rfl rfl) ?_
          refine r_sb (vs := [.int .i64 y6, .int .i64 y9, .int .i64 u15]) (j := 1) ty27 rfl rfl rfl rfl rfl rfl rfl ?_
          refine lp rfl (p_as rfl) ?_
          refine lj_seq ?_
          obtain rfl := Option.some.inj hm
          exact cj_rt () [] Tryz.results9 (.agg (k := 1) ty27 rfl rfl rfl (.tmp rfl .nil)) rfl rfl
      · have hm := hk17
        refine cj_if (b := y3.2.2) rfl (fun hb => ?_) (fun hb => ?_)
        · have hm := ifB_t hb hm
          refine cj_seq ?_
          refine cj_reg ?_
          refine lp rfl (p_mv rfl) ?_
          obtain ⟨y18, hy18, hm⟩ := bindS hm
          refine r_call [] cf34 rfl rfl (ok_kit_Number y3.2.1 15 hy18) rfl rfl .nil (fun _ => rfl) rfl (fun _ => ?_)
          refine lp rfl (p_mv rfl) ?_
          refine lp rfl (p_ext rfl rfl) ?_
          refine lp rfl (p_ext rfl rfl) ?_
          refine lp rfl (p_as rfl) ?_
          refine lp rfl (p_as rfl) ?_
          refine lj_seq ?_
          refine cj_seq ?_
          refine cj_seq ?_
          refine cj_reg ?_
          obtain ⟨k21, hk21, hm⟩ := bindS hm
          have hRk21 : ∀ t, k21 = .inr t → some t = some k17 := fun t e => by rw [e] at hm; exact hm
          refine lj_join (σ := Bool) (γ := Unit) (fun u19 => k21 = .inl u19) (fun u19 g20 => [(2, .pointer (some ⟨b1, 0, none⟩)), (3, .int .i64 0), (10, .pointer (some ⟨b10, 0, none⟩)), (11, .int .i64 y18.1), (58, .bool u19)]) (fun u19 g20 => Sat w0 (keys ([] : List Ent)) A [.box b10 27 [.int .i64 y6, .int .i64 y9, .int .i64 0], .box b1 27 [.int .i64 0, .int .i64 0, .int .i64 0]]) (fun u19 g20 hq => ?_) (fun J cnk21 => ?_)
          · have hm := Sum.fin_l hq hm
            refine cj_if (b := u19) rfl (fun hb => ?_) (fun hb => ?_)
            · have hm := ifB_t hb hm
              refine cj_seq ?_
              refine cj_reg ?_
              refine lp rfl (p_bld [.int .i64 0, .int .i64 0, .int .i64 0] rfl (fun _ => by kernel_rfl)) ?_
              refine r_sb (vs := [.int .i64 0, .int .i64 0, .int .i64 0]) (j := 1) ty27 rfl rfl rfl rfl rfl rfl rfl ?_
              refine lp rfl (p_as rfl) ?_
              refine lj_seq ?_
              have hm := hRk17 _ (Option.some.inj hm).symm
              obtain rfl := Option.some.inj hm
              exact cj_rt () [] Tryz.results9 (.agg (k := 1) ty27 rfl rfl rfl (.tmp rfl .nil)) rfl rfl
            · have hm := ifB_f hb hm
              refine cj_skip ?_
              refine nj_seq ?_
              refine cj_reg ?_
              refine lp rfl (p_mv rfl) ?_
              refine lp rfl (p_fab fl27_2 rfl) ?_
              refine r_sb (vs := [.int .i64 y18.1]) (j := 0) ty3 rfl rfl rfl rfl rfl rfl rfl ?_
              refine lj_nil ?_
              exact cnk17 _ _ y18.1 () (Option.some.inj hm).symm ⟨rfl, rfl, rfl, trivial⟩ (fun _ h => h.picks [0, 0] rfl)
          · have hm := hk21
            refine lp rfl (p_mv rfl) ?_
            refine lp rfl (p_not rfl) ?_
            refine lp rfl (p_mv rfl) ?_
            refine lcase (i := 55) (!y18.2) rfl (fun hb => ?_) (fun hb => ?_)
            · have hm := ifB_t hb hm
              refine ls false rfl rfl rfl rfl ?_
              refine ls false rfl rfl rfl rfl ?_
              refine lp rfl (p_pkt rfl rfl) ?_
              refine lj_nil ?_
              exact cnk21 _ _ true () (Option.some.inj hm).symm ⟨rfl, rfl, rfl, rfl, rfl, trivial⟩ (fun _ h => h.picks [0, 0] rfl)
            · have hm := ifB_f hb hm
              refine lg false rfl rfl rfl ?_
              refine lp rfl (p_mv rfl) ?_
              refine lg false rfl rfl rfl ?_
              refine lp rfl (p_lss rfl rfl) ?_
              refine lp rfl (p_pkf rfl rfl) ?_
              refine lj_nil ?_
              exact cnk21 _ _ (decide (y18.1 < 1)) () (Option.some.inj hm).symm ⟨rfl, rfl, rfl, rfl, rfl, trivial⟩ (fun _ h => h.picks [0, 0] rfl)
        · have hm := ifB_f hb hm
          refine cj_skip ?_
          exact cnk17 _ _ 0 () (Option.some.inj hm).symm ⟨rfl, rfl, rfl, trivial⟩ (fun _ h => h.picks [0, 0] rfl)
  · have hm := hk13
    refine lp rfl (p_mv rfl) ?_
    refine lp rfl (p_not rfl) ?_
    refine lp rfl (p_mv rfl) ?_
    refine lcase (i := 35) (!y2.2.2) rfl (fun hb => ?_) (fun hb => ?_)
    · have hm := ifB_t hb hm
      refine ls false rfl rfl rfl rfl ?_
      refine ls false rfl rfl rfl rfl ?_
      refine ls false rfl rfl rfl rfl ?_
      refine lp rfl (p_pkt rfl rfl) ?_
      refine lp rfl (p_mv rfl) ?_
      refine ls false rfl rfl rfl rfl ?_
      refine ls false rfl rfl rfl rfl ?_
      refine ls false rfl rfl rfl rfl ?_
      refine ls false rfl rfl rfl rfl ?_
      refine lp rfl (p_pkt rfl rfl) ?_
      refine lj_nil ?_
      exact cnk13 _ _ true () (Option.some.inj hm).symm ⟨rfl, rfl, rfl, rfl, rfl, rfl, trivial⟩ (fun _ h => h.picks [0, 2] rfl)
    · have hm := ifB_f hb hm
      refine lg false rfl rfl rfl ?_
      refine lp rfl (p_fab fl27_0 rfl) ?_
      refine lg false rfl rfl rfl ?_
      refine lp rfl (p_lbs ty3 rfl (j := 0) rfl rfl) ?_
      refine lg false rfl rfl rfl ?_
      refine lp rfl (p_lss rfl rfl) ?_
      refine lp rfl (p_pkf rfl rfl) ?_
      refine lp rfl (p_mv rfl) ?_
      refine lcase (i := 40) (decide (y6 < 0)) rfl (fun hb => ?_) (fun hb => ?_)
      · have hm := ifB_t hb hm
        refine ls false rfl rfl rfl rfl ?_
        refine ls false rfl rfl rfl rfl ?_
        refine ls false rfl rfl rfl rfl ?_
        refine ls false rfl rfl rfl rfl ?_
        refine lp rfl (p_pkt rfl rfl) ?_
        refine lj_nil ?_
        exact cnk13 _ _ true () (Option.some.inj hm).symm ⟨rfl, rfl, rfl, rfl, rfl, rfl, trivial⟩ (fun _ h => h.picks [0, 2] rfl)
      · have hm := ifB_f hb hm
        refine lg false rfl rfl rfl ?_
        refine lp rfl (p_fab fl27_1 rfl) ?_
        refine lg false rfl rfl rfl ?_
        refine lp rfl (p_lbs ty3 rfl (j := 0) rfl rfl) ?_
        refine lg false rfl rfl rfl ?_
        obtain ⟨y14, hy14, hm⟩ := bindS hm
        refine r_call [] cf23 rfl rfl (ok_chord_isKind y9 hy14) rfl rfl .nil (fun _ => rfl) rfl (fun _ => ?_)
        refine lg false rfl rfl rfl ?_
        refine lp rfl (p_not rfl) ?_
        refine lp rfl (p_pkf rfl rfl) ?_
        refine lj_nil ?_
        exact cnk13 _ _ (!y14) () (Option.some.inj hm).symm ⟨rfl, rfl, rfl, rfl, rfl, rfl, trivial⟩ (fun _ h => h.picks [0, 2] rfl)
theorem ok_chord_tones (a0 : TChord) {r : (List Int)} (hm : m_chord_tones a0 = some r) :
    Ctr Tryz.prog 35 [.agg (R27.enc a0).toArray].toArray ([] : List Ent) [] (X := SV) (fun s => s.v) (fun s => [.row R3 (SV.v s) r]) := by
  unfold m_chord_tones at hm
  refine ctr_mk (vs := [(0, .agg (R27.enc a0).toArray)]) Tryz.func35 rfl Tryz.ntmps35 rfl ⟨rfl, trivial⟩ (fun w0 A => ?_)
  refine cj_seq ?_
  refine cj_reg ?_
  refine r_bx (cs := [.int .i64 a0.Root, .int .i64 a0.Kind, .int .i64 a0.Turn]) rfl rfl rfl (fun b1 => ?_)
  refine lp rfl (p_as rfl) ?_
  refine lj_seq ?_
  refine cj_seq ?_
  refine cj_reg ?_
  refine lp rfl (p_fab fl27_1 rfl) ?_
  refine lp rfl (p_lbs ty3 rfl (j := 0) rfl rfl) ?_
  obtain ⟨y2, hy2, hm⟩ := bindS hm
  refine r_callN [] cf24 rfl rfl (ok_chord_above a0.Kind hy2) rfl rfl .nil rfl (fun s3 => ?_)
  refine lp rfl (p_as rfl) ?_
  refine lj_seq ?_
  refine cj_seq ?_
  refine cj_reg ?_
  refine lp rfl (p_as rfl) ?_
  refine lj_seq ?_
  refine cj_seq ?_
  refine cj_seq ?_
  refine cj_reg ?_
  refine lp rfl (p_mv rfl) ?_
  refine lp rfl (p_len Tryz.underlying22 rfl (.ro 0 rfl)) ?_
  refine lp rfl (p_mv rfl) ?_
  refine lj_seq ?_
  refine cj_nil R3 ?_
  obtain ⟨f11, hf11, hm⟩ := bindS hm
  refine cj_range (γ := SV) (m := (y2.length : Int)) hf11 nilS (fun u8 g9 => [(1, .pointer (some ⟨b1, 0, none⟩)), (2, .slice none 0 0), (3, s3.v), (4, g9.v)]) (fun u8 g9 => Sat w0 (keys ([] : List Ent)) A [.ro (RdS R3 (SV.v s3) y2), .box b1 27 [.int .i64 a0.Root, .int .i64 a0.Kind, .int .i64 a0.Turn], .row R3 (SV.v g9) u8]) ⟨rfl, rfl, rfl, rfl, rfl, rfl, trivial⟩ (fun _ h => h.picks [1, 1, 0] rfl) (nat_lt _) (fun _ h => (FactAt.get (F := RdS R3 (SV.v s3) y2) (.ro 1 rfl) h).1) (fun _ _ => ⟨rfl, rfl, rfl, rfl⟩) ⟨rfl, rfl, rfl, rfl, rfl⟩ rfl rfl rfl (fun u8 g9 e => ?_) (fun aftk10 i4 x5 u8 g9 k10 hx6 hs J hJk10 hBk10 hX I cnk10 => ?_)
  · have hm := Flow.fin_b e hm
    refine nj_seq ?_
    refine cj_seq ?_
    refine cj_reg ?_
    refine lp rfl (p_mv rfl) ?_
    refine lp rfl (p_as rfl) ?_
    refine lj_seq ?_
    obtain rfl := Option.some.inj hm
    exact cj_rt g9 [2] Tryz.results35 (.tmp rfl .nil) rfl rfl
  · have hRk10 : ∀ t, k10 = .ret t → some t = some r := fun t e => by rw [hX t e] at hm; exact hm
    have hm := hs
    refine cj_seq ?_
    refine cj_reg ?_
    refine lp rfl (p_mv rfl) ?_
    refine lp rfl (p_as rfl) ?_
    refine lj_seq ?_
    refine cj_pure (F := RdS R3 (SV.v g9) u8) (.row 2 rfl) (fun _ h => h.pures) (fun hq18 => ?_)
    obtain ⟨z13, hz13, hm⟩ := bindS hm
    obtain ⟨e14, he14, hm⟩ := bindS hm
    obtain ⟨q16, hq16, hm⟩ := bindS hm
    refine cj_anyT [0, 1, 2, 3, 4, 5, 6, 7, 8, 9, 10, 11, 12, 13, 14, 17] [] (Sat w0 (keys ([] : List Ent)) A [.ro (RdS R3 (SV.v s3) y2), .box b1 27 [.int .i64 a0.Root, .int .i64 a0.Kind, .int .i64 a0.Turn]]) (Sat w0 (keys ([] : List Ent)) A [.ro (RdS R3 (SV.v s3) y2), .box b1 27 [.int .i64 a0.Root, .int .i64 a0.Kind, .int .i64 a0.Turn]]) (by kernel_rfl) ?_
    refine at_take2 0 rfl (by kernel_rfl) (by kernel_rfl) (by kernel_rfl) (fun _ h => h.picks [0, 0] rfl) rfl rfl (p_mv rfl) (fun _ h => h.picks [0, 0] rfl) ?_
    refine at_take2 1 rfl (by kernel_rfl) (by kernel_rfl) (by kernel_rfl) (fun _ h => h.picks [0, 0] rfl) rfl rfl (p_fab fl27_0 rfl) (fun _ h => h.picks [0, 0] rfl) ?_
    refine at_take2 2 rfl (by kernel_rfl) (by kernel_rfl) (by kernel_rfl) (fun _ h => h.picks [0, 0] rfl) rfl rfl (p_lbs ty3 rfl (j := 1) rfl rfl) (fun _ h => h.picks [0, 0] rfl) ?_
    refine at_take2 3 rfl (by kernel_rfl) (by kernel_rfl) (by kernel_rfl) (fun _ h => h.picks [0, 0] rfl) rfl rfl (p_mv rfl) (fun _ h => h.picks [0, 0] rfl) ?_
    refine at_take2 4 rfl (by kernel_rfl) (by kernel_rfl) (by kernel_rfl) (fun _ h => h.picks [0, 0] rfl) rfl rfl (p_mv rfl) (fun _ h => h.picks [0, 0] rfl) ?_
    refine at_take2 5 rfl (by kernel_rfl) (by kernel_rfl) (by kernel_rfl) (fun _ h => h.picks [0, 0] rfl) rfl rfl (p_fab fl27_2 rfl) (fun _ h => h.picks [0, 0] rfl) ?_
    refine at_take2 6 rfl (by kernel_rfl) (by kernel_rfl) (by kernel_rfl) (fun _ h => h.picks [0, 0] rfl) rfl rfl (p_lbs ty3 rfl (j := 1) rfl rfl) (fun _ h => h.picks [0, 0] rfl) ?_
    refine at_take2 7 rfl (by kernel_rfl) (by kernel_rfl) (by kernel_rfl) (fun _ h => h.picks [0, 0] rfl) rfl rfl (p_add rfl rfl) (fun _ h => h.picks [0, 0] rfl) ?_
    refine at_take2 8 rfl (by kernel_rfl) (by kernel_rfl) (by kernel_rfl) (fun _ h => h.picks [0, 0] rfl) rfl rfl (p_mv rfl) (fun _ h => h.picks [0, 0] rfl) ?_
    refine at_take2 9 rfl (by kernel_rfl) (by kernel_rfl) (by kernel_rfl) (fun _ h => h.picks [0, 0] rfl) rfl rfl (p_len Tryz.underlying22 rfl (.ro 0 rfl)) (fun _ h => h.picks [0, 0] rfl) ?_
    refine at_take2 10 rfl (by kernel_rfl) (by kernel_rfl) (by kernel_rfl) (fun _ h => h.picks [0, 0] rfl) rfl rfl (p_remM hz13 rfl rfl) (fun _ h => h.picks [0, 0] rfl) ?_
    refine at_take2 11 rfl (by kernel_rfl) (by kernel_rfl) (by kernel_rfl) (fun _ h => h.picks [0, 0] rfl) rfl rfl (p_idx Tryz.underlying22 ty3 rfl rfl (.ro 0 rfl) he14) (fun _ h => h.picks [0, 0] rfl) ?_
    refine at_take2 12 rfl (by kernel_rfl) (by kernel_rfl) (by kernel_rfl) (fun _ h => h.picks [0, 0] rfl) rfl rfl (p_lde (o := 0) ty3 rfl rfl (.ro 0 rfl) (getI_spec he14).2 rfl) (fun _ h => h.picks [0, 0] rfl) ?_
    refine at_take2 13 rfl (by kernel_rfl) (by kernel_rfl) (by kernel_rfl) (fun _ h => h.picks [0, 0] rfl) rfl rfl (p_add rfl rfl) (fun _ h => h.picks [0, 0] rfl) ?_
    refine at_take2 14 rfl (by kernel_rfl) (by kernel_rfl) (by kernel_rfl) (fun _ h => h.picks [0, 0] rfl) rfl rfl (p_rem rfl rfl (by decide)) (fun _ h => h.picks [0, 0] rfl) ?_
    refine at_each (rs := [15]) (by kernel_rfl) (by decide) ?_
    refine (.cons rfl (fun I cnI => ?_) .nil)
    · refine r_bs R3 [(w64 (a0.Root + e14)).tmod 12] rfl rfl rfl (fun _ => by kernel_rfl) rfl (fun s19 => ?_)
      refine lj_nil ?_
      refine cnI _ _ (sof1 rfl rfl (fun _ h => h.picks [1, 1] rfl)) ?_
      refine at_each (rs := [16]) (by kernel_rfl) (by decide) ?_
      refine (.cons rfl (fun I cnI => ?_) .nil)
      · refine r_app (k := 3) Tryz.underlying22 ty3 rfl rfl rfl rfl (.row 0 rfl) hq16 rfl (fun s20 => ?_)
        refine lj_nil ?_
        refine cnI _ _ (sof1 rfl rfl (fun _ h => h.picks [1, 1] rfl)) ?_
        refine at_take2 17 rfl (by kernel_rfl) (by kernel_rfl) (by kernel_rfl) (fun _ h => h.picks [0, 0] rfl) rfl rfl (p_as rfl) (fun _ h => h.picks [1, 1] rfl) ?_
        refine at_done (by kernel_rfl) ?_
        refine nj_blk ?_
        exact cnk10 _ _ q16 s20 (hJk10 _ (Option.some.inj hm).symm) ⟨rfl, rfl, rfl, rfl, rfl, rfl, trivial⟩ (fun _ h => h.picks [1, 1, 1] rfl)
theorem ok_chord_Tones (a0 : TChord) {r : (List Int) × Int} (hm : m_chord_Tones a0 = some r) :
    Ctr Tryz.prog 10 [.agg (R27.enc a0).toArray].toArray ([] : List Ent) [] (X := SV) (fun s => .tuple [s.v, .int .i64 r.2].toArray) (fun s => [.row R3 (SV.v s) r.1]) := by
  unfold m_chord_Tones at hm
  refine ctr_mk (vs := [(0, .agg (R27.enc a0).toArray)]) Tryz.func10 rfl Tryz.ntmps10 rfl ⟨rfl, trivial⟩ (fun w0 A => ?_)
  refine cj_seq ?_
  refine cj_reg ?_
  refine r_bx (cs := [.int .i64 a0.Root, .int .i64 a0.Kind, .int .i64 a0.Turn]) rfl rfl rfl (fun b1 => ?_)
  refine lp rfl (p_as rfl) ?_
  refine lp rfl (p_as rfl) ?_
  refine lj_seq ?_
  refine cj_seq ?_
  refine cj_seq ?_
  refine cj_reg ?_
  refine lp rfl (p_lbw ty27 rfl (j := 0) rfl rfl) ?_
  obtain ⟨y2, hy2, hm⟩ := bindS hm
  refine r_call [] cf6 rfl rfl (ok_chord_CheckChord a0 hy2) rfl rfl .nil (fun _ => rfl) rfl (fun _ => ?_)
  refine lp rfl (p_as rfl) ?_
  refine lj_seq ?_
  refine cj_seq ?_
  refine cj_reg ?_
  refine lp rfl (p_mv rfl) ?_
  refine lp rfl (p_neq rfl rfl) ?_
  refine lj_seq ?_
  refine cj_if (b := y2 != 0) rfl (fun hb => ?_) (fun hb => ?_)
  · have hm := ifB_t hb hm
    refine cj_seq ?_
    refine cj_reg ?_
    refine lp rfl (p_mv rfl) ?_
    refine lp rfl (p_as rfl) ?_
    refine lp rfl (p_as rfl) ?_
    refine lj_seq ?_
    obtain rfl := Option.some.inj hm
    refine cj_nil R3 ?_
    exact cj_rt nilS [0] Tryz.results10 (.tmp rfl (.tmp rfl .nil)) rfl rfl
  · have hm := ifB_f hb hm
    refine cj_skip ?_
    refine nj_seq ?_
    refine cj_seq ?_
    refine cj_reg ?_
    refine lp rfl (p_lbw ty27 rfl (j := 0) rfl rfl) ?_
    obtain ⟨y4, hy4, hm⟩ := bindS hm
    refine r_call [] cf35 rfl rfl (ok_chord_tones a0 hy4) rfl rfl .nil (fun _ => rfl) rfl (fun s5 => ?_)
    refine lp rfl (p_as rfl) ?_
    refine lp rfl (p_as rfl) ?_
    refine lj_seq ?_
    obtain rfl := Option.some.inj hm
    exact cj_rt s5 [0] Tryz.results10 (.tmp rfl (.tmp rfl .nil)) rfl rfl
theorem ok_chord_Shift (a0 : TChord) (a1 : Int) {r : TChord × Int} (hm : m_chord_Shift a0 a1 = some r) :
    Ctr Tryz.prog 11 [.agg (R27.enc a0).toArray, .int .i64 a1].toArray ([] : List Ent) [] (X := Unit) (fun _ => .tuple [.agg (R27.enc r.1).toArray, .int .i64 r.2].toArray) (fun _ => []) := by
  unfold m_chord_Shift at hm
  refine ctr_mk (vs := [(0, .agg (R27.enc a0).toArray), (1, .int .i64 a1)]) Tryz.func11 rfl Tryz.ntmps11 rfl ⟨rfl, rfl, trivial⟩ (fun w0 A => ?_)
  refine cj_seq ?_
  refine cj_reg ?_
  refine r_bx (cs := [.int .i64 a0.Root, .int .i64 a0.Kind, .int .i64 a0.Turn]) rfl rfl rfl (fun b1 => ?_)
  refine r_al ty27 rfl (fun b2 => ?_)
  refine lp rfl (p_as rfl) ?_
  refine lj_seq ?_
  refine cj_seq ?_
  refine cj_seq ?_
  refine cj_reg ?_
  refine lp rfl (p_lbw ty27 rfl (j := 1) rfl rfl) ?_
  obtain ⟨y3, hy3, hm⟩ := bindS hm
  refine r_call [] cf6 rfl rfl (ok_chord_CheckChord a0 hy3) rfl rfl .nil (fun _ => rfl) rfl (fun _ => ?_)
  refine lp rfl (p_as rfl) ?_
  refine lj_seq ?_
  refine cj_seq ?_
  refine cj_reg ?_
  refine lp rfl (p_mv rfl) ?_
  refine lp rfl (p_neq rfl rfl) ?_
  refine lj_seq ?_
  refine cj_if (b := y3 != 0) rfl (fun hb => ?_) (fun hb => ?_)
  · have hm := ifB_t hb hm
    refine cj_seq ?_
    refine cj_reg ?_
    refine lp rfl (p_bld [.int .i64 0, .int .i64 0, .int .i64 0] rfl (fun _ => by kernel_rfl)) ?_
    refine lp rfl (p_mv rfl) ?_
    refine r_sb (vs := [.int .i64 0, .int .i64 0, .int .i64 0]) (j := 0) ty27 rfl rfl rfl rfl rfl rfl rfl ?_
    refine lp rfl (p_as rfl) ?_
    refine lj_seq ?_
    obtain rfl := Option.some.inj hm
    exact cj_rt () [] Tryz.results11 (.agg (k := 0) ty27 rfl rfl rfl (.tmp rfl .nil)) rfl rfl
  · have hm := ifB_f hb hm
    refine cj_skip ?_
    refine nj_seq ?_
    refine cj_seq ?_
    refine cj_seq ?_
    refine cj_reg ?_
    refine lp rfl (p_mv rfl) ?_
    obtain ⟨y4, hy4, hm⟩ := bindS hm
    refine r_call [] cf22 rfl rfl (ok_kit_Outside a1 (-127) 127 hy4) rfl rfl .nil (fun _ => rfl) rfl (fun _ => ?_)
    refine lj_seq ?_
    refine cj_if (b := y4) rfl (fun hb => ?_) (fun hb => ?_)
    · have hm := ifB_t hb hm
      refine cj_seq ?_
      refine cj_reg ?_
      refine lp rfl (p_bld [.int .i64 0, .int .i64 0, .int .i64 0] rfl (fun _ => by kernel_rfl)) ?_
      refine r_sb (vs := [.int .i64 0, .int .i64 0, .int .i64 0]) (j := 0) ty27 rfl rfl rfl rfl rfl rfl rfl ?_
      refine lp rfl (p_as rfl) ?_
      refine lj_seq ?_
      obtain rfl := Option.some.inj hm
      exact cj_rt () [] Tryz.results11 (.agg (k := 0) ty27 rfl rfl rfl (.tmp rfl .nil)) rfl rfl
    · have hm := ifB_f hb hm
      refine cj_skip ?_
      refine nj_seq ?_
      refine cj_seq ?_
      refine cj_reg ?_
      refine lp rfl (p_fab fl27_0 rfl) ?_
      refine lp rfl (p_lbs ty3 rfl (j := 1) rfl rfl) ?_
      refine lp rfl (p_mv rfl) ?_
      refine lp rfl (p_add rfl rfl) ?_
      refine lp rfl (p_rem rfl rfl (by decide)) ?_
      refine lp rfl (p_add rfl rfl) ?_
      refine lp rfl (p_rem rfl rfl (by decide)) ?_
      refine lp rfl (p_fab fl27_0 rfl) ?_
      refine r_sb (vs := [.int .i64 ((w64 (((w64 (a0.Root + a1)).tmod 12) + 12)).tmod 12)]) (j := 1) ty3 rfl rfl rfl rfl rfl rfl rfl ?_
      refine lj_seq ?_
      refine cj_seq ?_
      refine cj_reg ?_
      refine lp rfl (p_lbw ty27 rfl (j := 1) rfl rfl) ?_
      refine r_sb (vs := [.int .i64 ((w64 (((w64 (a0.Root + a1)).tmod 12) + 12)).tmod 12), .int .i64 a0.Kind, .int .i64 a0.Turn]) (j := 0) ty27 rfl rfl rfl rfl rfl rfl rfl ?_
      refine lp rfl (p_as rfl) ?_
      refine lj_seq ?_
      obtain rfl := Option.some.inj hm
      exact cj_rt () [] Tryz.results11 (.agg (k := 0) ty27 rfl rfl rfl (.tmp rfl .nil)) rfl rfl
theorem ok_chord_notesFault_1 (a0 : Int) {r : Bool} (hm : m_chord_notesFault_1 a0 = some r) :
    Ctr Tryz.prog 65 [.int .i64 a0].toArray ([] : List Ent) [] (X := Unit) (fun _ => .bool r) (fun _ => []) := by
  unfold m_chord_notesFault_1 at hm
  refine ctr_mk (vs := [(0, .int .i64 a0)]) Tryz.func65 rfl Tryz.ntmps65 rfl ⟨rfl, trivial⟩ (fun w0 A => ?_)
  refine cj_seq ?_
  refine cj_reg ?_
  refine lp rfl (p_as rfl) ?_
  refine lj_seq ?_
  refine cj_seq ?_
  refine cj_reg ?_
  refine lp rfl (p_mv rfl) ?_
  obtain ⟨y1, hy1, hm⟩ := bindS hm
  refine r_call [] cf22 rfl rfl (ok_kit_Outside a0 0 127 hy1) rfl rfl .nil (fun _ => rfl) rfl (fun _ => ?_)
  refine lp rfl (p_as rfl) ?_
  refine lj_seq ?_
  obtain rfl := Option.some.inj hm
  exact cj_rt () [] Tryz.results65 (.tmp rfl .nil) rfl rfl
theorem ok_slices_IndexFunc_int_int__chord_notesFault_1 (s0_ : SV) (a0 : (List Int)) {r : Int} (hm : m_slices_IndexFunc_int_int__chord_notesFault_1 a0 = some r) :
    Ctr Tryz.prog 96 [s0_.v, .func (.func 65) #[] [].toArray].toArray ([] : List Ent) [RdS R3 (SV.v s0_) a0] (X := Unit) (fun _ => .int .i64 r) (fun _ => []) := by
  unfold m_slices_IndexFunc_int_int__chord_notesFault_1 at hm
  refine ctr_mk (vs := [(0, s0_.v), (1, .func (.func 65) #[] [].toArray)]) Tryz.func96 rfl Tryz.ntmps96 rfl ⟨rfl, rfl, trivial⟩ (fun w0 A => ?_)
  refine cj_seq ?_
  refine cj_reg ?_
  refine lp rfl (p_as rfl) ?_
  refine lj_seq ?_
  refine cj_seq ?_
  refine cj_seq ?_
  refine cj_reg ?_
  refine lp rfl (p_mv rfl) ?_
  refine lp rfl (p_len Tryz.underlying22 rfl (.ro 0 rfl)) ?_
  refine lp rfl (p_mv rfl) ?_
  refine lj_seq ?_
  obtain ⟨f7, hf7, hm⟩ := bindS hm
  refine cj_range (γ := Unit) (m := (a0.length : Int)) hf7 () (fun u4 g5 => [(0, s0_.v), (1, .func (.func 65) #[] [].toArray), (4, .int .i64 0)]) (fun u4 g5 => Sat w0 (keys ([] : List Ent)) A [.ro (RdS R3 (SV.v s0_) a0)]) ⟨rfl, rfl, rfl, rfl, rfl, trivial⟩ (fun _ h => h.picks [0] rfl) (nat_lt _) (fun _ h => (FactAt.get (F := RdS R3 (SV.v s0_) a0) (.ro 0 rfl) h).1) (fun _ _ => ⟨rfl, rfl, rfl, rfl⟩) ⟨rfl, rfl, rfl, rfl, rfl⟩ rfl rfl rfl (fun u4 g5 e => ?_) (fun aftk6 i1 x2 u4 g5 k6 hx3 hs J hJk6 hBk6 hX I cnk6 => ?_)
  · have hm := Flow.fin_b e hm
    refine nj_seq ?_
    refine cj_seq ?_
    refine cj_reg ?_
    refine lp rfl (p_as rfl) ?_
    refine lj_seq ?_
    obtain rfl := Option.some.inj hm
    exact cj_rt () [] Tryz.results96 (.tmp rfl .nil) rfl rfl
  · have hRk6 : ∀ t, k6 = .ret t → some t = some r := fun t e => by rw [hX t e] at hm; exact hm
    have hm := hs
    refine cj_seq ?_
    refine cj_reg ?_
    refine lp rfl (p_mv rfl) ?_
    refine lp rfl (p_as rfl) ?_
    refine lj_seq ?_
    refine cj_seq ?_
    refine cj_reg ?_
    refine lp rfl (p_mv rfl) ?_
    refine lp rfl (p_mv rfl) ?_
    refine lp rfl (p_mv rfl) ?_
    refine lp rfl (p_idx Tryz.underlying22 ty3 rfl rfl (.ro 0 rfl) (getI_nat.trans hx3)) ?_
    refine lp rfl (p_lde (o := 0) ty3 rfl rfl (.ro 0 rfl) hx3 rfl) ?_
    obtain ⟨y8, hy8, hm⟩ := bindS hm
    refine r_call [] cf65 rfl rfl (ok_chord_notesFault_1 x2 hy8) rfl rfl .nil (fun _ => rfl) rfl (fun _ => ?_)
    refine lj_seq ?_
    refine cj_if (b := y8) rfl (fun hb => ?_) (fun hb => ?_)
    · have hm := ifB_t hb hm
      refine cj_seq ?_
      refine cj_reg ?_
      refine lp rfl (p_mv rfl) ?_
      refine lp rfl (p_as rfl) ?_
      refine lj_seq ?_
      have hm := hRk6 _ (Option.some.inj hm).symm
      obtain rfl := Option.some.inj hm
      exact cj_rt () [] Tryz.results96 (.tmp rfl .nil) rfl rfl
    · have hm := ifB_f hb hm
      refine cj_skip ?_
      refine nj_blk ?_
      exact cnk6 _ _ () () (hJk6 _ (Option.some.inj hm).symm) ⟨rfl, rfl, rfl, rfl, rfl, trivial⟩ (fun _ h => h.picks [0] rfl)
theorem ok_slices_ContainsFunc_int_int__chord_notesFault_1 (s0_ : SV) (a0 : (List Int)) {r : Bool} (hm : m_slices_ContainsFunc_int_int__chord_notesFault_1 a0 = some r) :
    Ctr Tryz.prog 64 [s0_.v, .func (.func 65) #[] [].toArray].toArray ([] : List Ent) [RdS R3 (SV.v s0_) a0] (X := Unit) (fun _ => .bool r) (fun _ => []) := by
  unfold m_slices_ContainsFunc_int_int__chord_notesFault_1 at hm
  refine ctr_mk (vs := [(0, s0_.v), (1, .func (.func 65) #[] [].toArray)]) Tryz.func64 rfl Tryz.ntmps64 rfl ⟨rfl, rfl, trivial⟩ (fun w0 A => ?_)
  refine cj_seq ?_
  refine cj_reg ?_
  refine lp rfl (p_as rfl) ?_
  refine lj_seq ?_
  refine cj_seq ?_
  refine cj_reg ?_
  refine lp rfl (p_mv rfl) ?_
  refine lp rfl (p_mv rfl) ?_
  obtain ⟨y1, hy1, hm⟩ := bindS hm
  refine r_call [] cf96 rfl rfl (ok_slices_IndexFunc_int_int__chord_notesFault_1 s0_ a0 hy1) rfl rfl (.cons (.ro 0 rfl) .nil) (fun _ => rfl) rfl (fun _ => ?_)
  refine lp rfl (p_geq rfl rfl) ?_
  refine lp rfl (p_as rfl) ?_
  refine lj_seq ?_
  obtain rfl := Option.some.inj hm
  exact cj_rt () [] Tryz.results64 (.tmp rfl .nil) rfl rfl
theorem ok_chord_notesFault (s0_ : SV) (a0 : (List Int)) (a1 : Int) {r : Int} (hm : m_chord_notesFault a0 a1 = some r) :
    Ctr Tryz.prog 37 [s0_.v, .int .i64 a1].toArray ([] : List Ent) [RdS R3 (SV.v s0_) a0] (X := Unit) (fun _ => .int .i64 r) (fun _ => []) := by
  unfold m_chord_notesFault at hm
  refine ctr_mk (vs := [(0, s0_.v), (1, .int .i64 a1)]) Tryz.func37 rfl Tryz.ntmps37 rfl ⟨rfl, rfl, trivial⟩ (fun w0 A => ?_)
  refine cj_seq ?_
  refine cj_reg ?_
  refine lp rfl (p_as rfl) ?_
  refine lj_seq ?_
  refine cj_seq ?_
  refine cj_blk ?_
  refine cj_seq ?_
  refine cj_reg ?_
  refine lp rfl (p_mv rfl) ?_
  refine lp rfl (p_len Tryz.underlying22 rfl (.ro 0 rfl)) ?_
  refine lp rfl (p_eql rfl rfl) ?_
  refine lp rfl (p_as rfl) ?_
  refine lj_seq ?_
  refine cj_if (b := (a0.length : Int) == 0) rfl (fun hb => ?_) (fun hb => ?_)
  · have hm := ifB_t hb hm
    refine cj_seq ?_
    refine cj_reg ?_
    refine lp rfl (p_as rfl) ?_
    refine lj_seq ?_
    obtain rfl := Option.some.inj hm
    exact cj_rt () [] Tryz.results37 (.tmp rfl .nil) rfl rfl
  · have hm := ifB_f hb hm
    refine cj_seq ?_
    refine cj_reg ?_
    refine lp rfl (p_mv rfl) ?_
    refine lp rfl (p_len Tryz.underlying22 rfl (.ro 0 rfl)) ?_
    refine lp rfl (p_mv rfl) ?_
    refine lp rfl (p_gtr rfl rfl) ?_
    refine lp rfl (p_as rfl) ?_
    refine lj_seq ?_
    refine cj_if (b := decide ((a0.length : Int) > a1)) rfl (fun hb => ?_) (fun hb => ?_)
    · have hm := ifB_t hb hm
      refine cj_seq ?_
      refine cj_reg ?_
      refine lp rfl (p_as rfl) ?_
      refine lj_seq ?_
      obtain rfl := Option.some.inj hm
      exact cj_rt () [] Tryz.results37 (.tmp rfl .nil) rfl rfl
    · have hm := ifB_f hb hm
      refine cj_seq ?_
      refine cj_reg ?_
      refine lp rfl (p_mv rfl) ?_
      obtain ⟨y1, hy1, hm⟩ := bindS hm
      refine r_call [] cf64 rfl rfl (ok_slices_ContainsFunc_int_int__chord_notesFault_1 s0_ a0 hy1) rfl rfl (.cons (.ro 0 rfl) .nil) (fun _ => rfl) rfl (fun _ => ?_)
      refine lp rfl (p_as rfl) ?_
      refine lj_seq ?_
      refine cj_if (b := y1) rfl (fun hb => ?_) (fun hb => ?_)
      · have hm := ifB_t hb hm
        refine cj_seq ?_
        refine cj_reg ?_
        refine lp rfl (p_as rfl) ?_
        refine lj_seq ?_
        obtain rfl := Option.some.inj hm
        exact cj_rt () [] Tryz.results37 (.tmp rfl .nil) rfl rfl
      · have hm := ifB_f hb hm
        refine cj_skip ?_
        refine nj_blk ?_
        refine nj_seq ?_
        refine cj_seq ?_
        refine cj_reg ?_
        refine lp rfl (p_as rfl) ?_
        refine lj_seq ?_
        obtain rfl := Option.some.inj hm
        exact cj_rt () [] Tryz.results37 (.tmp rfl .nil) rfl rfl
theorem ok_chord_set (s0_ : SV) (a0 : (List Int)) {r : (List Int)} (hm : m_chord_set a0 = some r) :
    Ctr Tryz.prog 38 [s0_.v].toArray ([] : List Ent) [RdS R3 (SV.v s0_) a0] (X := SV) (fun s => s.v) (fun s => [.row R3 (SV.v s) r]) := by
  unfold m_chord_set at hm
  refine ctr_mk (vs := [(0, s0_.v)]) Tryz.func38 rfl Tryz.ntmps38 rfl ⟨rfl, trivial⟩ (fun w0 A => ?_)
  refine cj_seq ?_
  refine cj_reg ?_
  refine lp rfl (p_as rfl) ?_
  refine lj_seq ?_
  refine cj_seq ?_
  refine cj_reg ?_
  refine lp rfl (p_as rfl) ?_
  refine lj_seq ?_
  refine cj_seq ?_
  refine cj_seq ?_
  refine cj_reg ?_
  refine lp rfl (p_mv rfl) ?_
  refine lp rfl (p_len Tryz.underlying22 rfl (.ro 0 rfl)) ?_
  refine lp rfl (p_mv rfl) ?_
  refine lj_seq ?_
  refine cj_nil R3 ?_
  obtain ⟨f8, hf8, hm⟩ := bindS hm
  refine cj_range (γ := SV) (m := (a0.length : Int)) hf8 nilS (fun u5 g6 => [(2, .slice none 0 0), (3, g6.v), (6, s0_.v)]) (fun u5 g6 => Sat w0 (keys ([] : List Ent)) A [.ro (RdS R3 (SV.v s0_) a0), .row R3 (SV.v g6) u5]) ⟨rfl, rfl, rfl, rfl, rfl, trivial⟩ (fun _ h => h.picks [1, 0] rfl) (nat_lt _) (fun _ h => (FactAt.get (F := RdS R3 (SV.v s0_) a0) (.ro 1 rfl) h).1) (fun _ _ => ⟨rfl, rfl, rfl, rfl⟩) ⟨rfl, rfl, rfl, rfl, rfl⟩ rfl rfl rfl (fun u5 g6 e => ?_) (fun aftk7 i1 x2 u5 g6 k7 hx3 hs J hJk7 hBk7 hX I cnk7 => ?_)
  · have hm := Flow.fin_b e hm
    refine nj_seq ?_
    refine cj_seq ?_
    refine cj_reg ?_
    refine lp rfl (p_mv rfl) ?_
    obtain ⟨y14, hy14, hm⟩ := bindS hm
    refine r_call [1] cf66 rfl rfl (ok_slices_Sort_int_int g6 u5 hy14) rfl rfl .nil (fun _ => rfl) rfl (fun _ => ?_)
    refine lj_seq ?_
    refine cj_seq ?_
    refine cj_reg ?_
    refine lp rfl (p_mv rfl) ?_
    obtain ⟨y15, hy15, hm⟩ := bindS hm
    refine r_call [0] cf67 rfl rfl (ok_slices_Compact_int_int g6 y14 hy15) rfl rfl .nil (fun _ => rfl) rfl (fun s16 => ?_)
    refine lp rfl (p_as rfl) ?_
    refine lj_seq ?_
    obtain rfl := Option.some.inj hm
    exact cj_rt s16 [0] Tryz.results38 (.tmp rfl .nil) rfl rfl
  · have hRk7 : ∀ t, k7 = .ret t → some t = some r := fun t e => by rw [hX t e] at hm; exact hm
    have hm := hs
    refine cj_seq ?_
    refine cj_reg ?_
    refine lp rfl (p_idx Tryz.underlying22 ty3 rfl rfl (.ro 0 rfl) (getI_nat.trans hx3)) ?_
    refine lp rfl (p_lde (o := 0) ty3 rfl rfl (.ro 0 rfl) hx3 rfl) ?_
    refine lp rfl (p_as rfl) ?_
    refine lj_seq ?_
    refine cj_reg ?_
    refine lp rfl (p_mv rfl) ?_
    refine lp rfl (p_mv rfl) ?_
    refine lp rfl (p_rem rfl rfl (by decide)) ?_
    refine r_bs R3 [x2.tmod 12] rfl rfl rfl (fun _ => by kernel_rfl) rfl (fun s10 => ?_)
    obtain ⟨q11, hq11, hm⟩ := bindS hm
    refine r_app (k := 2) Tryz.underlying22 ty3 rfl rfl rfl rfl (.row 0 rfl) hq11 rfl (fun s12 => ?_)
    refine lp rfl (p_as rfl) ?_
    refine lj_nil ?_
    refine nj_blk ?_
    exact cnk7 _ _ q11 s12 (hJk7 _ (Option.some.inj hm).symm) ⟨rfl, rfl, rfl, rfl, rfl, trivial⟩ (fun _ h => h.picks [1, 1] rfl)
theorem ok_slices_Min_int_int (s0_ : SV) (a0 : (List Int)) {r : Int} (hm : m_slices_Min_int_int a0 = some r) :
    Ctr Tryz.prog 39 [s0_.v].toArray ([] : List Ent) [RdS R3 (SV.v s0_) a0] (X := Unit) (fun _ => .int .i64 r) (fun _ => []) := by
  unfold m_slices_Min_int_int at hm
  refine ctr_mk (vs := [(0, s0_.v)]) Tryz.func39 rfl Tryz.ntmps39 rfl ⟨rfl, trivial⟩ (fun w0 A => ?_)
  refine cj_seq ?_
  refine cj_reg ?_
  refine lp rfl (p_as rfl) ?_
  refine lj_seq ?_
  refine cj_seq ?_
  refine cj_seq ?_
  refine cj_reg ?_
  refine lp rfl (p_mv rfl) ?_
  refine lp rfl (p_len Tryz.underlying22 rfl (.ro 0 rfl)) ?_
  refine lp rfl (p_lss rfl rfl) ?_
  refine lj_seq ?_
  refine cj_if (b := decide ((a0.length : Int) < 1)) rfl (fun hb => ?_) (fun hb => ?_)
  · have hm := ifB_t hb hm
    cases hm
  · have hm := ifB_f hb hm
    refine cj_skip ?_
    refine nj_seq ?_
    refine cj_seq ?_
    refine cj_reg ?_
    refine lp rfl (p_mv rfl) ?_
    obtain ⟨e1, he1, hm⟩ := bindS hm
    refine lp rfl (p_idx Tryz.underlying22 ty3 rfl rfl (.ro 0 rfl) he1) ?_
    refine lp rfl (p_lde (o := 0) ty3 rfl rfl (.ro 0 rfl) (getI_spec he1).2 rfl) ?_
    refine lp rfl (p_as rfl) ?_
    refine lj_seq ?_
    refine cj_seq ?_
    refine cj_seq ?_
    refine cj_reg ?_
    refine lp rfl (p_as rfl) ?_
    refine lj_seq ?_
    obtain ⟨f5, hf5, hm⟩ := bindS hm
    refine cj_whileA (γ := Unit) hf5 () (fun u2 g3 => [(0, s0_.v), (2, .int .i64 0), (3, .int .i64 u2.1), (4, .int .i64 u2.2)]) (fun u2 g3 => Sat w0 (keys ([] : List Ent)) A [.ro (RdS R3 (SV.v s0_) a0)]) ⟨rfl, rfl, rfl, rfl, trivial⟩ (fun _ h => h.picks [0] rfl) (fun u2 g3 e => ?_) (fun aftk4 u2 g3 k4 hs J hJk4 hBk4 hX I cnk4 => ?_)
    · have hm := Flow.fin_b e hm
      refine nj_seq ?_
      refine cj_seq ?_
      refine cj_reg ?_
      refine lp rfl (p_mv rfl) ?_
      refine lp rfl (p_as rfl) ?_
      refine lj_seq ?_
      obtain rfl := Option.some.inj hm
      exact cj_rt () [] Tryz.results39 (.tmp rfl .nil) rfl rfl
    · have hRk4 : ∀ t, k4 = .ret t → some t = some r := fun t e => by rw [hX t e] at hm; exact hm
      have hm := hs
      refine cj_seq ?_
      refine cj_seq ?_
      refine cj_reg ?_
      refine lp rfl (p_mv rfl) ?_
      refine lp rfl (p_mv rfl) ?_
      refine lp rfl (p_len Tryz.underlying22 rfl (.ro 0 rfl)) ?_
      refine lp rfl (p_lss rfl rfl) ?_
      refine lj_seq ?_
      refine cj_if (b := decide (u2.2 < (a0.length : Int))) rfl (fun hb => ?_) (fun hb => ?_)
      · have hm := ifB_t hb hm
        refine cj_skip ?_
        refine nj_seq ?_
        refine cj_seq ?_
        refine cj_blk ?_
        refine cj_reg ?_
        refine lp rfl (p_mv rfl) ?_
        refine lp rfl (p_mv rfl) ?_
        refine lp rfl (p_mv rfl) ?_
        obtain ⟨e6, he6, hm⟩ := bindS hm
        refine lp rfl (p_idx Tryz.underlying22 ty3 rfl rfl (.ro 0 rfl) he6) ?_
        refine lp rfl (p_lde (o := 0) ty3 rfl rfl (.ro 0 rfl) (getI_spec he6).2 rfl) ?_
        refine lp rfl (p_min rfl rfl) ?_
        refine lp rfl (p_as rfl) ?_
        refine lj_nil ?_
        refine nj_blk ?_
        refine nj_seq ?_
        refine cj_reg ?_
        refine lp rfl (p_mv rfl) ?_
        refine lp rfl (p_add rfl rfl) ?_
        refine lp rfl (p_as rfl) ?_
        refine lj_nil ?_
        exact cnk4 _ _ (min u2.1 e6, w64 (u2.2 + 1)) () (hJk4 _ (Option.some.inj hm).symm) ⟨rfl, rfl, rfl, rfl, trivial⟩ (fun _ h => h.picks [0] rfl)
      · have hm := ifB_f hb hm
        refine cj_exit rfl ?_
        exact (aftk4 (u2.1, u2.2) () (hBk4 _ (Option.some.inj hm).symm)).sub ⟨rfl, rfl, rfl, rfl, trivial⟩ (fun _ h => h.picks [0] rfl)
theorem ok_slices_Equal_int_int (s0_ : SV) (a0 : (List Int)) (s1_ : SV) (a1 : (List Int)) {r : Bool} (hm : m_slices_Equal_int_int a0 a1 = some r) :
    Ctr Tryz.prog 40 [s0_.v, s1_.v].toArray ([] : List Ent) [RdS R3 (SV.v s0_) a0, RdS R3 (SV.v s1_) a1] (X := Unit) (fun _ => .bool r) (fun _ => []) := by
  unfold m_slices_Equal_int_int at hm
  refine ctr_mk (vs := [(0, s0_.v), (1, s1_.v)]) Tryz.func40 rfl Tryz.ntmps40 rfl ⟨rfl, rfl, trivial⟩ (fun w0 A => ?_)
  refine cj_seq ?_
  refine cj_reg ?_
  refine lp rfl (p_as rfl) ?_
  refine lj_seq ?_
  refine cj_seq ?_
  refine cj_seq ?_
  refine cj_reg ?_
  refine lp rfl (p_mv rfl) ?_
  refine lp rfl (p_len Tryz.underlying22 rfl (.ro 0 rfl)) ?_
  refine lp rfl (p_mv rfl) ?_
  refine lp rfl (p_len Tryz.underlying22 rfl (.ro 1 rfl)) ?_
  refine lp rfl (p_neq rfl rfl) ?_
  refine lj_seq ?_
  refine cj_if (b := (a0.length : Int) != (a1.length : Int)) rfl (fun hb => ?_) (fun hb => ?_)
  · have hm := ifB_t hb hm
    refine cj_seq ?_
    refine cj_reg ?_
    refine lp rfl (p_as rfl) ?_
    refine lj_seq ?_
    obtain rfl := Option.some.inj hm
    exact cj_rt () [] Tryz.results40 (.tmp rfl .nil) rfl rfl
  · have hm := ifB_f hb hm
    refine cj_skip ?_
    refine nj_seq ?_
    refine cj_seq ?_
    refine cj_seq ?_
    refine cj_reg ?_
    refine lp rfl (p_mv rfl) ?_
    refine lp rfl (p_len Tryz.underlying22 rfl (.ro 0 rfl)) ?_
    refine lp rfl (p_mv rfl) ?_
    refine lj_seq ?_
    obtain ⟨f7, hf7, hm⟩ := bindS hm
    refine cj_range (γ := Unit) (m := (a0.length : Int)) hf7 () (fun u4 g5 => [(0, s0_.v), (1, s1_.v), (4, .bool false)]) (fun u4 g5 => Sat w0 (keys ([] : List Ent)) A [.ro (RdS R3 (SV.v s0_) a0), .ro (RdS R3 (SV.v s1_) a1)]) ⟨rfl, rfl, rfl, rfl, rfl, trivial⟩ (fun _ h => h.picks [0, 0] rfl) (nat_lt _) (fun _ h => (FactAt.get (F := RdS R3 (SV.v s0_) a0) (.ro 0 rfl) h).1) (fun _ _ => ⟨rfl, rfl, rfl, rfl⟩) ⟨rfl, rfl, rfl, rfl, rfl⟩ rfl rfl rfl (fun u4 g5 e => ?_) (fun aftk6 i1 x2 u4 g5 k6 hx3 hs J hJk6 hBk6 hX I cnk6 => ?_)
    · have hm := Flow.fin_b e hm
      refine nj_seq ?_
      refine cj_seq ?_
      refine cj_reg ?_
      refine lp rfl (p_as rfl) ?_
      refine lj_seq ?_
      obtain rfl := Option.some.inj hm
      exact cj_rt () [] Tryz.results40 (.tmp rfl .nil) rfl rfl
    · have hRk6 : ∀ t, k6 = .ret t → some t = some r := fun t e => by rw [hX t e] at hm; exact hm
      have hm := hs
      refine cj_seq ?_
      refine cj_reg ?_
      refine lp rfl (p_mv rfl) ?_
      refine lp rfl (p_as rfl) ?_
      refine lj_seq ?_
      refine cj_seq ?_
      refine cj_quiet (by kernel_rfl) (by kernel_rfl) ?_
      refine q_p rfl (p_mv rfl) ?_
      refine q_p rfl (p_mv rfl) ?_
      refine q_p rfl (p_idx Tryz.underlying22 ty3 rfl rfl (.ro 0 rfl) (getI_nat.trans hx3)) ?_
      refine q_p rfl (p_lde (o := 0) ty3 rfl rfl (.ro 0 rfl) hx3 rfl) ?_
      refine q_p rfl (p_mv rfl) ?_
      refine q_p rfl (p_mv rfl) ?_
      obtain ⟨e8, he8, hm⟩ := bindS hm
      refine q_p rfl (p_idx Tryz.underlying22 ty3 rfl rfl (.ro 1 rfl) he8) ?_
      refine q_p rfl (p_lde (o := 0) ty3 rfl rfl (.ro 1 rfl) (getI_spec he8).2 rfl) ?_
      refine q_p rfl (p_neq rfl rfl) ?_
      refine q_nil ?_
      refine nj_seq ?_
      refine cj_if (b := x2 != e8) rfl (fun hb => ?_) (fun hb => ?_)
      · have hm := ifB_t hb hm
        refine cj_seq ?_
        refine cj_reg ?_
        refine lp rfl (p_as rfl) ?_
        refine lj_seq ?_
        have hm := hRk6 _ (Option.some.inj hm).symm
        obtain rfl := Option.some.inj hm
        exact cj_rt () [] Tryz.results40 (.tmp rfl .nil) rfl rfl
      · have hm := ifB_f hb hm
        refine cj_skip ?_
        refine nj_blk ?_
        exact cnk6 _ _ () () (hJk6 _ (Option.some.inj hm).symm) ⟨rfl, rfl, rfl, rfl, rfl, trivial⟩ (fun _ h => h.picks [0, 0] rfl)
theorem ok_chord_Of (s0_ : SV) (a0 : (List Int)) {r : (List TChord) × Int} (hm : m_chord_Of a0 = some r) :
    Ctr Tryz.prog 14 [s0_.v].toArray ([] : List Ent) [RdS R3 (SV.v s0_) a0] (X := SV) (fun s => .tuple [s.v, .int .i64 r.2].toArray) (fun s => [.row R27 (SV.v s) r.1]) := by
  unfold m_chord_Of at hm
  refine ctr_mk (vs := [(0, s0_.v)]) Tryz.func14 rfl Tryz.ntmps14 rfl ⟨rfl, trivial⟩ (fun w0 A => ?_)
  refine cj_seq ?_
  refine cj_reg ?_
  refine lp rfl (p_as rfl) ?_
  refine lp rfl (p_as rfl) ?_
  refine lj_seq ?_
  refine cj_seq ?_
  refine cj_seq ?_
  refine cj_reg ?_
  refine lp rfl (p_mv rfl) ?_
  obtain ⟨y1, hy1, hm⟩ := bindS hm
  refine r_call [] cf37 rfl rfl (ok_chord_notesFault s0_ a0 12 hy1) rfl rfl (.cons (.ro 0 rfl) .nil) (fun _ => rfl) rfl (fun _ => ?_)
  refine lp rfl (p_as rfl) ?_
  refine lj_seq ?_
  refine cj_seq ?_
  refine cj_reg ?_
  refine lp rfl (p_mv rfl) ?_
  refine lp rfl (p_neq rfl rfl) ?_
  refine lj_seq ?_
  refine cj_if (b := y1 != 0) rfl (fun hb => ?_) (fun hb => ?_)
  · have hm := ifB_t hb hm
    refine cj_seq ?_
    refine cj_reg ?_
    refine lp rfl (p_mv rfl) ?_
    refine lp rfl (p_as rfl) ?_
    refine lp rfl (p_as rfl) ?_
    refine lj_seq ?_
    obtain rfl := Option.some.inj hm
    refine cj_nil R27 ?_
    exact cj_rt nilS [0] Tryz.results14 (.tmp rfl (.tmp rfl .nil)) rfl rfl
  · have hm := ifB_f hb hm
    refine cj_skip ?_
    refine nj_seq ?_
    refine cj_seq ?_
    refine cj_reg ?_
    refine lp rfl (p_mv rfl) ?_
    obtain ⟨y3, hy3, hm⟩ := bindS hm
    refine r_call [] cf38 rfl rfl (ok_chord_set s0_ a0 hy3) rfl rfl (.cons (.ro 0 rfl) .nil) (fun _ => rfl) rfl (fun s4 => ?_)
    refine lp rfl (p_as rfl) ?_
    refine lj_seq ?_
    refine cj_seq ?_
    refine cj_reg ?_
    refine lp rfl (p_mv rfl) ?_
    obtain ⟨y5, hy5, hm⟩ := bindS hm
    refine r_call [] cf39 rfl rfl (ok_slices_Min_int_int s0_ a0 hy5) rfl rfl (.cons (.ro 1 rfl) .nil) (fun _ => rfl) rfl (fun _ => ?_)
    refine lp rfl (p_rem rfl rfl (by decide)) ?_
    refine lp rfl (p_as rfl) ?_
    refine lj_seq ?_
    refine cj_seq ?_
    refine cj_reg ?_
    refine lp rfl (p_as rfl) ?_
    refine lj_seq ?_
    refine cj_seq ?_
    refine cj_seq ?_
    refine cj_reg ?_
    refine lp rfl (p_mv rfl) ?_
    refine lj_seq ?_
    refine cj_nil R27 ?_
    obtain ⟨L32, hL32, hm⟩ := bindS hm
    obtain ⟨f13, hf13, hm⟩ := bindS hm
    refine cj_rangeC (γ := SV) (m := 12) hf13 nilS (fun u10 g11 => [(2, .slice none 0 0), (3, .int .i64 0), (5, s4.v), (6, .int .i64 (y5.tmod 12)), (7, g11.v)]) (fun u10 g11 => Sat w0 (keys ([] : List Ent)) A [.row R3 (SV.v s4) y3, .row R27 (SV.v g11) u10]) ⟨rfl, rfl, rfl, rfl, rfl, rfl, trivial⟩ (fun _ h => h.picks [1, 0] rfl) (rangeI_spec hL32).1 (fun _ _ => (rangeI_spec hL32).2) (fun _ _ => ⟨rfl, rfl, rfl⟩) ⟨rfl, rfl⟩ rfl rfl rfl (fun u10 g11 e => ?_) (fun aftk12 i6 x7 u10 g11 k12 hx8 hs J hJk12 hBk12 hX I cnk12 => ?_)
    · have hm := Flow.fin_b e hm
      refine nj_seq ?_
      refine cj_seq ?_
      refine cj_reg ?_
      refine lp rfl (p_mv rfl) ?_
      refine lp rfl (p_as rfl) ?_
      refine lp rfl (p_as rfl) ?_
      refine lj_seq ?_
      obtain rfl := Option.some.inj hm
      exact cj_rt g11 [1] Tryz.results14 (.tmp rfl (.tmp rfl .nil)) rfl rfl
    · have hRk12 : ∀ t, k12 = .ret t → some t = some r := fun t e => by rw [hX t e] at hm; exact hm
      have hm := hs
      refine cj_seq ?_
      refine cj_reg ?_
      refine lp rfl (p_mv rfl) ?_
      refine lp rfl (p_as rfl) ?_
      refine lj_seq ?_
      refine cj_seq ?_
      refine cj_reg ?_
      refine lp rfl (p_as rfl) ?_
      refine lj_seq ?_
      obtain ⟨f18, hf18, hm⟩ := bindS hm
      refine cj_whileA (γ := SV) hf18 g11 (fun u15 g16 => [(2, .slice none 0 0), (3, .int .i64 0), (5, s4.v), (6, .int .i64 (y5.tmod 12)), (7, g16.v), (8, .int .i64 (i6 : Int)), (9, .int .i64 u15.1), (22, .int .i64 (i6 : Int))]) (fun u15 g16 => Sat w0 (keys ([] : List Ent)) A [.row R3 (SV.v s4) y3, .row R27 (SV.v g16) u15.2]) ⟨rfl, rfl, rfl, rfl, rfl, rfl, rfl, rfl, trivial⟩ (fun _ h => h.picks [0, 0] rfl) (fun u15 g16 e => ?_) (fun aftk17 u15 g16 k17 hs J hJk17 hBk17 hX I cnk17 => ?_)
      · have hm := Flow.fin_b e hm
        refine nj_blk ?_
        exact cnk12 _ _ u15.2 g16 (hJk12 _ (Option.some.inj hm).symm) ⟨rfl, rfl, rfl, rfl, rfl, rfl, trivial⟩ (fun _ h => h.picks [0, 0] rfl)
      · have hRk17 : ∀ t, k17 = .ret t → some t = some k12 := fun t e => by rw [hX t e] at hm; exact hm
        have hm := hs
        refine cj_seq ?_
        refine cj_seq ?_
        refine cj_reg ?_
        refine lp rfl (p_mv rfl) ?_
        refine lp rfl (p_leq rfl rfl) ?_
        refine lj_seq ?_
        refine cj_if (b := decide (u15.1 ≤ 7)) rfl (fun hb => ?_) (fun hb => ?_)
        · have hm := ifB_t hb hm
          refine cj_skip ?_
          refine nj_seq ?_
          refine cj_seq ?_
          refine cj_blk ?_
          refine cj_seq ?_
          refine cj_reg ?_
          refine lp rfl (p_mv rfl) ?_
          refine lp rfl (p_mv rfl) ?_
          refine lp rfl (p_bld [.int .i64 (i6 : Int), .int .i64 u15.1, .int .i64 0] rfl (fun _ => by kernel_rfl)) ?_
          refine r_al ty27 rfl (fun b20 => ?_)
          refine r_sb (vs := [.int .i64 (i6 : Int), .int .i64 u15.1, .int .i64 0]) (j := 0) ty27 rfl rfl rfl rfl rfl rfl rfl ?_
          refine lj_seq ?_
          refine cj_seq ?_
          refine cj_reg ?_
          refine lp rfl (p_lbw ty27 rfl (j := 0) rfl rfl) ?_
          obtain ⟨y21, hy21, hm⟩ := bindS hm
          refine r_call [] cf35 rfl rfl (ok_chord_tones (TChord.mk (i6 : Int) u15.1 0) hy21) rfl rfl .nil (fun _ => rfl) rfl (fun s22 => ?_)
          refine lp rfl (p_as rfl) ?_
          refine lj_seq ?_
          refine cj_seq ?_
          refine cj_reg ?_
          refine lp rfl (p_mv rfl) ?_
          obtain ⟨y23, hy23, hm⟩ := bindS hm
          refine r_call [] cf38 rfl rfl (ok_chord_set s22 y21 hy23) rfl rfl (.cons (.row 0 rfl) .nil) (fun _ => rfl) rfl (fun s24 => ?_)
          refine lp rfl (p_mv rfl) ?_
          obtain ⟨y25, hy25, hm⟩ := bindS hm
          refine r_call [] cf40 rfl rfl (ok_slices_Equal_int_int s24 y23 s4 y3 hy25) rfl rfl (.cons (.row 0 rfl) (.cons (.row 3 rfl) .nil)) (fun _ => rfl) rfl (fun _ => ?_)
          refine lj_seq ?_
          refine cj_if (b := y25) rfl (fun hb => ?_) (fun hb => ?_)
          · have hm := ifB_t hb hm
            refine cj_seq ?_
            refine cj_reg ?_
            refine lp rfl (p_mv rfl) ?_
            refine lp rfl (p_mv rfl) ?_
            obtain ⟨y26, hy26, hm⟩ := bindS hm
            refine r_call [] cf41 rfl rfl (ok_slices_Index_int_int s22 y21 (y5.tmod 12) hy26) rfl rfl (.cons (.row 1 rfl) .nil) (fun _ => rfl) rfl (fun _ => ?_)
            refine lp rfl (p_fab fl27_2 rfl) ?_
            refine r_sb (vs := [.int .i64 y26]) (j := 2) ty3 rfl rfl rfl rfl rfl rfl rfl ?_
            refine lj_seq ?_
            refine cj_reg ?_
            refine lp rfl (p_mv rfl) ?_
            refine lp rfl (p_lbw ty27 rfl (j := 2) rfl rfl) ?_
            refine r_bs R27 [(TChord.mk (i6 : Int) u15.1 y26)] rfl rfl rfl (fun _ => by kernel_rfl) rfl (fun s27 => ?_)
            obtain ⟨q28, hq28, hm⟩ := bindS hm
            refine r_app (k := 5) Tryz.underlying41 ty27 rfl rfl rfl rfl (.row 0 rfl) hq28 rfl (fun s29 => ?_)
            refine lp rfl (p_as rfl) ?_
            refine lj_nil ?_
            refine nj_blk ?_
            refine nj_seq ?_
            refine cj_reg ?_
            refine lp rfl (p_mv rfl) ?_
            refine lp rfl (p_add rfl rfl) ?_
            refine lp rfl (p_as rfl) ?_
            refine lj_nil ?_
            exact cnk17 _ _ (w64 (u15.1 + 1), q28) s29 (hJk17 _ (Option.some.inj hm).symm) ⟨rfl, rfl, rfl, rfl, rfl, rfl, rfl, rfl, trivial⟩ (fun _ h => h.picks [4, 4] rfl)
          · have hm := ifB_f hb hm
            refine cj_skip ?_
            refine nj_blk ?_
            refine nj_seq ?_
            refine cj_reg ?_
            refine lp rfl (p_mv rfl) ?_
            refine lp rfl (p_add rfl rfl) ?_
            refine lp rfl (p_as rfl) ?_
            refine lj_nil ?_
            exact cnk17 _ _ (w64 (u15.1 + 1), u15.2) g16 (hJk17 _ (Option.some.inj hm).symm) ⟨rfl, rfl, rfl, rfl, rfl, rfl, rfl, rfl, trivial⟩ (fun _ h => h.picks [3, 3] rfl)
        · have hm := ifB_f hb hm
          refine cj_exit rfl ?_
          exact (aftk17 (u15.1, u15.2) g16 (hBk17 _ (Option.some.inj hm).symm)).sub ⟨rfl, rfl, rfl, rfl, rfl, rfl, rfl, rfl, trivial⟩ (fun _ h => h.picks [0, 0] rfl)
theorem ok_chord_fits (a0 : TChord) (s1_ : SV) (a1 : (List Int)) {r : Bool} (hm : m_chord_fits a0 a1 = some r) :
    Ctr Tryz.prog 42 [.agg (R27.enc a0).toArray, s1_.v].toArray ([] : List Ent) [RdS R3 (SV.v s1_) a1] (X := Unit) (fun _ => .bool r) (fun _ => []) := by
  unfold m_chord_fits at hm
  refine ctr_mk (vs := [(0, .agg (R27.enc a0).toArray), (1, s1_.v)]) Tryz.func42 rfl Tryz.ntmps42 rfl ⟨rfl, rfl, trivial⟩ (fun w0 A => ?_)
  refine cj_seq ?_
  refine cj_reg ?_
  refine r_bx (cs := [.int .i64 a0.Root, .int .i64 a0.Kind, .int .i64 a0.Turn]) rfl rfl rfl (fun b1 => ?_)
  refine lp rfl (p_as rfl) ?_
  refine lj_seq ?_
  refine cj_seq ?_
  refine cj_reg ?_
  refine lp rfl (p_lbw ty27 rfl (j := 0) rfl rfl) ?_
  obtain ⟨y2, hy2, hm⟩ := bindS hm
  refine r_call [] cf35 rfl rfl (ok_chord_tones a0 hy2) rfl rfl .nil (fun _ => rfl) rfl (fun s3 => ?_)
  refine lp rfl (p_as rfl) ?_
  refine lj_seq ?_
  refine cj_seq ?_
  obtain ⟨k6, hk6, hm⟩ := bindS hm
  have hRk6 : ∀ t, k6 = .inr t → some t = some r := fun t e => by rw [e] at hm; exact hm
  refine cj_joinK (σ := Bool) (γ := Unit) (fun u4 => k6 = .inl u4) (fun u4 g5 => [(4, .bool u4)]) (fun u4 g5 => Sat w0 (keys ([] : List Ent)) A []) (fun u4 g5 hq => ?_) (fun J cnk6 => ?_)
  · have hm := Sum.fin_l hq hm
    obtain rfl := Option.some.inj hm
    exact cj_rt () [] Tryz.results42 (.tmp rfl .nil) rfl rfl
  · have hm := hk6
    obtain ⟨e7, he7, hm⟩ := bindS hm
    obtain ⟨e8, he8, hm⟩ := bindS hm
    refine cj_anyT [0, 1, 2, 3, 4, 5, 6, 7, 8, 9, 11, 15] [] (Sat w0 (keys ([] : List Ent)) A [.row R3 (SV.v s3) y2, .box b1 27 [.int .i64 a0.Root, .int .i64 a0.Kind, .int .i64 a0.Turn], .ro (RdS R3 (SV.v s1_) a1)]) (Sat w0 (keys ([] : List Ent)) A [.row R3 (SV.v s3) y2, .box b1 27 [.int .i64 a0.Root, .int .i64 a0.Kind, .int .i64 a0.Turn], .ro (RdS R3 (SV.v s1_) a1)]) (by kernel_rfl) ?_
    refine at_take2 0 rfl (by kernel_rfl) (by kernel_rfl) (by kernel_rfl) (fun _ h => h.picks [0, 0, 0] rfl) rfl rfl (p_mv rfl) (fun _ h => h.picks [0, 0, 0] rfl) ?_
    refine at_take2 1 rfl (by kernel_rfl) (by kernel_rfl) (by kernel_rfl) (fun _ h => h.picks [0, 0, 0] rfl) rfl rfl (p_idx Tryz.underlying22 ty3 rfl rfl (.ro 2 rfl) he7) (fun _ h => h.picks [0, 0, 0] rfl) ?_
    refine at_take2 2 rfl (by kernel_rfl) (by kernel_rfl) (by kernel_rfl) (fun _ h => h.picks [0, 0, 0] rfl) rfl rfl (p_lde (o := 0) ty3 rfl rfl (.ro 2 rfl) (getI_spec he7).2 rfl) (fun _ h => h.picks [0, 0, 0] rfl) ?_
    refine at_take2 3 rfl (by kernel_rfl) (by kernel_rfl) (by kernel_rfl) (fun _ h => h.picks [0, 0, 0] rfl) rfl rfl (p_rem rfl rfl (by decide)) (fun _ h => h.picks [0, 0, 0] rfl) ?_
    refine at_take2 4 rfl (by kernel_rfl) (by kernel_rfl) (by kernel_rfl) (fun _ h => h.picks [0, 0, 0] rfl) rfl rfl (p_mv rfl) (fun _ h => h.picks [0, 0, 0] rfl) ?_
    refine at_take2 5 rfl (by kernel_rfl) (by kernel_rfl) (by kernel_rfl) (fun _ h => h.picks [0, 0, 0] rfl) rfl rfl (p_idx Tryz.underlying22 ty3 rfl rfl (.row 0 rfl) he8) (fun _ h => h.picks [0, 0, 0] rfl) ?_
    refine at_take2 6 rfl (by kernel_rfl) (by kernel_rfl) (by kernel_rfl) (fun _ h => h.picks [0, 0, 0] rfl) rfl rfl (p_lde (o := 0) ty3 rfl rfl (.row 0 rfl) (getI_spec he8).2 rfl) (fun _ h => h.picks [0, 0, 0] rfl) ?_
    refine at_take2 7 rfl (by kernel_rfl) (by kernel_rfl) (by kernel_rfl) (fun _ h => h.picks [0, 0, 0] rfl) rfl rfl (p_eql rfl rfl) (fun _ h => h.picks [0, 0, 0] rfl) ?_
    refine at_take2 8 rfl (by kernel_rfl) (by kernel_rfl) (by kernel_rfl) (fun _ h => h.picks [0, 0, 0] rfl) rfl rfl (p_mv rfl) (fun _ h => h.picks [0, 0, 0] rfl) ?_
    refine at_case (i := 16) ((e7.tmod 12) == e8) rfl (fun hb => ?_) (fun hb => ?_)
    · have hm := ifB_t hb hm
      obtain ⟨y9, hy9, hm⟩ := bindS hm
      obtain ⟨y11, hy11, hm⟩ := bindS hm
      obtain ⟨y13, hy13, hm⟩ := bindS hm
      refine at_take2g 9 rfl rfl rfl rfl (by kernel_rfl) (by kernel_rfl) (by kernel_rfl) (fun _ h => h.picks [0, 0, 0] rfl) rfl rfl (p_mv rfl) (fun _ h => h.picks [0, 0, 0] rfl) ?_
      refine at_take2g 11 rfl rfl rfl rfl (by kernel_rfl) (by kernel_rfl) (by kernel_rfl) (fun _ h => h.picks [0, 0, 0] rfl) rfl rfl (p_mv rfl) (fun _ h => h.picks [0, 0, 0] rfl) ?_
      refine at_each (rs := [10]) (by kernel_rfl) (by decide) ?_
      refine (.cons rfl (fun I cnI => ?_) .nil)
      · refine lg true rfl rfl rfl ?_
        refine r_call [] cf38 rfl rfl (ok_chord_set s1_ a1 hy9) rfl rfl (.cons (.ro 2 rfl) .nil) (fun _ => rfl) rfl (fun s14 => ?_)
        refine lj_nil ?_
        refine cnI _ _ (sof1 rfl rfl (fun _ h => h.picks [1, 1, 1] rfl)) ?_
        refine at_each (rs := [12]) (by kernel_rfl) (by decide) ?_
        refine (.cons rfl (fun I cnI => ?_) .nil)
        · refine lg true rfl rfl rfl ?_
          refine r_call [] cf38 rfl rfl (ok_chord_set s3 y2 hy11) rfl rfl (.cons (.row 1 rfl) .nil) (fun _ => rfl) rfl (fun s15 => ?_)
          refine lj_nil ?_
          refine cnI _ _ (sof1 rfl rfl (fun _ h => h.picks [2, 2, 2] rfl)) ?_
          refine at_each (rs := [13]) (by kernel_rfl) (by decide) ?_
          refine (.cons rfl (fun I cnI => ?_) .nil)
          · refine lg true rfl rfl rfl ?_
            refine r_call [] cf40 rfl rfl (ok_slices_Equal_int_int s14 y9 s15 y11 hy13) rfl rfl (.cons (.row 1 rfl) (.cons (.row 0 rfl) .nil)) (fun _ => rfl) rfl (fun _ => ?_)
            refine lj_nil ?_
            refine cnI _ _ (sof1 rfl rfl (fun _ h => h.picks [2, 2, 2] rfl)) ?_
            refine at_each (rs := [14]) (by kernel_rfl) (by decide) ?_
            refine (.cons rfl (fun I cnI => ?_) .nil)
            · refine lp rfl (p_pkt rfl rfl) ?_
              refine lj_nil ?_
              refine cnI _ _ (sof1 rfl rfl (fun _ h => h.picks [2, 2, 2] rfl)) ?_
              refine at_take2 15 rfl (by kernel_rfl) (by kernel_rfl) (by kernel_rfl) (fun _ h => h.picks [0, 0, 0] rfl) rfl rfl (p_as rfl) (fun _ h => h.picks [2, 2, 2] rfl) ?_
              refine at_done (by kernel_rfl) ?_
              exact cnk6 _ _ y13 () (Option.some.inj hm).symm ⟨rfl, trivial⟩ (fun _ h => h.picks [] rfl)
    · have hm := ifB_f hb hm
      refine at_skip 9 rfl rfl rfl rfl (by kernel_rfl) (by kernel_rfl) (by kernel_rfl) rfl rfl ?_
      refine at_skip 11 rfl rfl rfl rfl (by kernel_rfl) (by kernel_rfl) (by kernel_rfl) rfl rfl ?_
      refine at_each (rs := [10]) (by kernel_rfl) (by decide) ?_
      refine (.cons rfl (fun I cnI => ?_) .nil)
      · refine ls true rfl rfl rfl rfl ?_
        refine lj_nil ?_
        refine cnI _ _ (sof1 rfl rfl (fun _ h => h.picks [0, 0, 0] rfl)) ?_
        refine at_each (rs := [12]) (by kernel_rfl) (by decide) ?_
        refine (.cons rfl (fun I cnI => ?_) .nil)
        · refine ls true rfl rfl rfl rfl ?_
          refine lj_nil ?_
          refine cnI _ _ (sof1 rfl rfl (fun _ h => h.picks [0, 0, 0] rfl)) ?_
          refine at_each (rs := [13]) (by kernel_rfl) (by decide) ?_
          refine (.cons rfl (fun I cnI => ?_) .nil)
          · refine ls true rfl rfl rfl rfl ?_
            refine lj_nil ?_
            refine cnI _ _ (sof1 rfl rfl (fun _ h => h.picks [0, 0, 0] rfl)) ?_
            refine at_each (rs := [14]) (by kernel_rfl) (by decide) ?_
            refine (.cons rfl (fun I cnI => ?_) .nil)
            · refine lp rfl (p_pkf rfl rfl) ?_
              refine lj_nil ?_
              refine cnI _ _ (sof1 rfl rfl (fun _ h => h.picks [0, 0, 0] rfl)) ?_
              refine at_take2 15 rfl (by kernel_rfl) (by kernel_rfl) (by kernel_rfl) (fun _ h => h.picks [0, 0, 0] rfl) rfl rfl (p_as rfl) (fun _ h => h.picks [0, 0, 0] rfl) ?_
              refine at_done (by kernel_rfl) ?_
              exact cnk6 _ _ false () (Option.some.inj hm).symm ⟨rfl, trivial⟩ (fun _ h => h.picks [] rfl)
theorem ok_chord_Fits (a0 : TChord) (s1_ : SV) (a1 : (List Int)) {r : Bool × Int} (hm : m_chord_Fits a0 a1 = some r) :
    Ctr Tryz.prog 15 [.agg (R27.enc a0).toArray, s1_.v].toArray ([] : List Ent) [RdS R3 (SV.v s1_) a1] (X := Unit) (fun _ => .tuple [.bool r.1, .int .i64 r.2].toArray) (fun _ => []) := by
  unfold m_chord_Fits at hm
  refine ctr_mk (vs := [(0, .agg (R27.enc a0).toArray), (1, s1_.v)]) Tryz.func15 rfl Tryz.ntmps15 rfl ⟨rfl, rfl, trivial⟩ (fun w0 A => ?_)
  refine cj_seq ?_
  refine cj_reg ?_
  refine r_bx (cs := [.int .i64 a0.Root, .int .i64 a0.Kind, .int .i64 a0.Turn]) rfl rfl rfl (fun b1 => ?_)
  refine lp rfl (p_as rfl) ?_
  refine lp rfl (p_as rfl) ?_
  refine lj_seq ?_
  refine cj_seq ?_
  refine cj_seq ?_
  refine cj_reg ?_
  refine lp rfl (p_lbw ty27 rfl (j := 0) rfl rfl) ?_
  obtain ⟨y2, hy2, hm⟩ := bindS hm
  refine r_call [] cf6 rfl rfl (ok_chord_CheckChord a0 hy2) rfl rfl .nil (fun _ => rfl) rfl (fun _ => ?_)
  refine lp rfl (p_as rfl) ?_
  refine lj_seq ?_
  refine cj_seq ?_
  refine cj_reg ?_
  refine lp rfl (p_mv rfl) ?_
  refine lp rfl (p_neq rfl rfl) ?_
  refine lj_seq ?_
  refine cj_if (b := y2 != 0) rfl (fun hb => ?_) (fun hb => ?_)
  · have hm := ifB_t hb hm
    refine cj_seq ?_
    refine cj_reg ?_
    refine lp rfl (p_mv rfl) ?_
    refine lp rfl (p_as rfl) ?_
    refine lp rfl (p_as rfl) ?_
    refine lj_seq ?_
    obtain rfl := Option.some.inj hm
    exact cj_rt () [] Tryz.results15 (.tmp rfl (.tmp rfl .nil)) rfl rfl
  · have hm := ifB_f hb hm
    refine cj_skip ?_
    refine nj_seq ?_
    refine cj_seq ?_
    refine cj_seq ?_
    refine cj_reg ?_
    refine lp rfl (p_mv rfl) ?_
    obtain ⟨y3, hy3, hm⟩ := bindS hm
    refine r_call [] cf37 rfl rfl (ok_chord_notesFault s1_ a1 5 hy3) rfl rfl (.cons (.ro 1 rfl) .nil) (fun _ => rfl) rfl (fun _ => ?_)
    refine lp rfl (p_as rfl) ?_
    refine lj_seq ?_
    refine cj_seq ?_
    refine cj_reg ?_
    refine lp rfl (p_mv rfl) ?_
    refine lp rfl (p_neq rfl rfl) ?_
    refine lj_seq ?_
    refine cj_if (b := y3 != 0) rfl (fun hb => ?_) (fun hb => ?_)
    · have hm := ifB_t hb hm
      refine cj_seq ?_
      refine cj_reg ?_
      refine lp rfl (p_mv rfl) ?_
      refine lp rfl (p_as rfl) ?_
      refine lp rfl (p_as rfl) ?_
      refine lj_seq ?_
      obtain rfl := Option.some.inj hm
      exact cj_rt () [] Tryz.results15 (.tmp rfl (.tmp rfl .nil)) rfl rfl
    · have hm := ifB_f hb hm
      refine cj_skip ?_
      refine nj_seq ?_
      refine cj_seq ?_
      refine cj_reg ?_
      refine lp rfl (p_lbw ty27 rfl (j := 0) rfl rfl) ?_
      refine lp rfl (p_mv rfl) ?_
      obtain ⟨y4, hy4, hm⟩ := bindS hm
      refine r_call [] cf42 rfl rfl (ok_chord_fits a0 s1_ a1 hy4) rfl rfl (.cons (.ro 1 rfl) .nil) (fun _ => rfl) rfl (fun _ => ?_)
      refine lp rfl (p_as rfl) ?_
      refine lp rfl (p_as rfl) ?_
      refine lj_seq ?_
      obtain rfl := Option.some.inj hm
      exact cj_rt () [] Tryz.results15 (.tmp rfl (.tmp rfl .nil)) rfl rfl
theorem ok_slices_Index_api_Chord_api_Chord (s0_ : SV) (a0 : (List TChord)) (a1 : TChord) {r : Int} (hm : m_slices_Index_api_Chord_api_Chord a0 a1 = some r) :
    Ctr Tryz.prog 43 [s0_.v, .agg (R27.enc a1).toArray].toArray ([] : List Ent) [RdS R27 (SV.v s0_) a0] (X := Unit) (fun _ => .int .i64 r) (fun _ => []) := by
  unfold m_slices_Index_api_Chord_api_Chord at hm
  refine ctr_mk (vs := [(0, s0_.v), (1, .agg (R27.enc a1).toArray)]) Tryz.func43 rfl Tryz.ntmps43 rfl ⟨rfl, rfl, trivial⟩ (fun w0 A => ?_)
  refine cj_seq ?_
  refine cj_reg ?_
  refine r_bx (cs := [.int .i64 a1.Root, .int .i64 a1.Kind, .int .i64 a1.Turn]) rfl rfl rfl (fun b1 => ?_)
  refine lp rfl (p_as rfl) ?_
  refine lj_seq ?_
  refine cj_seq ?_
  refine cj_seq ?_
  refine cj_reg ?_
  refine lp rfl (p_mv rfl) ?_
  refine lp rfl (p_len Tryz.underlying41 rfl (.ro 1 rfl)) ?_
  refine lp rfl (p_mv rfl) ?_
  refine lj_seq ?_
  obtain ⟨f8, hf8, hm⟩ := bindS hm
  refine cj_range (γ := Unit) (m := (a0.length : Int)) hf8 () (fun u5 g6 => [(0, s0_.v), (3, .pointer (some ⟨b1, 0, none⟩)), (4, .int .i64 0)]) (fun u5 g6 => Sat w0 (keys ([] : List Ent)) A [.box b1 27 [.int .i64 a1.Root, .int .i64 a1.Kind, .int .i64 a1.Turn], .ro (RdS R27 (SV.v s0_) a0)]) ⟨rfl, rfl, rfl, rfl, rfl, trivial⟩ (fun _ h => h.picks [0, 0] rfl) (nat_lt _) (fun _ h => (FactAt.get (F := RdS R27 (SV.v s0_) a0) (.ro 1 rfl) h).1) (fun _ _ => ⟨rfl, rfl, rfl, rfl⟩) ⟨rfl, rfl, rfl, rfl, rfl⟩ rfl rfl rfl (fun u5 g6 e => ?_) (fun aftk7 i2 x3 u5 g6 k7 hx4 hs J hJk7 hBk7 hX I cnk7 => ?_)
  · have hm := Flow.fin_b e hm
    refine nj_seq ?_
    refine cj_seq ?_
    refine cj_reg ?_
    refine lp rfl (p_as rfl) ?_
    refine lj_seq ?_
    obtain rfl := Option.some.inj hm
    exact cj_rt () [] Tryz.results43 (.tmp rfl .nil) rfl rfl
  · have hRk7 : ∀ t, k7 = .ret t → some t = some r := fun t e => by rw [hX t e] at hm; exact hm
    have hm := hs
    refine cj_seq ?_
    refine cj_reg ?_
    refine lp rfl (p_mv rfl) ?_
    refine lp rfl (p_as rfl) ?_
    refine lj_seq ?_
    refine cj_seq ?_
    refine cj_quiet (by kernel_rfl) (by kernel_rfl) ?_
    refine q_p rfl (p_lbw ty27 rfl (j := 0) rfl rfl) ?_
    refine q_p rfl (p_mv rfl) ?_
    refine q_p rfl (p_mv rfl) ?_
    refine q_p rfl (p_idx Tryz.underlying41 ty27 rfl rfl (.ro 1 rfl) (getI_nat.trans hx4)) ?_
    refine q_p rfl (p_lea ty27 rfl (.ro 1 rfl) hx4) ?_
    refine q_p rfl (p_eqst (by kernel_rfl) rfl rfl (eqst27 a1 x3)) ?_
    refine q_nil ?_
    refine nj_seq ?_
    refine cj_if (b := decide (a1 = x3)) rfl (fun hb => ?_) (fun hb => ?_)
    · have hm := ifB_t hb hm
      refine cj_seq ?_
      refine cj_reg ?_
      refine lp rfl (p_mv rfl) ?_
      refine lp rfl (p_as rfl) ?_
      refine lj_seq ?_
      have hm := hRk7 _ (Option.some.inj hm).symm
      obtain rfl := Option.some.inj hm
      exact cj_rt () [] Tryz.results43 (.tmp rfl .nil) rfl rfl
    · have hm := ifB_f hb hm
      refine cj_skip ?_
      refine nj_blk ?_
      exact cnk7 _ _ () () (hJk7 _ (Option.some.inj hm).symm) ⟨rfl, rfl, rfl, rfl, rfl, trivial⟩ (fun _ h => h.picks [0, 0] rfl)
theorem ok_slices_Contains_api_Chord_api_Chord (s0_ : SV) (a0 : (List TChord)) (a1 : TChord) {r : Bool} (hm : m_slices_Contains_api_Chord_api_Chord a0 a1 = some r) :
    Ctr Tryz.prog 16 [s0_.v, .agg (R27.enc a1).toArray].toArray ([] : List Ent) [RdS R27 (SV.v s0_) a0] (X := Unit) (fun _ => .bool r) (fun _ => []) := by
  unfold m_slices_Contains_api_Chord_api_Chord at hm
  refine ctr_mk (vs := [(0, s0_.v), (1, .agg (R27.enc a1).toArray)]) Tryz.func16 rfl Tryz.ntmps16 rfl ⟨rfl, rfl, trivial⟩ (fun w0 A => ?_)
  refine cj_seq ?_
  refine cj_reg ?_
  refine r_bx (cs := [.int .i64 a1.Root, .int .i64 a1.Kind, .int .i64 a1.Turn]) rfl rfl rfl (fun b1 => ?_)
  refine lp rfl (p_as rfl) ?_
  refine lj_seq ?_
  refine cj_seq ?_
  refine cj_reg ?_
  refine lp rfl (p_mv rfl) ?_
  refine lp rfl (p_lbw ty27 rfl (j := 0) rfl rfl) ?_
  obtain ⟨y2, hy2, hm⟩ := bindS hm
  refine r_call [] cf43 rfl rfl (ok_slices_Index_api_Chord_api_Chord s0_ a0 a1 hy2) rfl rfl (.cons (.ro 1 rfl) .nil) (fun _ => rfl) rfl (fun _ => ?_)
  refine lp rfl (p_geq rfl rfl) ?_
  refine lp rfl (p_as rfl) ?_
  refine lj_seq ?_
  obtain rfl := Option.some.inj hm
  exact cj_rt () [] Tryz.results16 (.tmp rfl .nil) rfl rfl
theorem ok_gleekeep2_ChordsComeBack (s0_ : SV) (a0 : (List Int)) {r : Bool} (hm : m_gleekeep2_ChordsComeBack a0 = some r) :
    Ctr Tryz.prog 3 [s0_.v].toArray ([] : List Ent) [RdS R3 (SV.v s0_) a0, PowT] (X := Unit) (fun _ => .bool r) (fun _ => []) := by
  unfold m_gleekeep2_ChordsComeBack at hm
  refine ctr_mk (vs := [(0, s0_.v)]) Tryz.func3 rfl Tryz.ntmps3 rfl ⟨rfl, trivial⟩ (fun w0 A => ?_)
  refine cj_seq ?_
  refine cj_reg ?_
  refine lp rfl (p_as rfl) ?_
  refine lj_seq ?_
  refine cj_seq ?_
  refine cj_reg ?_
  refine lp rfl (p_mv rfl) ?_
  refine lp rfl (p_bld [s0_.v, .int .i64 0] rfl (fun _ => by kernel_rfl)) ?_
  refine r_bx (cs := [s0_.v, .int .i64 0]) rfl rfl rfl (fun b1 => ?_)
  refine lp rfl (p_as rfl) ?_
  refine lj_seq ?_
  refine cj_seq ?_
  refine cj_reg ?_
  refine lp rfl (p_mv rfl) ?_
  obtain ⟨y2, hy2, hm⟩ := bindS hm
  refine r_call [0] cf4 rfl rfl (ok_gleemake_Stream_AChord b1 s0_ a0 0 hy2) rfl rfl (.cons (.ro 0 rfl) .nil) (fun _ => rfl) rfl (fun _ => ?_)
  refine r_al ty27 rfl (fun b3 => ?_)
  refine r_sb (vs := [.int .i64 y2.1.Root, .int .i64 y2.1.Kind, .int .i64 y2.1.Turn]) (j := 0) ty27 rfl rfl rfl rfl rfl rfl rfl ?_
  refine lj_seq ?_
  refine cj_seq ?_
  refine cj_seq ?_
  refine cj_reg ?_
  refine lp rfl (p_lbw ty27 rfl (j := 0) rfl rfl) ?_
  obtain ⟨y4, hy4, hm⟩ := bindS hm
  refine r_call [] cf5 rfl rfl (ok_gleeref2_ChordFault y2.1 hy4) rfl rfl .nil (fun _ => rfl) rfl (fun _ => ?_)
  refine lp rfl (p_neq rfl rfl) ?_
  refine lj_seq ?_
  refine cj_if (b := y4 != 0) rfl (fun hb => ?_) (fun hb => ?_)
  · have hm := ifB_t hb hm
    refine cj_seq ?_
    refine cj_reg ?_
    obtain ⟨k7, hk7, hm⟩ := bindS hm
    have hRk7 : ∀ t, k7 = .inr t → some t = some r := fun t e => by rw [e] at hm; exact hm
    refine lj_join (σ := Bool) (γ := Unit) (fun u5 => k7 = .inl u5) (fun u5 g6 => [(2, .bool u5), (3, .pointer (some ⟨b1, 0, none⟩)), (4, .pointer (some ⟨b3, 0, none⟩))]) (fun u5 g6 => Sat w0 (keys ([] : List Ent)) A [.box b3 27 [.int .i64 y2.1.Root, .int .i64 y2.1.Kind, .int .i64 y2.1.Turn], .box b1 25 [s0_.v, .int .i64 y2.2], .ro (RdS R3 (SV.v s0_) a0), .ro PowT]) (fun u5 g6 hq => ?_) (fun J cnk7 => ?_)
    · have hm := Sum.fin_l hq hm
      obtain rfl := Option.some.inj hm
      exact cj_rt () [] Tryz.results3 (.tmp rfl .nil) rfl rfl
    · have hm := hk7
      refine lp rfl (p_lbw ty27 rfl (j := 0) rfl rfl) ?_
      obtain ⟨y8, hy8, hm⟩ := bindS hm
      refine r_call [] cf6 rfl rfl (ok_chord_CheckChord y2.1 hy8) rfl rfl .nil (fun _ => rfl) rfl (fun _ => ?_)
      refine lp rfl (p_neq rfl rfl) ?_
      refine lp rfl (p_mv rfl) ?_
      refine lcase (i := 32) (y8 != 0) rfl (fun hb => ?_) (fun hb => ?_)
      · have hm := ifB_t hb hm
        refine lg true rfl rfl rfl ?_
        obtain ⟨y9, hy9, hm⟩ := bindS hm
        refine r_call [] cf7 rfl rfl (ok_gleekeep2_ready  hy9) rfl rfl (.cons (.ro 3 rfl) .nil) (fun _ => rfl) rfl (fun _ => ?_)
        refine lp rfl (p_pkt rfl rfl) ?_
        refine lp rfl (p_as rfl) ?_
        refine lj_nil ?_
        exact cnk7 _ _ y9 () (Option.some.inj hm).symm ⟨rfl, rfl, rfl, trivial⟩ (fun _ h => h.picks [0, 0, 0, 0] rfl)
      · have hm := ifB_f hb hm
        refine ls true rfl rfl rfl rfl ?_
        refine lp rfl (p_pkf rfl rfl) ?_
        refine lp rfl (p_as rfl) ?_
        refine lj_nil ?_
        exact cnk7 _ _ false () (Option.some.inj hm).symm ⟨rfl, rfl, rfl, trivial⟩ (fun _ h => h.picks [0, 0, 0, 0] rfl)
  · have hm := ifB_f hb hm
    refine cj_skip ?_
    refine nj_seq ?_
    refine cj_seq ?_
    refine cj_reg ?_
    refine lp rfl (p_lbw ty27 rfl (j := 0) rfl rfl) ?_
    obtain ⟨y10, hy10, hm⟩ := bindS hm
    refine r_call [] cf8 rfl rfl (ok_chord_Name y2.1 hy10) rfl rfl (.cons (.ro 3 rfl) .nil) (fun _ => rfl) rfl (fun _ => ?_)
    refine lp rfl (p_mv rfl) ?_
    refine lp rfl (p_ext rfl rfl) ?_
    refine lp rfl (p_ext rfl rfl) ?_
    refine lp rfl (p_as rfl) ?_
    refine lp rfl (p_as rfl) ?_
    refine lj_seq ?_
    refine cj_seq ?_
    refine cj_reg ?_
    refine lp rfl (p_mv rfl) ?_
    obtain ⟨y11, hy11, hm⟩ := bindS hm
    refine r_call [] cf9 rfl rfl (ok_chord_Parse y10.1 hy11) rfl rfl .nil (fun _ => rfl) rfl (fun _ => ?_)
    refine lp rfl (p_mv rfl) ?_
    refine lp rfl (p_ext rfl rfl) ?_
    refine lp rfl (p_ext rfl rfl) ?_
    refine r_al ty27 rfl (fun b12 => ?_)
    refine r_sb (vs := [.int .i64 y11.1.Root, .int .i64 y11.1.Kind, .int .i64 y11.1.Turn]) (j := 0) ty27 rfl rfl rfl rfl rfl rfl rfl ?_
    refine lp rfl (p_as rfl) ?_
    refine lj_seq ?_
    refine cj_seq ?_
    refine cj_reg ?_
    refine lp rfl (p_lbw ty27 rfl (j := 1) rfl rfl) ?_
    obtain ⟨y13, hy13, hm⟩ := bindS hm
    refine r_call [] cf10 rfl rfl (ok_chord_Tones y2.1 hy13) rfl rfl .nil (fun _ => rfl) rfl (fun s14 => ?_)
    refine lp rfl (p_mv rfl) ?_
    refine lp rfl (p_ext rfl rfl) ?_
    refine lp rfl (p_ext rfl rfl) ?_
    refine lp rfl (p_as rfl) ?_
    refine lp rfl (p_as rfl) ?_
    refine lj_seq ?_
    refine cj_seq ?_
    obtain ⟨k18, hk18, hm⟩ := bindS hm
    have hRk18 : ∀ t, k18 = .inr t → some t = some r := fun t e => by rw [e] at hm; exact hm
    refine cj_joinK (σ := (Int × Int × Int × Int)) (γ := Nat) (fun u15 => k18 = .inl u15) (fun u15 g16 => [(2, .bool false), (4, .pointer (some ⟨b3, 0, none⟩)), (6, .int .i64 y10.2), (7, .pointer (some ⟨b12, 0, none⟩)), (8, .int .i64 y11.2), (9, s14.v), (10, .int .i64 y13.2), (11, .pointer (some ⟨g16, 0, none⟩)), (12, .int .i64 u15.2.2.2)]) (fun u15 g16 => Sat w0 (keys ([] : List Ent)) A [.row R3 (SV.v s14) y13.1, .box b12 27 [.int .i64 y11.1.Root, .int .i64 y11.1.Kind, .int .i64 y11.1.Turn], .box b3 27 [.int .i64 y2.1.Root, .int .i64 y2.1.Kind, .int .i64 y2.1.Turn], .ro PowT, .box g16 27 [.int .i64 u15.1, .int .i64 u15.2.1, .int .i64 u15.2.2.1]]) (fun u15 g16 hq => ?_) (fun J cnk18 => ?_)
    · have hm := Sum.fin_l hq hm
      refine cj_seq ?_
      refine cj_seq ?_
      refine cj_reg ?_
      obtain ⟨k27, hk27, hm⟩ := bindS hm
      have hRk27 : ∀ t, k27 = .inr t → some t = some r := fun t e => by rw [e] at hm; exact hm
      refine lj_join (σ := Bool) (γ := Unit) (fun u25 => k27 = .inl u25) (fun u25 g26 => [(2, .bool false), (4, .pointer (some ⟨b3, 0, none⟩)), (9, s14.v), (74, .bool u25)]) (fun u25 g26 => Sat w0 (keys ([] : List Ent)) A [.row R3 (SV.v s14) y13.1, .box b3 27 [.int .i64 y2.1.Root, .int .i64 y2.1.Kind, .int .i64 y2.1.Turn], .ro PowT]) (fun u25 g26 hq => ?_) (fun J cnk27 => ?_)
      · have hm := Sum.fin_l hq hm
        refine cj_if (b := u25) rfl (fun hb => ?_) (fun hb => ?_)
        · have hm := ifB_t hb hm
          refine cj_seq ?_
          refine cj_reg ?_
          refine lp rfl (p_as rfl) ?_
          refine lj_seq ?_
          obtain rfl := Option.some.inj hm
          exact cj_rt () [] Tryz.results3 (.tmp rfl .nil) rfl rfl
        · have hm := ifB_f hb hm
          refine cj_skip ?_
          refine nj_seq ?_
          refine cj_seq ?_
          refine cj_reg ?_
          refine lp rfl (p_as rfl) ?_
          refine lj_seq ?_
          refine cj_seq ?_
          refine cj_reg ?_
          refine lp rfl (p_as rfl) ?_
          refine lj_seq ?_
          refine cj_seq ?_
          refine cj_seq ?_
          refine cj_reg ?_
          refine lp rfl (p_mv rfl) ?_
          refine lp rfl (p_len Tryz.underlying22 rfl (.row 0 rfl)) ?_
          refine lp rfl (p_mv rfl) ?_
          refine lj_seq ?_
          refine cj_nil R3 ?_
          obtain ⟨f37, hf37, hm⟩ := bindS hm
          refine cj_range (γ := SV) (m := (y13.1.length : Int)) hf37 nilS (fun u34 g35 => [(2, .bool false), (4, .pointer (some ⟨b3, 0, none⟩)), (13, g35.v), (14, .int .i64 u34.1), (75, s14.v)]) (fun u34 g35 => Sat w0 (keys ([] : List Ent)) A [.row R3 (SV.v s14) y13.1, .box b3 27 [.int .i64 y2.1.Root, .int .i64 y2.1.Kind, .int .i64 y2.1.Turn], .ro PowT, .row R3 (SV.v g35) u34.2]) ⟨rfl, rfl, rfl, rfl, rfl, rfl, rfl, trivial⟩ (fun _ h => h.picks [1, 1, 1, 0] rfl) (nat_lt _) (fun _ h => (FactAt.get (F := RdS R3 (SV.v s14) y13.1) (.row 1 rfl) h).1) (fun _ _ => ⟨rfl, rfl, rfl, rfl⟩) ⟨rfl, rfl, rfl, rfl, rfl⟩ rfl rfl rfl (fun u34 g35 e => ?_) (fun aftk36 i30 x31 u34 g35 k36 hx32 hs J hJk36 hBk36 hX I cnk36 => ?_)
          · have hm := Flow.fin_b e hm
            refine nj_seq ?_
            refine cj_seq ?_
            refine cj_reg ?_
            refine lp rfl (p_mv rfl) ?_
            obtain ⟨y47, hy47, hm⟩ := bindS hm
            refine r_call [] cf14 rfl rfl (ok_chord_Of g35 u34.2 hy47) rfl rfl (.cons (.row 3 rfl) .nil) (fun _ => rfl) rfl (fun s48 => ?_)
            refine lp rfl (p_mv rfl) ?_
            refine lp rfl (p_ext rfl rfl) ?_
            refine lp rfl (p_ext rfl rfl) ?_
            refine lp rfl (p_as rfl) ?_
            refine lp rfl (p_as rfl) ?_
            refine lj_seq ?_
            refine cj_seq ?_
            refine cj_reg ?_
            refine lp rfl (p_lbw ty27 rfl (j := 2) rfl rfl) ?_
            refine lp rfl (p_mv rfl) ?_
            obtain ⟨y49, hy49, hm⟩ := bindS hm
            refine r_call [] cf15 rfl rfl (ok_chord_Fits y2.1 g35 u34.2 hy49) rfl rfl (.cons (.row 4 rfl) .nil) (fun _ => rfl) rfl (fun _ => ?_)
            refine lp rfl (p_mv rfl) ?_
            refine lp rfl (p_ext rfl rfl) ?_
            refine lp rfl (p_ext rfl rfl) ?_
            refine lp rfl (p_as rfl) ?_
            refine lp rfl (p_as rfl) ?_
            refine lj_seq ?_
            refine cj_seq ?_
            refine cj_reg ?_
            refine lp rfl (p_mv rfl) ?_
            refine lp rfl (p_mv rfl) ?_
            refine r_bs R29 [y47.2, y49.2] rfl rfl rfl (fun _ => by kernel_rfl) rfl (fun s50 => ?_)
            obtain ⟨y51, hy51, hm⟩ := bindS hm
            refine r_call [] cf13 rfl rfl (ok_gleekeep2_errs s50 [y47.2, y49.2] hy51) rfl rfl (.cons (.row 0 rfl) .nil) (fun _ => rfl) rfl (fun _ => ?_)
            refine lp rfl (p_eql rfl rfl) ?_
            refine lp rfl (p_mv rfl) ?_
            refine lcase (i := 108) (y51 == 0) rfl (fun hb => ?_) (fun hb => ?_)
            · have hm := ifB_t hb hm
              refine lg true rfl rfl rfl ?_
              refine lp rfl (p_mv rfl) ?_
              refine lg true rfl rfl rfl ?_
              refine lp rfl (p_lbw ty27 rfl (j := 3) rfl rfl) ?_
              refine lg true rfl rfl rfl ?_
              obtain ⟨y52, hy52, hm⟩ := bindS hm
              refine r_call [] cf16 rfl rfl (ok_slices_Contains_api_Chord_api_Chord s48 y47.1 y2.1 hy52) rfl rfl (.cons (.row 1 rfl) .nil) (fun _ => rfl) rfl (fun _ => ?_)
              refine lp rfl (p_pkt rfl rfl) ?_
              refine lp rfl (p_mv rfl) ?_
              refine lcase (i := 113) y52 rfl (fun hb => ?_) (fun hb => ?_)
              · have hm := ifB_t hb hm
                refine lg true rfl rfl rfl ?_
                refine lp rfl (p_mv rfl) ?_
                refine lp rfl (p_pkt rfl rfl) ?_
                refine lp rfl (p_mv rfl) ?_
                refine lcase (i := 116) y49.1 rfl (fun hb => ?_) (fun hb => ?_)
                · have hm := ifB_t hb hm
                  refine lg true rfl rfl rfl ?_
                  obtain ⟨y53, hy53, hm⟩ := bindS hm
                  refine r_call [] cf7 rfl rfl (ok_gleekeep2_ready  hy53) rfl rfl (.cons (.ro 4 rfl) .nil) (fun _ => rfl) rfl (fun _ => ?_)
                  refine lp rfl (p_pkt rfl rfl) ?_
                  refine lp rfl (p_as rfl) ?_
                  refine lj_seq ?_
                  obtain rfl := Option.some.inj hm
                  exact cj_rt () [] Tryz.results3 (.tmp rfl .nil) rfl rfl
                · have hm := ifB_f hb hm
                  refine ls true rfl rfl rfl rfl ?_
                  refine lp rfl (p_pkf rfl rfl) ?_
                  refine lp rfl (p_as rfl) ?_
                  refine lj_seq ?_
                  obtain rfl := Option.some.inj hm
                  exact cj_rt () [] Tryz.results3 (.tmp rfl .nil) rfl rfl
              · have hm := ifB_f hb hm
                refine ls true rfl rfl rfl rfl ?_
                refine lp rfl (p_pkf rfl rfl) ?_
                refine lp rfl (p_mv rfl) ?_
                refine ls true rfl rfl rfl rfl ?_
                refine lp rfl (p_pkf rfl rfl) ?_
                refine lp rfl (p_as rfl) ?_
                refine lj_seq ?_
                obtain rfl := Option.some.inj hm
                exact cj_rt () [] Tryz.results3 (.tmp rfl .nil) rfl rfl
            · have hm := ifB_f hb hm
              refine ls true rfl rfl rfl rfl ?_
              refine ls true rfl rfl rfl rfl ?_
              refine ls true rfl rfl rfl rfl ?_
              refine lp rfl (p_pkf rfl rfl) ?_
              refine lp rfl (p_mv rfl) ?_
              refine ls true rfl rfl rfl rfl ?_
              refine lp rfl (p_pkf rfl rfl) ?_
              refine lp rfl (p_mv rfl) ?_
              refine ls true rfl rfl rfl rfl ?_
              refine lp rfl (p_pkf rfl rfl) ?_
              refine lp rfl (p_as rfl) ?_
              refine lj_seq ?_
              obtain rfl := Option.some.inj hm
              exact cj_rt () [] Tryz.results3 (.tmp rfl .nil) rfl rfl
          · have hRk36 : ∀ t, k36 = .ret t → some t = some r := fun t e => by rw [hX t e] at hm; exact hm
            have hm := hs
            refine cj_seq ?_
            refine cj_reg ?_
            refine lp rfl (p_idx Tryz.underlying22 ty3 rfl rfl (.row 0 rfl) (getI_nat.trans hx32)) ?_
            refine lp rfl (p_lde (o := 0) ty3 rfl rfl (.row 0 rfl) hx32 rfl) ?_
            refine lp rfl (p_as rfl) ?_
            refine lj_seq ?_
            refine cj_seq ?_
            obtain ⟨f42, hf42, hm⟩ := bindS hm
            refine cj_whileA (γ := Unit) hf42 () (fun u39 g40 => [(2, .bool false), (4, .pointer (some ⟨b3, 0, none⟩)), (13, g35.v), (14, .int .i64 u39), (16, .int .i64 x31), (75, s14.v), (76, .int .i64 (y13.1.length : Int)), (77, .int .i64 (i30 : Int))]) (fun u39 g40 => Sat w0 (keys ([] : List Ent)) A [.row R3 (SV.v s14) y13.1, .box b3 27 [.int .i64 y2.1.Root, .int .i64 y2.1.Kind, .int .i64 y2.1.Turn], .ro PowT, .row R3 (SV.v g35) u34.2]) ⟨rfl, rfl, rfl, rfl, rfl, rfl, rfl, rfl, trivial⟩ (fun _ h => h.picks [0, 0, 0, 0] rfl) (fun u39 g40 e => ?_) (fun aftk41 u39 g40 k41 hs J hJk41 hBk41 hX I cnk41 => ?_)
            · have hm := Flow.fin_b e hm
              refine nj_seq ?_
              refine cj_reg ?_
              refine lp rfl (p_mv rfl) ?_
              refine lp rfl (p_mv rfl) ?_
              refine r_bs R3 [u39] rfl rfl rfl (fun _ => by kernel_rfl) rfl (fun s43 => ?_)
              obtain ⟨q44, hq44, hm⟩ := bindS hm
              refine r_app (k := 4) Tryz.underlying22 ty3 rfl rfl rfl rfl (.row 0 rfl) hq44 rfl (fun s45 => ?_)
              refine lp rfl (p_as rfl) ?_
              refine lj_nil ?_
              refine nj_blk ?_
              exact cnk36 _ _ (u39, q44) s45 (hJk36 _ (Option.some.inj hm).symm) ⟨rfl, rfl, rfl, rfl, rfl, rfl, rfl, trivial⟩ (fun _ h => h.picks [1, 1, 1, 1] rfl)
            · have hRk41 : ∀ t, k41 = .ret t → some t = some k36 := fun t e => by rw [hX t e] at hm; exact hm
              have hm := hs
              refine cj_seq ?_
              refine cj_seq ?_
              refine cj_reg ?_
              refine lp rfl (p_mv rfl) ?_
              refine lp rfl (p_rem rfl rfl (by decide)) ?_
              refine lp rfl (p_mv rfl) ?_
              refine lp rfl (p_neq rfl rfl) ?_
              refine lj_seq ?_
              refine cj_if (b := (u39.tmod 12) != x31) rfl (fun hb => ?_) (fun hb => ?_)
              · have hm := ifB_t hb hm
                refine cj_skip ?_
                refine nj_seq ?_
                refine cj_blk ?_
                refine cj_reg ?_
                refine lp rfl (p_mv rfl) ?_
                refine lp rfl (p_add rfl rfl) ?_
                refine lp rfl (p_as rfl) ?_
                refine lj_nil ?_
                refine nj_blk ?_
                exact cnk41 _ _ (w64 (u39 + 1)) () (hJk41 _ (Option.some.inj hm).symm) ⟨rfl, rfl, rfl, rfl, rfl, rfl, rfl, rfl, trivial⟩ (fun _ h => h.picks [0, 0, 0, 0] rfl)
              · have hm := ifB_f hb hm
                refine cj_exit rfl ?_
                exact (aftk41 u39 () (hBk41 _ (Option.some.inj hm).symm)).sub ⟨rfl, rfl, rfl, rfl, rfl, rfl, rfl, rfl, trivial⟩ (fun _ h => h.picks [0, 0, 0, 0] rfl)
      · have hm := hk27
        refine lp rfl (p_mv rfl) ?_
        refine lp rfl (p_mv rfl) ?_
        refine lp rfl (p_mv rfl) ?_
        refine lp rfl (p_mv rfl) ?_
        refine r_bs R29 [y10.2, y11.2, y13.2, u15.2.2.2] rfl rfl rfl (fun _ => by kernel_rfl) rfl (fun s28 => ?_)
        obtain ⟨y29, hy29, hm⟩ := bindS hm
        refine r_call [] cf13 rfl rfl (ok_gleekeep2_errs s28 [y10.2, y11.2, y13.2, u15.2.2.2] hy29) rfl rfl (.cons (.row 0 rfl) .nil) (fun _ => rfl) rfl (fun _ => ?_)
        refine lp rfl (p_neq rfl rfl) ?_
        refine lp rfl (p_mv rfl) ?_
        refine lcase (i := 65) (y29 != 0) rfl (fun hb => ?_) (fun hb => ?_)
        · have hm := ifB_t hb hm
          refine ls false rfl rfl rfl rfl ?_
          refine ls false rfl rfl rfl rfl ?_
          refine ls false rfl rfl rfl rfl ?_
          refine lp rfl (p_pkt rfl rfl) ?_
          refine lp rfl (p_mv rfl) ?_
          refine ls false rfl rfl rfl rfl ?_
          refine ls false rfl rfl rfl rfl ?_
          refine ls false rfl rfl rfl rfl ?_
          refine lp rfl (p_pkt rfl rfl) ?_
          refine lj_nil ?_
          exact cnk27 _ _ true () (Option.some.inj hm).symm ⟨rfl, rfl, rfl, rfl, trivial⟩ (fun _ h => h.picks [1, 2, 2] rfl)
        · have hm := ifB_f hb hm
          refine lg false rfl rfl rfl ?_
          refine lp rfl (p_lbw ty27 rfl (j := 2) rfl rfl) ?_
          refine lg false rfl rfl rfl ?_
          refine lp rfl (p_lbw ty27 rfl (j := 3) rfl rfl) ?_
          refine lg false rfl rfl rfl ?_
          refine lp rfl (p_nest (by kernel_rfl) rfl rfl (eqst27 y11.1 y2.1)) ?_
          refine lp rfl (p_pkf rfl rfl) ?_
          refine lp rfl (p_mv rfl) ?_
          refine lcase (i := 70) (!(decide (y11.1 = y2.1))) rfl (fun hb => ?_) (fun hb => ?_)
          · have hm := ifB_t hb hm
            refine ls false rfl rfl rfl rfl ?_
            refine ls false rfl rfl rfl rfl ?_
            refine ls false rfl rfl rfl rfl ?_
            refine lp rfl (p_pkt rfl rfl) ?_
            refine lj_nil ?_
            exact cnk27 _ _ true () (Option.some.inj hm).symm ⟨rfl, rfl, rfl, rfl, trivial⟩ (fun _ h => h.picks [1, 2, 2] rfl)
          · have hm := ifB_f hb hm
            refine lg false rfl rfl rfl ?_
            refine lp rfl (p_lbw ty27 rfl (j := 5) rfl rfl) ?_
            refine lg false rfl rfl rfl ?_
            refine lp rfl (p_lbw ty27 rfl (j := 3) rfl rfl) ?_
            refine lg false rfl rfl rfl ?_
            refine lp rfl (p_nest (by kernel_rfl) rfl rfl (eqst27 (TChord.mk u15.1 u15.2.1 u15.2.2.1) y2.1)) ?_
            refine lp rfl (p_pkf rfl rfl) ?_
            refine lj_nil ?_
            exact cnk27 _ _ (!(decide ((TChord.mk u15.1 u15.2.1 u15.2.2.1) = y2.1))) () (Option.some.inj hm).symm ⟨rfl, rfl, rfl, rfl, trivial⟩ (fun _ h => h.picks [1, 2, 2] rfl)
    · have hm := hk18
      obtain ⟨y19, hy19, hm⟩ := bindS hm
      obtain ⟨y20, hy20, hm⟩ := bindS hm
      refine cj_anyT [0, 1, 3, 5, 6, 7, 10] [9, 10] (Sat w0 (keys ([] : List Ent)) A [.row R3 (SV.v s14) y13.1, .box b12 27 [.int .i64 y11.1.Root, .int .i64 y11.1.Kind, .int .i64 y11.1.Turn], .box b3 27 [.int .i64 y2.1.Root, .int .i64 y2.1.Kind, .int .i64 y2.1.Turn], .ro (RdS R3 (SV.v s0_) a0), .ro PowT]) (Sat w0 (keys ([] : List Ent)) A [.row R3 (SV.v s14) y13.1, .box b12 27 [.int .i64 y11.1.Root, .int .i64 y11.1.Kind, .int .i64 y11.1.Turn], .box b3 27 [.int .i64 y2.1.Root, .int .i64 y2.1.Kind, .int .i64 y2.1.Turn], .ro (RdS R3 (SV.v s0_) a0), .ro PowT]) (by kernel_rfl) ?_
      refine at_take2 0 rfl (by kernel_rfl) (by kernel_rfl) (by kernel_rfl) (fun _ h => h.picks [0, 0, 0, 0, 0] rfl) rfl rfl (p_lbw ty27 rfl (j := 2) rfl rfl) (fun _ h => h.picks [0, 0, 0, 1, 1] rfl) ?_
      refine at_take2 1 rfl (by kernel_rfl) (by kernel_rfl) (by kernel_rfl) (fun _ h => h.picks [0, 0, 0, 0, 0] rfl) rfl rfl (p_mv rfl) (fun _ h => h.picks [0, 0, 0, 1, 1] rfl) ?_
      refine at_each (rs := [2, 8]) (by kernel_rfl) (by decide) ?_
      refine (.cons rfl (fun I cnI => ?_) (.cons rfl (fun I cnI => ?_) .nil))
      · refine r_call [3] cf12 rfl rfl (ok_gleemake_Stream_Range b1 s0_ a0 y2.2 (-3) 3 hy19) rfl rfl (.cons (.ro 3 rfl) .nil) (fun _ => rfl) rfl (fun _ => ?_)
        refine lj_nil ?_
        refine cnI _ _ (sof1 rfl rfl (fun _ h => h.picks [1, 1, 1, 1, 1] rfl)) ?_
        refine at_take2 3 rfl (by kernel_rfl) (by kernel_rfl) (by kernel_rfl) (fun _ h => h.picks [0, 0, 0, 0, 0] rfl) rfl rfl (p_mul rfl rfl) (fun _ h => h.picks [1, 1, 1, 1, 1] rfl) ?_
        refine at_each (rs := [4, 8]) (by kernel_rfl) (by decide) ?_
        refine (.cons rfl (fun I cnI => ?_) (.cons rfl (fun I cnI => ?_) .nil))
        · refine r_call [] cf11 rfl rfl (ok_chord_Shift y2.1 (w64 (12 * y19.1)) hy20) rfl rfl .nil (fun _ => rfl) rfl (fun _ => ?_)
          refine lj_nil ?_
          refine cnI _ _ (sof1 rfl rfl (fun _ h => h.picks [1, 1, 1, 1, 1] rfl)) ?_
          refine at_take2 5 rfl (by kernel_rfl) (by kernel_rfl) (by kernel_rfl) (fun _ h => h.picks [0, 0, 0, 0, 0] rfl) rfl rfl (p_mv rfl) (fun _ h => h.picks [1, 1, 1, 1, 1] rfl) ?_
          refine at_take2 6 rfl (by kernel_rfl) (by kernel_rfl) (by kernel_rfl) (fun _ h => h.picks [0, 0, 0, 0, 0] rfl) rfl rfl (p_ext rfl rfl) (fun _ h => h.picks [1, 1, 1, 1, 1] rfl) ?_
          refine at_take2 7 rfl (by kernel_rfl) (by kernel_rfl) (by kernel_rfl) (fun _ h => h.picks [0, 0, 0, 0, 0] rfl) rfl rfl (p_ext rfl rfl) (fun _ h => h.picks [1, 1, 1, 1, 1] rfl) ?_
          refine at_each (rs := [8]) (by kernel_rfl) (by decide) ?_
          refine (.cons rfl (fun I cnI => ?_) .nil)
          · refine r_al ty27 rfl (fun b22 => ?_)
            refine lj_nil ?_
            refine cnI _ _ (sof1 rfl rfl (fun _ h => h.picks [2, 2, 2, 2, 2] rfl)) ?_
            refine at_each (rs := [9]) (by kernel_rfl) (by decide) ?_
            refine (.cons rfl (fun I cnI => ?_) .nil)
            · refine r_sb (vs := [.int .i64 y20.1.Root, .int .i64 y20.1.Kind, .int .i64 y20.1.Turn]) (j := 0) ty27 rfl rfl rfl rfl rfl rfl rfl ?_
              refine lj_nil ?_
              refine cnI _ _ (sof2 rfl rfl (fun _ h => h.picks [2, 2, 2, 2, 2] rfl)) ?_
              refine at_take2 10 rfl (by kernel_rfl) (by kernel_rfl) (by kernel_rfl) (fun _ h => h.picks [0, 0, 0, 0, 0] rfl) rfl rfl (p_as rfl) (fun _ h => h.picks [2, 2, 2, 2, 2] rfl) ?_
              refine at_done (by kernel_rfl) ?_
              exact cnk18 _ _ (y20.1.Root, y20.1.Kind, y20.1.Turn, y20.2) b22 (Option.some.inj hm).symm ⟨rfl, rfl, rfl, rfl, rfl, rfl, rfl, rfl, rfl, trivial⟩ (fun _ h => h.picks [2, 2, 2, 3, 0] rfl)
        · refine r_al ty27 rfl (fun b23 => ?_)
          refine lj_nil ?_
          refine cnI _ _ (sof1 rfl rfl (fun _ h => h.picks [2, 2, 2, 2, 2] rfl)) ?_
          refine at_each (rs := [4]) (by kernel_rfl) (by decide) ?_
          refine (.cons rfl (fun I cnI => ?_) .nil)
          · refine r_call [] cf11 rfl rfl (ok_chord_Shift y2.1 (w64 (12 * y19.1)) hy20) rfl rfl .nil (fun _ => rfl) rfl (fun _ => ?_)
            refine lj_nil ?_
            refine cnI _ _ (sof1 rfl rfl (fun _ h => h.picks [2, 2, 2, 2, 2] rfl)) ?_
            refine at_take2 5 rfl (by kernel_rfl) (by kernel_rfl) (by kernel_rfl) (fun _ h => h.picks [0, 0, 0, 0, 0] rfl) rfl rfl (p_mv rfl) (fun _ h => h.picks [2, 2, 2, 2, 2] rfl) ?_
            refine at_take2 6 rfl (by kernel_rfl) (by kernel_rfl) (by kernel_rfl) (fun _ h => h.picks [0, 0, 0, 0, 0] rfl) rfl rfl (p_ext rfl rfl) (fun _ h => h.picks [2, 2, 2, 2, 2] rfl) ?_
            refine at_take2 7 rfl (by kernel_rfl) (by kernel_rfl) (by kernel_rfl) (fun _ h => h.picks [0, 0, 0, 0, 0] rfl) rfl rfl (p_ext rfl rfl) (fun _ h => h.picks [2, 2, 2, 2, 2] rfl) ?_
            refine at_each (rs := [9]) (by kernel_rfl) (by decide) ?_
            refine (.cons rfl (fun I cnI => ?_) .nil)
            · refine r_sb (vs := [.int .i64 y20.1.Root, .int .i64 y20.1.Kind, .int .i64 y20.1.Turn]) (j := 0) ty27 rfl rfl rfl rfl rfl rfl rfl ?_
              refine lj_nil ?_
              refine cnI _ _ (sof2 rfl rfl (fun _ h => h.picks [2, 2, 2, 2, 2] rfl)) ?_
              refine at_take2 10 rfl (by kernel_rfl) (by kernel_rfl) (by kernel_rfl) (fun _ h => h.picks [0, 0, 0, 0, 0] rfl) rfl rfl (p_as rfl) (fun _ h => h.picks [2, 2, 2, 2, 2] rfl) ?_
              refine at_done (by kernel_rfl) ?_
              exact cnk18 _ _ (y20.1.Root, y20.1.Kind, y20.1.Turn, y20.2) b23 (Option.some.inj hm).symm ⟨rfl, rfl, rfl, rfl, rfl, rfl, rfl, rfl, rfl, trivial⟩ (fun _ h => h.picks [2, 2, 2, 3, 0] rfl)
      · refine r_al ty27 rfl (fun b24 => ?_)
        refine lj_nil ?_
        refine cnI _ _ (sof1 rfl rfl (fun _ h => h.picks [1, 1, 1, 2, 2] rfl)) ?_
        refine at_each (rs := [2]) (by kernel_rfl) (by decide) ?_
        refine (.cons rfl (fun I cnI => ?_) .nil)
        · refine r_call [4] cf12 rfl rfl (ok_gleemake_Stream_Range b1 s0_ a0 y2.2 (-3) 3 hy19) rfl rfl (.cons (.ro 4 rfl) .nil) (fun _ => rfl) rfl (fun _ => ?_)
          refine lj_nil ?_
          refine cnI _ _ (sof1 rfl rfl (fun _ h => h.picks [2, 2, 2, 2, 2] rfl)) ?_
          refine at_take2 3 rfl (by kernel_rfl) (by kernel_rfl) (by kernel_rfl) (fun _ h => h.picks [0, 0, 0, 0, 0] rfl) rfl rfl (p_mul rfl rfl) (fun _ h => h.picks [2, 2, 2, 2, 2] rfl) ?_
          refine at_each (rs := [4]) (by kernel_rfl) (by decide) ?_
          refine (.cons rfl (fun I cnI => ?_) .nil)
          · refine r_call [] cf11 rfl rfl (ok_chord_Shift y2.1 (w64 (12 * y19.1)) hy20) rfl rfl .nil (fun _ => rfl) rfl (fun _ => ?_)
            refine lj_nil ?_
            refine cnI _ _ (sof1 rfl rfl (fun _ h => h.picks [2, 2, 2, 2, 2] rfl)) ?_
            refine at_take2 5 rfl (by kernel_rfl) (by kernel_rfl) (by kernel_rfl) (fun _ h => h.picks [0, 0, 0, 0, 0] rfl) rfl rfl (p_mv rfl) (fun _ h => h.picks [2, 2, 2, 2, 2] rfl) ?_
            refine at_take2 6 rfl (by kernel_rfl) (by kernel_rfl) (by kernel_rfl) (fun _ h => h.picks [0, 0, 0, 0, 0] rfl) rfl rfl (p_ext rfl rfl) (fun _ h => h.picks [2, 2, 2, 2, 2] rfl) ?_
            refine at_take2 7 rfl (by kernel_rfl) (by kernel_rfl) (by kernel_rfl) (fun _ h => h.picks [0, 0, 0, 0, 0] rfl) rfl rfl (p_ext rfl rfl) (fun _ h => h.picks [2, 2, 2, 2, 2] rfl) ?_
            refine at_each (rs := [9]) (by kernel_rfl) (by decide) ?_
            refine (.cons rfl (fun I cnI => ?_) .nil)
            · refine r_sb (vs := [.int .i64 y20.1.Root, .int .i64 y20.1.Kind, .int .i64 y20.1.Turn]) (j := 1) ty27 rfl rfl rfl rfl rfl rfl rfl ?_
              refine lj_nil ?_
              refine cnI _ _ (sof2 rfl rfl (fun _ h => h.picks [2, 2, 2, 2, 2] rfl)) ?_
              refine at_take2 10 rfl (by kernel_rfl) (by kernel_rfl) (by kernel_rfl) (fun _ h => h.picks [0, 0, 0, 0, 0] rfl) rfl rfl (p_as rfl) (fun _ h => h.picks [2, 2, 2, 2, 2] rfl) ?_
              refine at_done (by kernel_rfl) ?_
              exact cnk18 _ _ (y20.1.Root, y20.1.Kind, y20.1.Turn, y20.2) b24 (Option.some.inj hm).symm ⟨rfl, rfl, rfl, rfl, rfl, rfl, rfl, rfl, rfl, trivial⟩ (fun _ h => h.picks [2, 2, 2, 3, 1] rfl)
end Go.Proofs.YtdeoejkgmeemaahGreatDoor
