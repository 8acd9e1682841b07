/- The walks. Written by program. -/
import Derived.Test.YtnmaaiejcmgdkaaDoorW
namespace Go.Proofs.YtnmaaiejcmgdkaaDoor
open Go Go.J Go.G
set_option maxRecDepth 100000
set_option linter.unusedVariables false
theorem ok_piece_Joined (s0_ : SV) (a0 : (List TBar)) (s1_ : SV) (a1 : (List TTone)) {r : (List TTone) × Int} (hm : m_piece_Joined a0 a1 = some r) :
    Ctr Tryd.prog 9 [s0_.v, s1_.v].toArray ([] : List Ent) [RdS R75 (SV.v s0_) a0, RdS R50 (SV.v s1_) a1, UtfT] (X := SV) (fun s => .tuple [s.v, .int .i64 r.2].toArray) (fun s => [.row R50 (SV.v s) r.1]) := by
  unfold m_piece_Joined at hm
  refine ctr_mk (vs := [(0, s0_.v), (1, s1_.v)]) Tryd.func9 rfl Tryd.ntmps9 rfl ⟨rfl, rfl, trivial⟩ (fun w0 A => ?_)
  refine cj_seq ?_
  refine cj_reg ?_
  refine lp rfl (p_as rfl) ?_
  refine lp rfl (p_as rfl) ?_
  refine lj_seq ?_
  refine cj_seq ?_
  refine cj_seq ?_
  refine cj_reg ?_
  refine lp rfl (p_mv rfl) ?_
  refine lp rfl (p_mv rfl) ?_
  obtain ⟨y1, hy1, hm⟩ := bindS hm
  refine r_call [] cf12 rfl rfl (ok_piece_CheckTones s0_ a0 s1_ a1 hy1) rfl rfl (.cons (.ro 0 rfl) (.cons (.ro 1 rfl) (.cons (.ro 2 rfl) .nil))) (fun _ => rfl) rfl (fun _ => ?_)
  refine lp rfl (p_as rfl) ?_
  refine lj_seq ?_
  refine cj_seq ?_
  refine cj_reg ?_
  refine lp rfl (p_mv rfl) ?_
  refine lp rfl (p_neq rfl rfl) ?_
  refine lj_seq ?_
  refine cj_if (b := y1 != 0) rfl (fun hb => ?_) (fun hb => ?_)
  · have hm := ifB_t hb hm
    refine cj_seq ?_
    refine cj_reg ?_
    refine lp rfl (p_mv rfl) ?_
    refine lp rfl (p_as rfl) ?_
    refine lp rfl (p_as rfl) ?_
    refine lj_seq ?_
    obtain rfl := Option.some.inj hm
    refine cj_nil R50 ?_
    exact cj_rt nilS [0] Tryd.results9 (.tmp rfl (.tmp rfl .nil)) rfl rfl
  · have hm := ifB_f hb hm
    refine cj_skip ?_
    refine nj_seq ?_
    refine cj_seq ?_
    refine cj_reg ?_
    refine lp rfl (p_as rfl) ?_
    refine lj_seq ?_
    refine cj_seq ?_
    refine cj_reg ?_
    refine lp rfl (p_as rfl) ?_
    refine lj_seq ?_
    refine cj_seq ?_
    refine cj_seq ?_
    refine cj_reg ?_
    refine lp rfl (p_mv rfl) ?_
    refine lp rfl (p_len Tryd.underlying28 rfl (.ro 1 rfl)) ?_
    refine lp rfl (p_mv rfl) ?_
    refine lj_seq ?_
    refine cj_nil R50 ?_
    obtain ⟨f10, hf10, hm⟩ := bindS hm
    refine cj_range (γ := SV) (m := (a1.length : Int)) hf10 nilS (fun u7 g8 => [(4, .slice none 0 0), (5, .int .i64 0), (7, g8.v), (8, .bool u7.1), (19, s1_.v)]) (fun u7 g8 => Sat w0 (keys ([] : List Ent)) A [.ro (RdS R50 (SV.v s1_) a1), .ro UtfT, .row R50 (SV.v g8) u7.2]) ⟨rfl, rfl, rfl, rfl, rfl, rfl, rfl, trivial⟩ (fun _ h => h.picks [2, 2, 0] rfl) (nat_lt _) (fun _ h => (FactAt.get (F := RdS R50 (SV.v s1_) a1) (.ro 2 rfl) h).1) (fun _ _ => ⟨rfl, rfl, rfl, rfl⟩) ⟨rfl, rfl, rfl, rfl, rfl⟩ rfl rfl rfl (fun u7 g8 e => ?_) (fun aftk9 i3 x4 u7 g8 k9 hx5 hs J hJk9 hBk9 hX I cnk9 => ?_)
    · have hm := Flow.fin_b e hm
      refine nj_seq ?_
      refine cj_seq ?_
      refine cj_reg ?_
      refine lp rfl (p_mv rfl) ?_
      refine lp rfl (p_as rfl) ?_
      refine lp rfl (p_as rfl) ?_
      refine lj_seq ?_
      obtain rfl := Option.some.inj hm
      exact cj_rt g8 [2] Tryd.results9 (.tmp rfl (.tmp rfl .nil)) rfl rfl
    · have hRk9 : ∀ t, k9 = .ret t → some t = some r := fun t e => by rw [hX t e] at hm; exact hm
      have hm := hs
      refine cj_seq ?_
      refine cj_reg ?_
      refine lp rfl (p_idx Tryd.underlying28 ty50 rfl rfl (.ro 0 rfl) (getI_nat.trans hx5)) ?_
      refine lp rfl (p_lea ty50 rfl (.ro 0 rfl) hx5) ?_
      refine r_al ty50 rfl (fun b12 => ?_)
      refine r_sb (vs := [.int .i64 x4.Note, .int .i64 x4.Long.Num, .int .i64 x4.Long.Den, .string x4.Text, .bool x4.Tied]) (j := 0) ty50 rfl rfl rfl rfl rfl rfl rfl ?_
      refine lj_seq ?_
      refine cj_seq ?_
      refine cj_reg ?_
      refine lp rfl (p_mv rfl) ?_
      refine lp rfl (p_as rfl) ?_
      refine lj_seq ?_
      refine cj_seq ?_
      refine cj_reg ?_
      refine lp rfl (p_fab fl50_3 rfl) ?_
      refine lp rfl (p_lbs ty4 rfl (j := 0) rfl rfl) ?_
      refine lp rfl (p_as rfl) ?_
      refine lj_seq ?_
      refine cj_seq ?_
      refine cj_reg ?_
      refine lp rfl (p_fab fl50_3 rfl) ?_
      refine r_sb (vs := [.bool false]) (j := 0) ty4 rfl rfl rfl rfl rfl rfl rfl ?_
      refine lj_seq ?_
      refine cj_seq ?_
      refine cj_reg ?_
      refine lp rfl (p_mv rfl) ?_
      refine lj_seq ?_
      refine cj_if (b := u7.1) rfl (fun hb => ?_) (fun hb => ?_)
      · have hm := ifB_t hb hm
        refine cj_seq ?_
        refine cj_reg ?_
        refine lp rfl (p_mv rfl) ?_
        refine lp rfl (p_mv rfl) ?_
        refine lp rfl (p_len Tryd.underlying28 rfl (.row 3 rfl)) ?_
        refine lp rfl (p_sub rfl rfl) ?_
        obtain ⟨e13, he13, hm⟩ := bindS hm
        refine lp rfl (p_idx Tryd.underlying28 ty50 rfl rfl (.row 3 rfl) he13) ?_
        refine lp rfl (p_as rfl) ?_
        refine lj_seq ?_
        refine cj_pure (F := RdS R50 (SV.v g8) u7.2) (.row 3 rfl) (fun _ h => h.some_of (getI_spec he13).2) (fun hp17 => ?_)
        refine cj_pure (F := RdS R50 (SV.v g8) u7.2) (.row 3 rfl) (fun _ h => h.pures) (fun hq18 => ?_)
        obtain ⟨y14, hy14, hm⟩ := bindS hm
        obtain ⟨y15, hy15, hm⟩ := bindS hm
        obtain ⟨y16, hy16, hm⟩ := bindS hm
        refine cj_anyT [0, 1, 2, 3, 4, 6, 7, 9, 11, 12] [13] (Sat w0 (keys ([] : List Ent)) A [.box b12 50 [.int .i64 x4.Note, .int .i64 x4.Long.Num, .int .i64 x4.Long.Den, .string x4.Text, .bool false], .ro (RdS R50 (SV.v s1_) a1), .ro UtfT, .row R50 (SV.v g8) u7.2]) (Sat w0 (keys ([] : List Ent)) A [.box b12 50 [.int .i64 x4.Note, .int .i64 x4.Long.Num, .int .i64 x4.Long.Den, .string x4.Text, .bool false], .ro (RdS R50 (SV.v s1_) a1), .ro UtfT]) (by kernel_rfl) ?_
        refine at_take2 0 rfl (by kernel_rfl) (by kernel_rfl) (by kernel_rfl) (fun _ h => h.picks [0, 0, 0] rfl) rfl rfl (p_mv rfl) (fun _ h => h.picks [0, 0, 0] rfl) ?_
        refine at_take2 1 rfl (by kernel_rfl) (by kernel_rfl) (by kernel_rfl) (fun _ h => h.picks [0, 0, 0] rfl) rfl rfl (p_mv rfl) (fun _ h => h.picks [0, 0, 0] rfl) ?_
        refine at_take2 2 rfl (by kernel_rfl) (by kernel_rfl) (by kernel_rfl) (fun _ h => h.picks [0, 0, 0] rfl) rfl rfl (p_ncs rfl hp17) (fun _ h => h.picks [0, 0, 0] rfl) ?_
        refine at_take2 3 rfl (by kernel_rfl) (by kernel_rfl) (by kernel_rfl) (fun _ h => h.picks [0, 0, 0] rfl) rfl rfl (p_fas fl50_1 rfl hp17) (fun _ h => h.picks [0, 0, 0] rfl) ?_
        refine at_take1 4 rfl (by kernel_rfl) (by kernel_rfl) (by kernel_rfl) (by kernel_rfl) rfl rfl (p_lep (o := 1) ty48 rfl rfl (.row 3 rfl) (getI_spec he13).2 (vs := [.int .i64 e13.Long.Num, .int .i64 e13.Long.Den]) rfl rfl) (fun _ h => h.picks [0, 0, 0, 0] rfl) ?_
        refine at_take2 6 rfl (by kernel_rfl) (by kernel_rfl) (by kernel_rfl) (fun _ h => h.picks [0, 0, 0] rfl) rfl rfl (p_fab fl50_1 rfl) (fun _ h => h.picks [0, 0, 0] rfl) ?_
        refine at_take2 7 rfl (by kernel_rfl) (by kernel_rfl) (by kernel_rfl) (fun _ h => h.picks [0, 0, 0] rfl) rfl rfl (p_lba ty48 rfl (j := 0) rfl rfl) (fun _ h => h.picks [0, 0, 0] rfl) ?_
        refine at_each (rs := [5]) (by kernel_rfl) (by decide) ?_
        refine (.cons rfl (fun I cnI => ?_) .nil)
        · refine r_call [] cf43 rfl rfl (ok_piece_units e13.Long hy14) rfl rfl .nil (fun _ => rfl) rfl (fun _ => ?_)
          refine lj_nil ?_
          refine cnI _ _ (sof1 rfl rfl (fun _ h => h.picks [0, 0, 0, 0] rfl)) ?_
          refine at_each (rs := [8]) (by kernel_rfl) (by decide) ?_
          refine (.cons rfl (fun I cnI => ?_) .nil)
          · refine r_call [] cf43 rfl rfl (ok_piece_units x4.Long hy15) rfl rfl .nil (fun _ => rfl) rfl (fun _ => ?_)
            refine lj_nil ?_
            refine cnI _ _ (sof1 rfl rfl (fun _ h => h.picks [0, 0, 0, 0] rfl)) ?_
            refine at_take2 9 rfl (by kernel_rfl) (by kernel_rfl) (by kernel_rfl) (fun _ h => h.picks [0, 0, 0] rfl) rfl rfl (p_add rfl rfl) (fun _ h => h.picks [0, 0, 0] rfl) ?_
            refine at_each (rs := [10]) (by kernel_rfl) (by decide) ?_
            refine (.cons rfl (fun I cnI => ?_) .nil)
            · refine r_call [] cf42 rfl rfl (ok_piece_fraction (w64 (y14 + y15)) hy16) rfl rfl .nil (fun _ => rfl) rfl (fun _ => ?_)
              refine lj_nil ?_
              refine cnI _ _ (sof1 rfl rfl (fun _ h => h.picks [0, 0, 0, 0] rfl)) ?_
              refine at_take2 11 rfl (by kernel_rfl) (by kernel_rfl) (by kernel_rfl) (fun _ h => h.picks [0, 0, 0] rfl) rfl rfl (p_ncs rfl hp17) (fun _ h => h.picks [0, 0, 0] rfl) ?_
              refine at_take2 12 rfl (by kernel_rfl) (by kernel_rfl) (by kernel_rfl) (fun _ h => h.picks [0, 0, 0] rfl) rfl rfl (p_fas fl50_1 rfl hp17) (fun _ h => h.picks [0, 0, 0] rfl) ?_
              refine at_each (rs := [13]) (by kernel_rfl) (by decide) ?_
              refine (.cons rfl (fun I cnI => ?_) .nil)
              · refine r_ste (k := 3) (o := 1) (vs := [.int .i64 y16.Num, .int .i64 y16.Den]) ty48 rfl rfl rfl rfl rfl rfl rfl (getI_spec he13).2 (TTone.mk e13.Note y16 e13.Text e13.Tied) rfl rfl ?_
                refine lj_nil ?_
                refine cnI _ _ (sof2 rfl rfl (fun _ h => h.picks [0, 0, 0] rfl)) ?_
                refine at_done (by kernel_rfl) ?_
                refine nj_blk ?_
                exact cnk9 _ _ (x4.Tied, (u7.2.set ((w64 ((u7.2.length : Int) - 1)).toNat) (TTone.mk e13.Note y16 e13.Text e13.Tied))) g8 (hJk9 _ (Option.some.inj hm).symm) ⟨rfl, rfl, rfl, rfl, rfl, rfl, rfl, trivial⟩ (fun _ h => h.picks [1, 1, 1] rfl)
      · have hm := ifB_f hb hm
        refine cj_reg ?_
        refine lp rfl (p_mv rfl) ?_
        refine lp rfl (p_lbw ty50 rfl (j := 0) rfl rfl) ?_
        refine r_bs R50 [(TTone.mk x4.Note x4.Long x4.Text false)] rfl rfl rfl (fun _ => by kernel_rfl) rfl (fun s19 => ?_)
        obtain ⟨q20, hq20, hm⟩ := bindS hm
        refine r_app (k := 4) Tryd.underlying28 ty50 rfl rfl rfl rfl (.row 0 rfl) hq20 rfl (fun s21 => ?_)
        refine lp rfl (p_as rfl) ?_
        refine lj_nil ?_
        refine nj_blk ?_
        exact cnk9 _ _ (x4.Tied, q20) s21 (hJk9 _ (Option.some.inj hm).symm) ⟨rfl, rfl, rfl, rfl, rfl, rfl, rfl, trivial⟩ (fun _ h => h.picks [2, 2, 2] rfl)
theorem ok_piece_RangeOf (s0_ : SV) (a0 : (List TBar)) (s1_ : SV) (a1 : (List TTone)) {r : TRange × Bool × Int} (hm : m_piece_RangeOf a0 a1 = some r) :
    Ctr Tryd.prog 10 [s0_.v, s1_.v].toArray ([] : List Ent) [RdS R75 (SV.v s0_) a0, RdS R50 (SV.v s1_) a1, UtfT] (X := Unit) (fun _ => .tuple [.agg (R37.enc r.1).toArray, .bool r.2.1, .int .i64 r.2.2].toArray) (fun _ => []) := by
  unfold m_piece_RangeOf at hm
  refine ctr_mk (vs := [(0, s0_.v), (1, s1_.v)]) Tryd.func10 rfl Tryd.ntmps10 rfl ⟨rfl, rfl, trivial⟩ (fun w0 A => ?_)
  refine cj_seq ?_
  refine cj_reg ?_
  refine r_al ty37 rfl (fun b1 => ?_)
  refine lp rfl (p_as rfl) ?_
  refine lp rfl (p_as rfl) ?_
  refine lj_seq ?_
  refine cj_seq ?_
  refine cj_seq ?_
  refine cj_reg ?_
  refine lp rfl (p_mv rfl) ?_
  refine lp rfl (p_mv rfl) ?_
  obtain ⟨y2, hy2, hm⟩ := bindS hm
  refine r_call [] cf12 rfl rfl (ok_piece_CheckTones s0_ a0 s1_ a1 hy2) rfl rfl (.cons (.ro 1 rfl) (.cons (.ro 2 rfl) (.cons (.ro 3 rfl) .nil))) (fun _ => rfl) rfl (fun _ => ?_)
  refine lp rfl (p_as rfl) ?_
  refine lj_seq ?_
  refine cj_seq ?_
  refine cj_reg ?_
  refine lp rfl (p_mv rfl) ?_
  refine lp rfl (p_neq rfl rfl) ?_
  refine lj_seq ?_
  refine cj_if (b := y2 != 0) rfl (fun hb => ?_) (fun hb => ?_)
  · have hm := ifB_t hb hm
    refine cj_seq ?_
    refine cj_reg ?_
    refine lp rfl (p_bld [.int .i64 0, .int .i64 0] rfl (fun _ => by kernel_rfl)) ?_
    refine lp rfl (p_mv rfl) ?_
    refine r_sb (vs := [.int .i64 0, .int .i64 0]) (j := 0) ty37 rfl rfl rfl rfl rfl rfl rfl ?_
    refine lp rfl (p_as rfl) ?_
    refine lp rfl (p_as rfl) ?_
    refine lj_seq ?_
    obtain rfl := Option.some.inj hm
    exact cj_rt () [] Tryd.results10 (.agg (k := 0) ty37 rfl rfl rfl (.tmp rfl (.tmp rfl .nil))) rfl rfl
  · have hm := ifB_f hb hm
    refine cj_skip ?_
    refine nj_seq ?_
    refine cj_seq ?_
    refine cj_reg ?_
    refine lp rfl (p_bld [.int .i64 127, .int .i64 0] rfl (fun _ => by kernel_rfl)) ?_
    refine r_al ty37 rfl (fun b3 => ?_)
    refine r_sb (vs := [.int .i64 127, .int .i64 0]) (j := 0) ty37 rfl rfl rfl rfl rfl rfl rfl ?_
    refine lp rfl (p_as rfl) ?_
    refine lj_seq ?_
    refine cj_seq ?_
    refine cj_seq ?_
    refine cj_reg ?_
    refine lp rfl (p_mv rfl) ?_
    refine lp rfl (p_len Tryd.underlying28 rfl (.ro 3 rfl)) ?_
    refine lp rfl (p_mv rfl) ?_
    refine lj_seq ?_
    obtain ⟨f10, hf10, hm⟩ := bindS hm
    refine cj_range (γ := Unit) (m := (a1.length : Int)) hf10 () (fun u7 g8 => [(4, .pointer (some ⟨b1, 0, none⟩)), (5, .bool false), (6, .int .i64 0), (8, .pointer (some ⟨b3, 0, none⟩)), (9, .bool u7.1), (20, s1_.v)]) (fun u7 g8 => Sat w0 (keys ([] : List Ent)) A [.box b3 37 [.int .i64 u7.2.1, .int .i64 u7.2.2], .box b1 37 [.int .i64 0, .int .i64 0], .ro (RdS R50 (SV.v s1_) a1), .ro UtfT]) ⟨rfl, rfl, rfl, rfl, rfl, rfl, rfl, rfl, trivial⟩ (fun _ h => h.picks [0, 0, 1, 1] rfl) (nat_lt _) (fun _ h => (FactAt.get (F := RdS R50 (SV.v s1_) a1) (.ro 3 rfl) h).1) (fun _ _ => ⟨rfl, rfl, rfl, rfl⟩) ⟨rfl, rfl, rfl, rfl, rfl⟩ rfl rfl rfl (fun u7 g8 e => ?_) (fun aftk9 i4 x5 u7 g8 k9 hx6 hs J hJk9 hBk9 hX I cnk9 => ?_)
    · have hm := Flow.fin_b e hm
      refine nj_seq ?_
      refine cj_seq ?_
      refine cj_seq ?_
      refine cj_reg ?_
      refine lp rfl (p_mv rfl) ?_
      refine lp rfl (p_not rfl) ?_
      refine lj_seq ?_
      refine cj_if (b := !u7.1) rfl (fun hb => ?_) (fun hb => ?_)
      · have hm := ifB_t hb hm
        refine cj_seq ?_
        refine cj_reg ?_
        refine lp rfl (p_bld [.int .i64 0, .int .i64 0] rfl (fun _ => by kernel_rfl)) ?_
        refine r_sb (vs := [.int .i64 0, .int .i64 0]) (j := 1) ty37 rfl rfl rfl rfl rfl rfl rfl ?_
        refine lp rfl (p_as rfl) ?_
        refine lp rfl (p_as rfl) ?_
        refine lj_seq ?_
        obtain rfl := Option.some.inj hm
        exact cj_rt () [] Tryd.results10 (.agg (k := 1) ty37 rfl rfl rfl (.tmp rfl (.tmp rfl .nil))) rfl rfl
      · have hm := ifB_f hb hm
        refine cj_skip ?_
        refine nj_seq ?_
        refine cj_seq ?_
        refine cj_reg ?_
        refine lp rfl (p_lbw ty37 rfl (j := 0) rfl rfl) ?_
        refine r_sb (vs := [.int .i64 u7.2.1, .int .i64 u7.2.2]) (j := 1) ty37 rfl rfl rfl rfl rfl rfl rfl ?_
        refine lp rfl (p_as rfl) ?_
        refine lp rfl (p_as rfl) ?_
        refine lj_seq ?_
        obtain rfl := Option.some.inj hm
        exact cj_rt () [] Tryd.results10 (.agg (k := 1) ty37 rfl rfl rfl (.tmp rfl (.tmp rfl .nil))) rfl rfl
    · have hRk9 : ∀ t, k9 = .ret t → some t = some r := fun t e => by rw [hX t e] at hm; exact hm
      have hm := hs
      refine cj_seq ?_
      refine cj_reg ?_
      refine lp rfl (p_idx Tryd.underlying28 ty50 rfl rfl (.ro 2 rfl) (getI_nat.trans hx6)) ?_
      refine lp rfl (p_lea ty50 rfl (.ro 2 rfl) hx6) ?_
      refine r_al ty50 rfl (fun b11 => ?_)
      refine r_sb (vs := [.int .i64 x5.Note, .int .i64 x5.Long.Num, .int .i64 x5.Long.Den, .string x5.Text, .bool x5.Tied]) (j := 0) ty50 rfl rfl rfl rfl rfl rfl rfl ?_
      refine lj_seq ?_
      refine cj_seq ?_
      refine cj_reg ?_
      refine lp rfl (p_fab fl50_0 rfl) ?_
      refine lp rfl (p_lbs ty3 rfl (j := 0) rfl rfl) ?_
      refine lp rfl (p_neq rfl rfl) ?_
      refine lj_seq ?_
      refine cj_if (b := x5.Note != (-1)) rfl (fun hb => ?_) (fun hb => ?_)
      · have hm := ifB_t hb hm
        refine cj_reg ?_
        refine lp rfl (p_fab fl37_0 rfl) ?_
        refine lp rfl (p_lbs ty3 rfl (j := 1) rfl rfl) ?_
        refine lp rfl (p_fab fl50_0 rfl) ?_
        refine lp rfl (p_lbs ty3 rfl (j := 0) rfl rfl) ?_
        refine lp rfl (p_min rfl rfl) ?_
        refine lp rfl (p_fab fl37_1 rfl) ?_
        refine lp rfl (p_lbs ty3 rfl (j := 1) rfl rfl) ?_
        refine lp rfl (p_fab fl50_0 rfl) ?_
        refine lp rfl (p_lbs ty3 rfl (j := 0) rfl rfl) ?_
        refine lp rfl (p_max rfl rfl) ?_
        refine lp rfl (p_bld [.int .i64 (min u7.2.1 x5.Note), .int .i64 (max u7.2.2 x5.Note)] rfl (fun _ => by kernel_rfl)) ?_
        refine r_sb (vs := [.int .i64 (min u7.2.1 x5.Note), .int .i64 (max u7.2.2 x5.Note)]) (j := 1) ty37 rfl rfl rfl rfl rfl rfl rfl ?_
        refine lp rfl (p_as rfl) ?_
        refine lj_nil ?_
        refine nj_blk ?_
        exact cnk9 _ _ (true, min u7.2.1 x5.Note, max u7.2.2 x5.Note) () (hJk9 _ (Option.some.inj hm).symm) ⟨rfl, rfl, rfl, rfl, rfl, rfl, rfl, rfl, trivial⟩ (fun _ h => h.picks [1, 1, 1, 1] rfl)
      · have hm := ifB_f hb hm
        refine cj_skip ?_
        refine nj_blk ?_
        exact cnk9 _ _ (u7.1, u7.2.1, u7.2.2) () (hJk9 _ (Option.some.inj hm).symm) ⟨rfl, rfl, rfl, rfl, rfl, rfl, rfl, rfl, trivial⟩ (fun _ h => h.picks [1, 1, 1, 1] rfl)
theorem ok_gleeref2_in (a0 : Int) (a1 : Int) (a2 : Int) {r : Bool} (hm : m_gleeref2_in a0 a1 a2 = some r) :
    Ctr Tryd.prog 71 [.int .i64 a0, .int .i64 a1, .int .i64 a2].toArray ([] : List Ent) [] (X := Unit) (fun _ => .bool r) (fun _ => []) := by
  unfold m_gleeref2_in at hm
  refine ctr_mk (vs := [(0, .int .i64 a0), (1, .int .i64 a1), (2, .int .i64 a2)]) Tryd.func71 rfl Tryd.ntmps71 rfl ⟨rfl, rfl, rfl, trivial⟩ (fun w0 A => ?_)
  refine cj_seq ?_
  refine cj_reg ?_
  refine lp rfl (p_as rfl) ?_
  refine lj_seq ?_
  refine cj_seq ?_
  refine cj_reg ?_
  refine lp rfl (p_mv rfl) ?_
  refine lp rfl (p_mv rfl) ?_
  refine lp rfl (p_leq rfl rfl) ?_
  refine lp rfl (p_mv rfl) ?_
  refine lcase (i := 10) (decide (a1 ≤ a0)) rfl (fun hb => ?_) (fun hb => ?_)
  · have hm := ifB_t hb hm
    refine lg true rfl rfl rfl ?_
    refine lp rfl (p_mv rfl) ?_
    refine lg true rfl rfl rfl ?_
    refine lp rfl (p_mv rfl) ?_
    refine lg true rfl rfl rfl ?_
    refine lp rfl (p_leq rfl rfl) ?_
    refine lp rfl (p_pkt rfl rfl) ?_
    refine lp rfl (p_as rfl) ?_
    refine lj_seq ?_
    obtain rfl := Option.some.inj hm
    exact cj_rt () [] Tryd.results71 (.tmp rfl .nil) rfl rfl
  · have hm := ifB_f hb hm
    refine ls true rfl rfl rfl rfl ?_
    refine ls true rfl rfl rfl rfl ?_
    refine ls true rfl rfl rfl rfl ?_
    refine lp rfl (p_pkf rfl rfl) ?_
    refine lp rfl (p_as rfl) ?_
    refine lj_seq ?_
    obtain rfl := Option.some.inj hm
    exact cj_rt () [] Tryd.results71 (.tmp rfl .nil) rfl rfl
theorem ok_gleeref2_OrderOf (s0_ : SV) (a0 : (List TBar)) {r : (List Int)} (hm : m_gleeref2_OrderOf a0 = some r) :
    Ctr Tryd.prog 55 [s0_.v].toArray ([] : List Ent) [RdS R75 (SV.v s0_) a0] (X := SV) (fun s => s.v) (fun s => [.row R3 (SV.v s) r]) := by
  unfold m_gleeref2_OrderOf at hm
  refine ctr_mk (vs := [(0, s0_.v)]) Tryd.func55 rfl Tryd.ntmps55 rfl ⟨rfl, trivial⟩ (fun w0 A => ?_)
  refine cj_seq ?_
  refine cj_reg ?_
  refine lp rfl (p_as rfl) ?_
  refine lj_seq ?_
  refine cj_seq ?_
  refine cj_reg ?_
  refine lp rfl (p_as rfl) ?_
  refine lj_seq ?_
  refine cj_seq ?_
  refine cj_seq ?_
  refine cj_reg ?_
  refine lp rfl (p_as rfl) ?_
  refine lj_seq ?_
  refine cj_nil R3 ?_
  obtain ⟨f5, hf5, hm⟩ := bindS hm
  refine cj_whileA (γ := SV) hf5 nilS (fun u2 g3 => [(0, s0_.v), (2, .slice none 0 0), (3, g3.v), (4, .int .i64 u2.1)]) (fun u2 g3 => Sat w0 (keys ([] : List Ent)) A [.ro (RdS R75 (SV.v s0_) a0), .row R3 (SV.v g3) u2.2]) ⟨rfl, rfl, rfl, rfl, trivial⟩ (fun _ h => h.picks [1, 0] rfl) (fun u2 g3 e => ?_) (fun aftk4 u2 g3 k4 hs J hJk4 hBk4 hX I cnk4 => ?_)
  · have hm := Flow.fin_b e hm
    refine nj_seq ?_
    refine cj_seq ?_
    refine cj_reg ?_
    refine lp rfl (p_mv rfl) ?_
    refine lp rfl (p_as rfl) ?_
    refine lj_seq ?_
    obtain rfl := Option.some.inj hm
    exact cj_rt g3 [1] Tryd.results55 (.tmp rfl .nil) rfl rfl
  · have hRk4 : ∀ t, k4 = .ret t → some t = some r := fun t e => by rw [hX t e] at hm; exact hm
    have hm := hs
    refine cj_seq ?_
    refine cj_seq ?_
    refine cj_reg ?_
    refine lp rfl (p_mv rfl) ?_
    refine lp rfl (p_mv rfl) ?_
    refine lp rfl (p_len Tryd.underlying26 rfl (.ro 0 rfl)) ?_
    refine lp rfl (p_lss rfl rfl) ?_
    refine lj_seq ?_
    refine cj_if (b := decide (u2.1 < (a0.length : Int))) rfl (fun hb => ?_) (fun hb => ?_)
    · have hm := ifB_t hb hm
      refine cj_skip ?_
      refine nj_seq ?_
      refine cj_seq ?_
      refine cj_blk ?_
      refine cj_seq ?_
      refine cj_seq ?_
      refine cj_reg ?_
      refine lp rfl (p_mv rfl) ?_
      refine lp rfl (p_mv rfl) ?_
      obtain ⟨e7, he7, hm⟩ := bindS hm
      refine lp rfl (p_idx Tryd.underlying26 ty75 rfl rfl (.ro 0 rfl) he7) ?_
      refine lp rfl (p_fae fl75_4 rfl (.ro 0 rfl) (getI_spec he7).2) ?_
      refine lp rfl (p_lde (o := 4) ty4 rfl rfl (.ro 0 rfl) (getI_spec he7).2 rfl) ?_
      refine lp rfl (p_not rfl) ?_
      refine lj_seq ?_
      refine cj_if (b := !e7.Open) rfl (fun hb => ?_) (fun hb => ?_)
      · have hm := ifB_t hb hm
        refine cj_seq ?_
        refine cj_reg ?_
        refine lp rfl (p_mv rfl) ?_
        refine lp rfl (p_mv rfl) ?_
        refine r_bs R3 [u2.1] rfl rfl rfl (fun _ => by kernel_rfl) rfl (fun s8 => ?_)
        obtain ⟨q9, hq9, hm⟩ := bindS hm
        refine r_app (k := 2) Tryd.underlying22 ty3 rfl rfl rfl rfl (.row 0 rfl) hq9 rfl (fun s10 => ?_)
        refine lp rfl (p_as rfl) ?_
        refine lj_seq ?_
        refine cj_exit rfl ?_
        refine nj_seq ?_
        refine cj_reg ?_
        refine lp rfl (p_mv rfl) ?_
        refine lp rfl (p_add rfl rfl) ?_
        refine lp rfl (p_as rfl) ?_
        refine lj_nil ?_
        exact cnk4 _ _ (w64 (u2.1 + 1), q9) s10 (hJk4 _ (Option.some.inj hm).symm) ⟨rfl, rfl, rfl, rfl, trivial⟩ (fun _ h => h.picks [1, 1] rfl)
      · have hm := ifB_f hb hm
        refine cj_skip ?_
        refine nj_seq ?_
        refine cj_seq ?_
        refine cj_reg ?_
        refine lp rfl (p_mv rfl) ?_
        refine lp rfl (p_as rfl) ?_
        refine lj_seq ?_
        refine cj_seq ?_
        obtain ⟨f14, hf14, hm⟩ := bindS hm
        refine cj_whileA (γ := Unit) hf14 () (fun u11 g12 => [(0, s0_.v), (2, .slice none 0 0), (3, g3.v), (4, .int .i64 u2.1), (5, .int .i64 u11)]) (fun u11 g12 => Sat w0 (keys ([] : List Ent)) A [.ro (RdS R75 (SV.v s0_) a0), .row R3 (SV.v g3) u2.2]) ⟨rfl, rfl, rfl, rfl, rfl, trivial⟩ (fun _ h => h.picks [0, 0] rfl) (fun u11 g12 e => ?_) (fun aftk13 u11 g12 k13 hs J hJk13 hBk13 hX I cnk13 => ?_)
        · have hm := Flow.fin_b e hm
          refine nj_seq ?_
          refine cj_seq ?_
          refine cj_seq ?_
          refine cj_reg ?_
          refine lp rfl (p_as rfl) ?_
          refine lj_seq ?_
          obtain ⟨f19, hf19, hm⟩ := bindS hm
          refine cj_whileA (γ := SV) hf19 g3 (fun u16 g17 => [(0, s0_.v), (2, .slice none 0 0), (3, g17.v), (4, .int .i64 u2.1), (5, .int .i64 u11), (6, .int .i64 u16.1)]) (fun u16 g17 => Sat w0 (keys ([] : List Ent)) A [.ro (RdS R75 (SV.v s0_) a0), .row R3 (SV.v g17) u16.2]) ⟨rfl, rfl, rfl, rfl, rfl, rfl, trivial⟩ (fun _ h => h.picks [0, 0] rfl) (fun u16 g17 e => ?_) (fun aftk18 u16 g17 k18 hs J hJk18 hBk18 hX I cnk18 => ?_)
          · have hm := Flow.fin_b e hm
            refine nj_seq ?_
            refine cj_reg ?_
            refine lp rfl (p_mv rfl) ?_
            refine lp rfl (p_as rfl) ?_
            refine lj_nil ?_
            refine nj_blk ?_
            refine nj_seq ?_
            refine cj_reg ?_
            refine lp rfl (p_mv rfl) ?_
            refine lp rfl (p_add rfl rfl) ?_
            refine lp rfl (p_as rfl) ?_
            refine lj_nil ?_
            exact cnk4 _ _ (w64 (u11 + 1), u16.2) g17 (hJk4 _ (Option.some.inj hm).symm) ⟨rfl, rfl, rfl, rfl, trivial⟩ (fun _ h => h.picks [0, 0] rfl)
          · have hRk18 : ∀ t, k18 = .ret t → some t = some k4 := fun t e => by rw [hX t e] at hm; exact hm
            have hm := hs
            refine cj_seq ?_
            refine cj_seq ?_
            refine cj_reg ?_
            refine lp rfl (p_mv rfl) ?_
            refine lp rfl (p_mv rfl) ?_
            refine lp rfl (p_mv rfl) ?_
            obtain ⟨e21, he21, hm⟩ := bindS hm
            refine lp rfl (p_idx Tryd.underlying26 ty75 rfl rfl (.ro 0 rfl) he21) ?_
            refine lp rfl (p_fae fl75_2 rfl (.ro 0 rfl) (getI_spec he21).2) ?_
            refine lp rfl (p_lde (o := 2) ty3 rfl rfl (.ro 0 rfl) (getI_spec he21).2 rfl) ?_
            refine lp rfl (p_leq rfl rfl) ?_
            refine lj_seq ?_
            refine cj_if (b := decide (u16.1 ≤ e21.Close)) rfl (fun hb => ?_) (fun hb => ?_)
            · have hm := ifB_t hb hm
              refine cj_skip ?_
              refine nj_seq ?_
              refine cj_seq ?_
              refine cj_blk ?_
              refine cj_seq ?_
              refine cj_reg ?_
              refine lp rfl (p_mv rfl) ?_
              refine lp rfl (p_as rfl) ?_
              refine lj_seq ?_
              obtain ⟨f25, hf25, hm⟩ := bindS hm
              refine cj_whileA (γ := SV) hf25 g17 (fun u22 g23 => [(0, s0_.v), (2, .slice none 0 0), (3, g23.v), (4, .int .i64 u2.1), (5, .int .i64 u11), (6, .int .i64 u16.1), (7, .int .i64 u22.1)]) (fun u22 g23 => Sat w0 (keys ([] : List Ent)) A [.ro (RdS R75 (SV.v s0_) a0), .row R3 (SV.v g23) u22.2]) ⟨rfl, rfl, rfl, rfl, rfl, rfl, rfl, trivial⟩ (fun _ h => h.picks [0, 0] rfl) (fun u22 g23 e => ?_) (fun aftk24 u22 g23 k24 hs J hJk24 hBk24 hX I cnk24 => ?_)
              · have hm := Flow.fin_b e hm
                refine nj_blk ?_
                refine nj_seq ?_
                refine cj_reg ?_
                refine lp rfl (p_mv rfl) ?_
                refine lp rfl (p_add rfl rfl) ?_
                refine lp rfl (p_as rfl) ?_
                refine lj_nil ?_
                exact cnk18 _ _ (w64 (u16.1 + 1), u22.2) g23 (hJk18 _ (Option.some.inj hm).symm) ⟨rfl, rfl, rfl, rfl, rfl, rfl, trivial⟩ (fun _ h => h.picks [0, 0] rfl)
              · have hRk24 : ∀ t, k24 = .ret t → some t = some k18 := fun t e => by rw [hX t e] at hm; exact hm
                have hm := hs
                refine cj_seq ?_
                refine cj_seq ?_
                refine cj_reg ?_
                refine lp rfl (p_mv rfl) ?_
                refine lp rfl (p_mv rfl) ?_
                refine lp rfl (p_leq rfl rfl) ?_
                refine lj_seq ?_
                refine cj_if (b := decide (u22.1 ≤ u11)) rfl (fun hb => ?_) (fun hb => ?_)
                · have hm := ifB_t hb hm
                  refine cj_skip ?_
                  refine nj_seq ?_
                  refine cj_seq ?_
                  refine cj_blk ?_
                  refine cj_seq ?_
                  refine cj_reg ?_
                  obtain ⟨k29, hk29, hm⟩ := bindS hm
                  have hRk29 : ∀ t, k29 = .inr t → some t = some k24 := fun t e => by rw [e] at hm; exact hm
                  refine lj_join (σ := Bool) (γ := Unit) (fun u27 => k29 = .inl u27) (fun u27 g28 => [(0, s0_.v), (2, .slice none 0 0), (3, g23.v), (4, .int .i64 u2.1), (5, .int .i64 u11), (6, .int .i64 u16.1), (7, .int .i64 u22.1), (62, .bool u27)]) (fun u27 g28 => Sat w0 (keys ([] : List Ent)) A [.ro (RdS R75 (SV.v s0_) a0), .row R3 (SV.v g23) u22.2]) (fun u27 g28 hq => ?_) (fun J cnk29 => ?_)
                  · have hm := Sum.fin_l hq hm
                    refine cj_if (b := u27) rfl (fun hb => ?_) (fun hb => ?_)
                    · have hm := ifB_t hb hm
                      refine cj_reg ?_
                      refine lp rfl (p_mv rfl) ?_
                      refine lp rfl (p_mv rfl) ?_
                      refine r_bs R3 [u22.1] rfl rfl rfl (fun _ => by kernel_rfl) rfl (fun s32 => ?_)
                      obtain ⟨q33, hq33, hm⟩ := bindS hm
                      refine r_app (k := 2) Tryd.underlying22 ty3 rfl rfl rfl rfl (.row 0 rfl) hq33 rfl (fun s34 => ?_)
                      refine lp rfl (p_as rfl) ?_
                      refine lj_nil ?_
                      refine nj_blk ?_
                      refine nj_seq ?_
                      refine cj_reg ?_
                      refine lp rfl (p_mv rfl) ?_
                      refine lp rfl (p_add rfl rfl) ?_
                      refine lp rfl (p_as rfl) ?_
                      refine lj_nil ?_
                      exact cnk24 _ _ (w64 (u22.1 + 1), q33) s34 (hJk24 _ (Option.some.inj hm).symm) ⟨rfl, rfl, rfl, rfl, rfl, rfl, rfl, trivial⟩ (fun _ h => h.picks [1, 1] rfl)
                    · have hm := ifB_f hb hm
                      refine cj_skip ?_
                      refine nj_blk ?_
                      refine nj_seq ?_
                      refine cj_reg ?_
                      refine lp rfl (p_mv rfl) ?_
                      refine lp rfl (p_add rfl rfl) ?_
                      refine lp rfl (p_as rfl) ?_
                      refine lj_nil ?_
                      exact cnk24 _ _ (w64 (u22.1 + 1), u22.2) g23 (hJk24 _ (Option.some.inj hm).symm) ⟨rfl, rfl, rfl, rfl, rfl, rfl, rfl, trivial⟩ (fun _ h => h.picks [0, 0] rfl)
                  · have hm := hk29
                    refine lp rfl (p_mv rfl) ?_
                    refine lp rfl (p_mv rfl) ?_
                    obtain ⟨e30, he30, hm⟩ := bindS hm
                    refine lp rfl (p_idx Tryd.underlying26 ty75 rfl rfl (.ro 0 rfl) he30) ?_
                    refine lp rfl (p_fae fl75_3 rfl (.ro 0 rfl) (getI_spec he30).2) ?_
                    refine lp rfl (p_lde (o := 3) ty3 rfl rfl (.ro 0 rfl) (getI_spec he30).2 rfl) ?_
                    refine lp rfl (p_eql rfl rfl) ?_
                    refine lp rfl (p_mv rfl) ?_
                    refine lcase (i := 54) (e30.Ending == 0) rfl (fun hb => ?_) (fun hb => ?_)
                    · have hm := ifB_t hb hm
                      refine ls false rfl rfl rfl rfl ?_
                      refine ls false rfl rfl rfl rfl ?_
                      refine ls false rfl rfl rfl rfl ?_
                      refine ls false rfl rfl rfl rfl ?_
                      refine ls false rfl rfl rfl rfl ?_
                      refine ls false rfl rfl rfl rfl ?_
                      refine ls false rfl rfl rfl rfl ?_
                      refine lp rfl (p_pkt rfl rfl) ?_
                      refine lj_nil ?_
                      exact cnk29 _ _ true () (Option.some.inj hm).symm ⟨rfl, rfl, rfl, rfl, rfl, rfl, rfl, rfl, trivial⟩ (fun _ h => h.picks [0, 0] rfl)
                    · have hm := ifB_f hb hm
                      refine lg false rfl rfl rfl ?_
                      refine lp rfl (p_mv rfl) ?_
                      refine lg false rfl rfl rfl ?_
                      refine lp rfl (p_mv rfl) ?_
                      refine lg false rfl rfl rfl ?_
                      obtain ⟨e31, he31, hm⟩ := bindS hm
                      refine lp rfl (p_idx Tryd.underlying26 ty75 rfl rfl (.ro 0 rfl) he31) ?_
                      refine lg false rfl rfl rfl ?_
                      refine lp rfl (p_fae fl75_3 rfl (.ro 0 rfl) (getI_spec he31).2) ?_
                      refine lg false rfl rfl rfl ?_
                      refine lp rfl (p_lde (o := 3) ty3 rfl rfl (.ro 0 rfl) (getI_spec he31).2 rfl) ?_
                      refine lg false rfl rfl rfl ?_
                      refine lp rfl (p_mv rfl) ?_
                      refine lg false rfl rfl rfl ?_
                      refine lp rfl (p_eql rfl rfl) ?_
                      refine lp rfl (p_pkf rfl rfl) ?_
                      refine lj_nil ?_
                      exact cnk29 _ _ (e31.Ending == u16.1) () (Option.some.inj hm).symm ⟨rfl, rfl, rfl, rfl, rfl, rfl, rfl, rfl, trivial⟩ (fun _ h => h.picks [0, 0] rfl)
                · have hm := ifB_f hb hm
                  refine cj_exit rfl ?_
                  exact (aftk24 (u22.1, u22.2) g23 (hBk24 _ (Option.some.inj hm).symm)).sub ⟨rfl, rfl, rfl, rfl, rfl, rfl, rfl, trivial⟩ (fun _ h => h.picks [0, 0] rfl)
            · have hm := ifB_f hb hm
              refine cj_exit rfl ?_
              exact (aftk18 (u16.1, u16.2) g17 (hBk18 _ (Option.some.inj hm).symm)).sub ⟨rfl, rfl, rfl, rfl, rfl, rfl, trivial⟩ (fun _ h => h.picks [0, 0] rfl)
        · have hRk13 : ∀ t, k13 = .ret t → some t = some k4 := fun t e => by rw [hX t e] at hm; exact hm
          have hm := hs
          refine cj_seq ?_
          refine cj_seq ?_
          refine cj_reg ?_
          refine lp rfl (p_mv rfl) ?_
          refine lp rfl (p_mv rfl) ?_
          obtain ⟨e15, he15, hm⟩ := bindS hm
          refine lp rfl (p_idx Tryd.underlying26 ty75 rfl rfl (.ro 0 rfl) he15) ?_
          refine lp rfl (p_fae fl75_2 rfl (.ro 0 rfl) (getI_spec he15).2) ?_
          refine lp rfl (p_lde (o := 2) ty3 rfl rfl (.ro 0 rfl) (getI_spec he15).2 rfl) ?_
          refine lp rfl (p_eql rfl rfl) ?_
          refine lj_seq ?_
          refine cj_if (b := e15.Close == 0) rfl (fun hb => ?_) (fun hb => ?_)
          · have hm := ifB_t hb hm
            refine cj_skip ?_
            refine nj_seq ?_
            refine cj_blk ?_
            refine cj_reg ?_
            refine lp rfl (p_mv rfl) ?_
            refine lp rfl (p_add rfl rfl) ?_
            refine lp rfl (p_as rfl) ?_
            refine lj_nil ?_
            refine nj_blk ?_
            exact cnk13 _ _ (w64 (u11 + 1)) () (hJk13 _ (Option.some.inj hm).symm) ⟨rfl, rfl, rfl, rfl, rfl, trivial⟩ (fun _ h => h.picks [0, 0] rfl)
          · have hm := ifB_f hb hm
            refine cj_exit rfl ?_
            exact (aftk13 u11 () (hBk13 _ (Option.some.inj hm).symm)).sub ⟨rfl, rfl, rfl, rfl, rfl, trivial⟩ (fun _ h => h.picks [0, 0] rfl)
    · have hm := ifB_f hb hm
      refine cj_exit rfl ?_
      exact (aftk4 (u2.1, u2.2) g3 (hBk4 _ (Option.some.inj hm).symm)).sub ⟨rfl, rfl, rfl, rfl, trivial⟩ (fun _ h => h.picks [0, 0] rfl)
theorem ok_gleeref2_BarsFault (s0_ : SV) (a0 : (List TBar)) {r : Int} (hm : m_gleeref2_BarsFault a0 = some r) :
    Ctr Tryd.prog 44 [s0_.v].toArray ([] : List Ent) [RdS R75 (SV.v s0_) a0] (X := Unit) (fun _ => .int .i64 r) (fun _ => []) := by
  unfold m_gleeref2_BarsFault at hm
  refine ctr_mk (vs := [(0, s0_.v)]) Tryd.func44 rfl Tryd.ntmps44 rfl ⟨rfl, trivial⟩ (fun w0 A => ?_)
  refine cj_seq ?_
  refine cj_reg ?_
  refine lp rfl (p_as rfl) ?_
  refine lj_seq ?_
  refine cj_seq ?_
  refine cj_blk ?_
  refine cj_seq ?_
  refine cj_reg ?_
  refine lp rfl (p_mv rfl) ?_
  refine lp rfl (p_len Tryd.underlying26 rfl (.ro 0 rfl)) ?_
  refine lp rfl (p_eql rfl rfl) ?_
  refine lp rfl (p_as rfl) ?_
  refine lj_seq ?_
  refine cj_if (b := (a0.length : Int) == 0) rfl (fun hb => ?_) (fun hb => ?_)
  · have hm := ifB_t hb hm
    refine cj_seq ?_
    refine cj_reg ?_
    refine lp rfl (p_as rfl) ?_
    refine lj_seq ?_
    obtain rfl := Option.some.inj hm
    exact cj_rt () [] Tryd.results44 (.tmp rfl .nil) rfl rfl
  · have hm := ifB_f hb hm
    refine cj_seq ?_
    refine cj_reg ?_
    refine lp rfl (p_mv rfl) ?_
    refine lp rfl (p_len Tryd.underlying26 rfl (.ro 0 rfl)) ?_
    refine lp rfl (p_gtr rfl rfl) ?_
    refine lp rfl (p_as rfl) ?_
    refine lj_seq ?_
    refine cj_if (b := decide ((a0.length : Int) > 300)) rfl (fun hb => ?_) (fun hb => ?_)
    · have hm := ifB_t hb hm
      refine cj_seq ?_
      refine cj_reg ?_
      refine lp rfl (p_as rfl) ?_
      refine lj_seq ?_
      obtain rfl := Option.some.inj hm
      exact cj_rt () [] Tryd.results44 (.tmp rfl .nil) rfl rfl
    · have hm := ifB_f hb hm
      refine cj_skip ?_
      refine nj_blk ?_
      refine nj_seq ?_
      refine cj_seq ?_
      refine cj_reg ?_
      refine lp rfl (p_as rfl) ?_
      refine lp rfl (p_as rfl) ?_
      refine lp rfl (p_as rfl) ?_
      refine lj_seq ?_
      refine cj_seq ?_
      refine cj_reg ?_
      refine lp rfl (p_as rfl) ?_
      refine lj_seq ?_
      refine cj_seq ?_
      refine cj_seq ?_
      refine cj_reg ?_
      refine lp rfl (p_mv rfl) ?_
      refine lp rfl (p_len Tryd.underlying26 rfl (.ro 0 rfl)) ?_
      refine lp rfl (p_mv rfl) ?_
      refine lj_seq ?_
      obtain ⟨f7, hf7, hm⟩ := bindS hm
      refine cj_range (γ := Unit) (m := (a0.length : Int)) hf7 () (fun u4 g5 => [(0, s0_.v), (2, .int .i64 0), (3, .bool u4.1), (4, .int .i64 u4.2.1), (5, .int .i64 u4.2.2.1), (6, .bool u4.2.2.2), (17, s0_.v)]) (fun u4 g5 => Sat w0 (keys ([] : List Ent)) A [.ro (RdS R75 (SV.v s0_) a0)]) ⟨rfl, rfl, rfl, rfl, rfl, rfl, rfl, rfl, rfl, trivial⟩ (fun _ h => h.picks [0] rfl) (nat_lt _) (fun _ h => (FactAt.get (F := RdS R75 (SV.v s0_) a0) (.ro 0 rfl) h).1) (fun _ _ => ⟨rfl, rfl, rfl, rfl⟩) ⟨rfl, rfl, rfl, rfl, rfl⟩ rfl rfl rfl (fun u4 g5 e => ?_) (fun aftk6 i1 x2 u4 g5 k6 hx3 hs J hJk6 hBk6 hX I cnk6 => ?_)
      · have hm := Flow.fin_b e hm
        refine nj_seq ?_
        refine cj_seq ?_
        refine cj_seq ?_
        refine cj_reg ?_
        obtain ⟨k29, hk29, hm⟩ := bindS hm
        have hRk29 : ∀ t, k29 = .inr t → some t = some r := fun t e => by rw [e] at hm; exact hm
        refine lj_join (σ := Bool) (γ := Unit) (fun u27 => k29 = .inl u27) (fun u27 g28 => [(0, s0_.v), (2, .int .i64 0), (96, .bool u27)]) (fun u27 g28 => Sat w0 (keys ([] : List Ent)) A [.ro (RdS R75 (SV.v s0_) a0)]) (fun u27 g28 hq => ?_) (fun J cnk29 => ?_)
        · have hm := Sum.fin_l hq hm
          refine cj_if (b := u27) rfl (fun hb => ?_) (fun hb => ?_)
          · have hm := ifB_t hb hm
            refine cj_seq ?_
            refine cj_reg ?_
            refine lp rfl (p_as rfl) ?_
            refine lj_seq ?_
            obtain rfl := Option.some.inj hm
            exact cj_rt () [] Tryd.results44 (.tmp rfl .nil) rfl rfl
          · have hm := ifB_f hb hm
            refine cj_skip ?_
            refine nj_seq ?_
            refine cj_seq ?_
            refine cj_seq ?_
            refine cj_reg ?_
            refine lp rfl (p_mv rfl) ?_
            obtain ⟨y30, hy30, hm⟩ := bindS hm
            refine r_call [] cf55 rfl rfl (ok_gleeref2_OrderOf s0_ a0 hy30) rfl rfl (.cons (.ro 0 rfl) .nil) (fun _ => rfl) rfl (fun s31 => ?_)
            refine lp rfl (p_len Tryd.underlying22 rfl (.row 0 rfl)) ?_
            refine lp rfl (p_gtr rfl rfl) ?_
            refine lj_seq ?_
            refine cj_if (b := decide ((y30.length : Int) > 2000)) rfl (fun hb => ?_) (fun hb => ?_)
            · have hm := ifB_t hb hm
              refine cj_seq ?_
              refine cj_reg ?_
              refine lp rfl (p_as rfl) ?_
              refine lj_seq ?_
              obtain rfl := Option.some.inj hm
              exact cj_rt () [] Tryd.results44 (.tmp rfl .nil) rfl rfl
            · have hm := ifB_f hb hm
              refine cj_skip ?_
              refine nj_seq ?_
              refine cj_seq ?_
              refine cj_reg ?_
              refine lp rfl (p_as rfl) ?_
              refine lj_seq ?_
              obtain rfl := Option.some.inj hm
              exact cj_rt () [] Tryd.results44 (.tmp rfl .nil) rfl rfl
        · have hm := hk29
          refine lp rfl (p_mv rfl) ?_
          refine lp rfl (p_mv rfl) ?_
          refine lcase (i := 94) u4.1 rfl (fun hb => ?_) (fun hb => ?_)
          · have hm := ifB_t hb hm
            refine ls false rfl rfl rfl rfl ?_
            refine lp rfl (p_pkt rfl rfl) ?_
            refine lj_nil ?_
            exact cnk29 _ _ true () (Option.some.inj hm).symm ⟨rfl, rfl, rfl, trivial⟩ (fun _ h => h.picks [0] rfl)
          · have hm := ifB_f hb hm
            refine lg false rfl rfl rfl ?_
            refine lp rfl (p_mv rfl) ?_
            refine lp rfl (p_pkf rfl rfl) ?_
            refine lj_nil ?_
            exact cnk29 _ _ u4.2.2.2 () (Option.some.inj hm).symm ⟨rfl, rfl, rfl, trivial⟩ (fun _ h => h.picks [0] rfl)
      · have hRk6 : ∀ t, k6 = .ret t → some t = some r := fun t e => by rw [hX t e] at hm; exact hm
        have hm := hs
        refine cj_seq ?_
        refine cj_reg ?_
        refine lp rfl (p_idx Tryd.underlying26 ty75 rfl rfl (.ro 0 rfl) (getI_nat.trans hx3)) ?_
        refine lp rfl (p_lea ty75 rfl (.ro 0 rfl) hx3) ?_
        refine r_al ty75 rfl (fun b8 => ?_)
        refine r_sb (vs := [.int .i64 x2.Beats, .int .i64 x2.Unit, .int .i64 x2.Close, .int .i64 x2.Ending, .bool x2.Open]) (j := 0) ty75 rfl rfl rfl rfl rfl rfl rfl ?_
        refine lj_seq ?_
        refine cj_seq ?_
        refine cj_seq ?_
        refine cj_reg ?_
        obtain ⟨k11, hk11, hm⟩ := bindS hm
        have hRk11 : ∀ t, k11 = .inr t → some t = some k6 := fun t e => by rw [e] at hm; exact hm
        refine lj_join (σ := Bool) (γ := Unit) (fun u9 => k11 = .inl u9) (fun u9 g10 => [(0, s0_.v), (2, .int .i64 0), (3, .bool u4.1), (4, .int .i64 u4.2.1), (5, .int .i64 u4.2.2.1), (6, .bool u4.2.2.2), (8, .pointer (some ⟨b8, 0, none⟩)), (17, s0_.v), (18, .int .i64 (a0.length : Int)), (19, .int .i64 (i1 : Int)), (50, .bool u9)]) (fun u9 g10 => Sat w0 (keys ([] : List Ent)) A [.box b8 75 [.int .i64 x2.Beats, .int .i64 x2.Unit, .int .i64 x2.Close, .int .i64 x2.Ending, .bool x2.Open], .ro (RdS R75 (SV.v s0_) a0)]) (fun u9 g10 hq => ?_) (fun J cnk11 => ?_)
        · have hm := Sum.fin_l hq hm
          refine cj_if (b := u9) rfl (fun hb => ?_) (fun hb => ?_)
          · have hm := ifB_t hb hm
            refine cj_seq ?_
            refine cj_reg ?_
            refine lp rfl (p_as rfl) ?_
            refine lj_seq ?_
            have hm := hRk6 _ (Option.some.inj hm).symm
            obtain rfl := Option.some.inj hm
            exact cj_rt () [] Tryd.results44 (.tmp rfl .nil) rfl rfl
          · have hm := ifB_f hb hm
            refine cj_skip ?_
            refine nj_seq ?_
            refine cj_seq ?_
            refine cj_seq ?_
            refine cj_reg ?_
            refine lp rfl (p_fab fl75_4 rfl) ?_
            refine lp rfl (p_lbs ty4 rfl (j := 0) rfl rfl) ?_
            refine lj_seq ?_
            obtain ⟨k20, hk20, hm⟩ := bindS hm
            have hRk20 : ∀ t, k20 = .inr t → some t = some k6 := fun t e => by rw [e] at hm; exact hm
            refine cj_joinK (σ := (Bool × Int × Int)) (γ := Unit) (fun u18 => k20 = .inl u18) (fun u18 g19 => [(0, s0_.v), (2, .int .i64 0), (3, .bool u18.1), (4, .int .i64 u18.2.1), (5, .int .i64 u18.2.2), (6, .bool u4.2.2.2), (8, .pointer (some ⟨b8, 0, none⟩)), (17, s0_.v), (18, .int .i64 (a0.length : Int)), (19, .int .i64 (i1 : Int))]) (fun u18 g19 => Sat w0 (keys ([] : List Ent)) A [.box b8 75 [.int .i64 x2.Beats, .int .i64 x2.Unit, .int .i64 x2.Close, .int .i64 x2.Ending, .bool x2.Open], .ro (RdS R75 (SV.v s0_) a0)]) (fun u18 g19 hq => ?_) (fun J cnk20 => ?_)
            · have hm := Sum.fin_l hq hm
              refine cj_seq ?_
              refine cj_seq ?_
              refine cj_reg ?_
              obtain ⟨k23, hk23, hm⟩ := bindS hm
              have hRk23 : ∀ t, k23 = .inr t → some t = some k6 := fun t e => by rw [e] at hm; exact hm
              refine lj_join (σ := Bool) (γ := Unit) (fun u21 => k23 = .inl u21) (fun u21 g22 => [(0, s0_.v), (2, .int .i64 0), (3, .bool u18.1), (4, .int .i64 u18.2.1), (5, .int .i64 u18.2.2), (6, .bool u4.2.2.2), (8, .pointer (some ⟨b8, 0, none⟩)), (17, s0_.v), (18, .int .i64 (a0.length : Int)), (19, .int .i64 (i1 : Int)), (74, .bool u21)]) (fun u21 g22 => Sat w0 (keys ([] : List Ent)) A [.box b8 75 [.int .i64 x2.Beats, .int .i64 x2.Unit, .int .i64 x2.Close, .int .i64 x2.Ending, .bool x2.Open], .ro (RdS R75 (SV.v s0_) a0)]) (fun u21 g22 hq => ?_) (fun J cnk23 => ?_)
              · have hm := Sum.fin_l hq hm
                refine cj_if (b := u21) rfl (fun hb => ?_) (fun hb => ?_)
                · have hm := ifB_t hb hm
                  refine cj_seq ?_
                  refine cj_reg ?_
                  refine lp rfl (p_as rfl) ?_
                  refine lj_seq ?_
                  have hm := hRk6 _ (Option.some.inj hm).symm
                  obtain rfl := Option.some.inj hm
                  exact cj_rt () [] Tryd.results44 (.tmp rfl .nil) rfl rfl
                · have hm := ifB_f hb hm
                  refine cj_skip ?_
                  refine nj_seq ?_
                  refine cj_seq ?_
                  refine cj_seq ?_
                  refine cj_reg ?_
                  refine lp rfl (p_mv rfl) ?_
                  refine lj_seq ?_
                  obtain ⟨k26, hk26, hm⟩ := bindS hm
                  have hRk26 : ∀ t, k26 = .inr t → some t = some k6 := fun t e => by rw [e] at hm; exact hm
                  refine cj_joinK (σ := (Int × Int)) (γ := Unit) (fun u24 => k26 = .inl u24) (fun u24 g25 => [(0, s0_.v), (2, .int .i64 0), (3, .bool u18.1), (4, .int .i64 u24.1), (5, .int .i64 u24.2), (6, .bool u4.2.2.2), (8, .pointer (some ⟨b8, 0, none⟩)), (17, s0_.v), (18, .int .i64 (a0.length : Int)), (19, .int .i64 (i1 : Int))]) (fun u24 g25 => Sat w0 (keys ([] : List Ent)) A [.box b8 75 [.int .i64 x2.Beats, .int .i64 x2.Unit, .int .i64 x2.Close, .int .i64 x2.Ending, .bool x2.Open], .ro (RdS R75 (SV.v s0_) a0)]) (fun u24 g25 hq => ?_) (fun J cnk26 => ?_)
                  · have hm := Sum.fin_l hq hm
                    refine cj_seq ?_
                    refine cj_reg ?_
                    refine lp rfl (p_fab fl75_2 rfl) ?_
                    refine lp rfl (p_lbs ty3 rfl (j := 0) rfl rfl) ?_
                    refine lp rfl (p_neq rfl rfl) ?_
                    refine lj_seq ?_
                    refine cj_if (b := x2.Close != 0) rfl (fun hb => ?_) (fun hb => ?_)
                    · have hm := ifB_t hb hm
                      refine cj_seq ?_
                      refine cj_reg ?_
                      refine lp rfl (p_mv rfl) ?_
                      refine lp rfl (p_mv rfl) ?_
                      refine lcase (i := 86) u4.2.2.2 rfl (fun hb => ?_) (fun hb => ?_)
                      · have hm := ifB_t hb hm
                        refine ls false rfl rfl rfl rfl ?_
                        refine ls false rfl rfl rfl rfl ?_
                        refine ls false rfl rfl rfl rfl ?_
                        refine ls false rfl rfl rfl rfl ?_
                        refine lp rfl (p_pkt rfl rfl) ?_
                        refine lp rfl (p_as rfl) ?_
                        refine lj_seq ?_
                        refine cj_reg ?_
                        refine lp rfl (p_as rfl) ?_
                        refine lj_nil ?_
                        refine nj_blk ?_
                        exact cnk6 _ _ (false, u24.1, u24.2, true) () (hJk6 _ (Option.some.inj hm).symm) ⟨rfl, rfl, rfl, rfl, rfl, rfl, rfl, rfl, rfl, trivial⟩ (fun _ h => h.picks [1] rfl)
                      · have hm := ifB_f hb hm
                        refine lg false rfl rfl rfl ?_
                        refine lp rfl (p_mv rfl) ?_
                        refine lg false rfl rfl rfl ?_
                        refine lp rfl (p_fab fl75_2 rfl) ?_
                        refine lg false rfl rfl rfl ?_
                        refine lp rfl (p_lbs ty3 rfl (j := 0) rfl rfl) ?_
                        refine lg false rfl rfl rfl ?_
                        refine lp rfl (p_gtr rfl rfl) ?_
                        refine lp rfl (p_pkf rfl rfl) ?_
                        refine lp rfl (p_as rfl) ?_
                        refine lj_seq ?_
                        refine cj_reg ?_
                        refine lp rfl (p_as rfl) ?_
                        refine lj_nil ?_
                        refine nj_blk ?_
                        exact cnk6 _ _ (false, u24.1, u24.2, decide (u24.2 > x2.Close)) () (hJk6 _ (Option.some.inj hm).symm) ⟨rfl, rfl, rfl, rfl, rfl, rfl, rfl, rfl, rfl, trivial⟩ (fun _ h => h.picks [1] rfl)
                    · have hm := ifB_f hb hm
                      refine cj_skip ?_
                      refine nj_blk ?_
                      exact cnk6 _ _ (u18.1, u24.1, u24.2, u4.2.2.2) () (hJk6 _ (Option.some.inj hm).symm) ⟨rfl, rfl, rfl, rfl, rfl, rfl, rfl, rfl, rfl, trivial⟩ (fun _ h => h.picks [1] rfl)
                  · have hm := hk26
                    refine cj_if (b := u18.1) rfl (fun hb => ?_) (fun hb => ?_)
                    · have hm := ifB_t hb hm
                      refine cj_quiet (by kernel_rfl) (by kernel_rfl) ?_
                      refine q_p rfl (p_fab fl75_3 rfl) ?_
                      refine q_p rfl (p_lbs ty3 rfl (j := 0) rfl rfl) ?_
                      refine q_p rfl (p_mv rfl) ?_
                      refine q_p rfl (p_fab fl75_3 rfl) ?_
                      refine q_p rfl (p_lbs ty3 rfl (j := 0) rfl rfl) ?_
                      refine q_p rfl (p_max rfl rfl) ?_
                      refine q_p rfl (p_as rfl) ?_
                      refine q_p rfl (p_as rfl) ?_
                      refine q_nil ?_
                      exact cnk26 _ _ (x2.Ending, max u18.2.2 x2.Ending) () (Option.some.inj hm).symm ⟨rfl, rfl, rfl, rfl, rfl, rfl, rfl, rfl, rfl, rfl, trivial⟩ (fun _ h => h.picks [0, 0] rfl)
                    · have hm := ifB_f hb hm
                      refine cj_skip ?_
                      exact cnk26 _ _ (u18.2.1, u18.2.2) () (Option.some.inj hm).symm ⟨rfl, rfl, rfl, rfl, rfl, rfl, rfl, rfl, rfl, rfl, trivial⟩ (fun _ h => h.picks [0, 0] rfl)
              · have hm := hk23
                refine lp rfl (p_mv rfl) ?_
                refine lp rfl (p_not rfl) ?_
                refine lp rfl (p_mv rfl) ?_
                refine lcase (i := 56) (!u18.1) rfl (fun hb => ?_) (fun hb => ?_)
                · have hm := ifB_t hb hm
                  refine lg true rfl rfl rfl ?_
                  refine lp rfl (p_fab fl75_2 rfl) ?_
                  refine lg true rfl rfl rfl ?_
                  refine lp rfl (p_lbs ty3 rfl (j := 0) rfl rfl) ?_
                  refine lg true rfl rfl rfl ?_
                  refine lp rfl (p_neq rfl rfl) ?_
                  refine lg true rfl rfl rfl ?_
                  refine lp rfl (p_mv rfl) ?_
                  refine lcase (i := 60) (x2.Close != 0) rfl (fun hb => ?_) (fun hb => ?_)
                  · have hm := ifB_t hb hm
                    refine ls false rfl rfl rfl rfl ?_
                    refine ls false rfl rfl rfl rfl ?_
                    refine ls false rfl rfl rfl rfl ?_
                    refine lg true rfl rfl rfl ?_
                    refine lp rfl (p_pkt rfl rfl) ?_
                    refine lp rfl (p_pkt rfl rfl) ?_
                    refine lp rfl (p_mv rfl) ?_
                    refine ls false rfl rfl rfl rfl ?_
                    refine ls false rfl rfl rfl rfl ?_
                    refine lsu rfl rfl rfl rfl ?_
                    refine lsu rfl rfl rfl rfl ?_
                    refine lsu rfl rfl rfl rfl ?_
                    refine lsu rfl rfl rfl rfl ?_
                    refine ls false rfl rfl rfl rfl ?_
                    refine lp rfl (p_pkt rfl rfl) ?_
                    refine lj_nil ?_
                    exact cnk23 _ _ true () (Option.some.inj hm).symm ⟨rfl, rfl, rfl, rfl, rfl, rfl, rfl, rfl, rfl, rfl, rfl, trivial⟩ (fun _ h => h.picks [0, 0] rfl)
                  · have hm := ifB_f hb hm
                    refine lg false rfl rfl rfl ?_
                    refine lp rfl (p_fab fl75_3 rfl) ?_
                    refine lg false rfl rfl rfl ?_
                    refine lp rfl (p_lbs ty3 rfl (j := 0) rfl rfl) ?_
                    refine lg false rfl rfl rfl ?_
                    refine lp rfl (p_neq rfl rfl) ?_
                    refine lg true rfl rfl rfl ?_
                    refine lp rfl (p_pkf rfl rfl) ?_
                    refine lp rfl (p_pkt rfl rfl) ?_
                    refine lp rfl (p_mv rfl) ?_
                    refine lcase (i := 66) (x2.Ending != 0) rfl (fun hb => ?_) (fun hb => ?_)
                    · have hm := ifB_t hb hm
                      refine ls false rfl rfl rfl rfl ?_
                      refine ls false rfl rfl rfl rfl ?_
                      refine lsu rfl rfl rfl rfl ?_
                      refine lsu rfl rfl rfl rfl ?_
                      refine lsu rfl rfl rfl rfl ?_
                      refine lsu rfl rfl rfl rfl ?_
                      refine ls false rfl rfl rfl rfl ?_
                      refine lp rfl (p_pkt rfl rfl) ?_
                      refine lj_nil ?_
                      exact cnk23 _ _ true () (Option.some.inj hm).symm ⟨rfl, rfl, rfl, rfl, rfl, rfl, rfl, rfl, rfl, rfl, rfl, trivial⟩ (fun _ h => h.picks [0, 0] rfl)
                    · have hm := ifB_f hb hm
                      refine lg false rfl rfl rfl ?_
                      refine lp rfl (p_mv rfl) ?_
                      refine lg false rfl rfl rfl ?_
                      refine lp rfl (p_mv rfl) ?_
                      refine lcase (i := 68) u18.1 rfl (fun hb => ?_) (fun hb => ?_)
                      · have hm := ifB_t hb hm
                        refine lg true rfl rfl rfl ?_
                        refine lp rfl (p_fab fl75_3 rfl) ?_
                        refine lg true rfl rfl rfl ?_
                        refine lp rfl (p_lbs ty3 rfl (j := 0) rfl rfl) ?_
                        refine lg true rfl rfl rfl ?_
                        refine lp rfl (p_mv rfl) ?_
                        refine lg true rfl rfl rfl ?_
                        refine lp rfl (p_lss rfl rfl) ?_
                        refine lg false rfl rfl rfl ?_
                        refine lp rfl (p_pkt rfl rfl) ?_
                        refine lp rfl (p_pkf rfl rfl) ?_
                        refine lj_nil ?_
                        exact cnk23 _ _ (decide (x2.Ending < u18.2.1)) () (Option.some.inj hm).symm ⟨rfl, rfl, rfl, rfl, rfl, rfl, rfl, rfl, rfl, rfl, rfl, trivial⟩ (fun _ h => h.picks [0, 0] rfl)
                      · have hm := ifB_f hb hm
                        refine ls true rfl rfl rfl rfl ?_
                        refine ls true rfl rfl rfl rfl ?_
                        refine ls true rfl rfl rfl rfl ?_
                        refine ls true rfl rfl rfl rfl ?_
                        refine lg false rfl rfl rfl ?_
                        refine lp rfl (p_pkf rfl rfl) ?_
                        refine lp rfl (p_pkf rfl rfl) ?_
                        refine lj_nil ?_
                        exact cnk23 _ _ false () (Option.some.inj hm).symm ⟨rfl, rfl, rfl, rfl, rfl, rfl, rfl, rfl, rfl, rfl, rfl, trivial⟩ (fun _ h => h.picks [0, 0] rfl)
                · have hm := ifB_f hb hm
                  refine ls true rfl rfl rfl rfl ?_
                  refine ls true rfl rfl rfl rfl ?_
                  refine ls true rfl rfl rfl rfl ?_
                  refine ls true rfl rfl rfl rfl ?_
                  refine lsu rfl rfl rfl rfl ?_
                  refine lsu rfl rfl rfl rfl ?_
                  refine lsu rfl rfl rfl rfl ?_
                  refine ls true rfl rfl rfl rfl ?_
                  refine lp rfl (p_pkf rfl rfl) ?_
                  refine lp rfl (p_mv rfl) ?_
                  refine lg false rfl rfl rfl ?_
                  refine lp rfl (p_mv rfl) ?_
                  refine lg false rfl rfl rfl ?_
                  refine lp rfl (p_mv rfl) ?_
                  refine lcase (i := 68) u18.1 rfl (fun hb => ?_) (fun hb => ?_)
                  · have hm := ifB_t hb hm
                    refine lg true rfl rfl rfl ?_
                    refine lp rfl (p_fab fl75_3 rfl) ?_
                    refine lg true rfl rfl rfl ?_
                    refine lp rfl (p_lbs ty3 rfl (j := 0) rfl rfl) ?_
                    refine lg true rfl rfl rfl ?_
                    refine lp rfl (p_mv rfl) ?_
                    refine lg true rfl rfl rfl ?_
                    refine lp rfl (p_lss rfl rfl) ?_
                    refine lg false rfl rfl rfl ?_
                    refine lp rfl (p_pkt rfl rfl) ?_
                    refine lp rfl (p_pkf rfl rfl) ?_
                    refine lj_nil ?_
                    exact cnk23 _ _ (decide (x2.Ending < u18.2.1)) () (Option.some.inj hm).symm ⟨rfl, rfl, rfl, rfl, rfl, rfl, rfl, rfl, rfl, rfl, rfl, trivial⟩ (fun _ h => h.picks [0, 0] rfl)
                  · have hm := ifB_f hb hm
                    refine ls true rfl rfl rfl rfl ?_
                    refine ls true rfl rfl rfl rfl ?_
                    refine ls true rfl rfl rfl rfl ?_
                    refine ls true rfl rfl rfl rfl ?_
                    refine lg false rfl rfl rfl ?_
                    refine lp rfl (p_pkf rfl rfl) ?_
                    refine lp rfl (p_pkf rfl rfl) ?_
                    refine lj_nil ?_
                    exact cnk23 _ _ false () (Option.some.inj hm).symm ⟨rfl, rfl, rfl, rfl, rfl, rfl, rfl, rfl, rfl, rfl, rfl, trivial⟩ (fun _ h => h.picks [0, 0] rfl)
            · have hm := hk20
              refine cj_if (b := x2.Open) rfl (fun hb => ?_) (fun hb => ?_)
              · have hm := ifB_t hb hm
                refine cj_seq ?_
                refine cj_seq ?_
                refine cj_reg ?_
                refine lp rfl (p_mv rfl) ?_
                refine lj_seq ?_
                refine cj_if (b := u4.1) rfl (fun hb => ?_) (fun hb => ?_)
                · have hm := ifB_t hb hm
                  refine cj_seq ?_
                  refine cj_reg ?_
                  refine lp rfl (p_as rfl) ?_
                  refine lj_seq ?_
                  have hm := hRk20 _ (Option.some.inj hm).symm
                  have hm := hRk6 _ (Option.some.inj hm).symm
                  obtain rfl := Option.some.inj hm
                  exact cj_rt () [] Tryd.results44 (.tmp rfl .nil) rfl rfl
                · have hm := ifB_f hb hm
                  refine cj_skip ?_
                  refine nj_seq ?_
                  refine cj_reg ?_
                  refine lp rfl (p_as rfl) ?_
                  refine lp rfl (p_as rfl) ?_
                  refine lp rfl (p_as rfl) ?_
                  refine lj_nil ?_
                  exact cnk20 _ _ (true, 0, 0) () (Option.some.inj hm).symm ⟨rfl, rfl, rfl, rfl, rfl, rfl, rfl, rfl, rfl, rfl, trivial⟩ (fun _ h => h.picks [0, 0] rfl)
              · have hm := ifB_f hb hm
                refine cj_skip ?_
                exact cnk20 _ _ (u4.1, u4.2.1, u4.2.2.1) () (Option.some.inj hm).symm ⟨rfl, rfl, rfl, rfl, rfl, rfl, rfl, rfl, rfl, rfl, trivial⟩ (fun _ h => h.picks [0, 0] rfl)
        · have hm := hk11
          refine lp rfl (p_fab fl75_0 rfl) ?_
          refine lp rfl (p_lbs ty3 rfl (j := 0) rfl rfl) ?_
          obtain ⟨y12, hy12, hm⟩ := bindS hm
          refine r_call [] cf71 rfl rfl (ok_gleeref2_in x2.Beats 1 16 hy12) rfl rfl .nil (fun _ => rfl) rfl (fun _ => ?_)
          refine lp rfl (p_not rfl) ?_
          refine lp rfl (p_mv rfl) ?_
          refine lcase (i := 27) (!y12) rfl (fun hb => ?_) (fun hb => ?_)
          · have hm := ifB_t hb hm
            refine ls false rfl rfl rfl rfl ?_
            refine ls false rfl rfl rfl rfl ?_
            refine ls false rfl rfl rfl rfl ?_
            refine ls false rfl rfl rfl rfl ?_
            refine ls false rfl rfl rfl rfl ?_
            refine lp rfl (p_pkt rfl rfl) ?_
            refine lp rfl (p_mv rfl) ?_
            refine ls false rfl rfl rfl rfl ?_
            refine ls false rfl rfl rfl rfl ?_
            refine ls false rfl rfl rfl rfl ?_
            refine ls false rfl rfl rfl rfl ?_
            refine lsu rfl rfl rfl rfl ?_
            refine lsu rfl rfl rfl rfl ?_
            refine lsu rfl rfl rfl rfl ?_
            refine lsu rfl rfl rfl rfl ?_
            refine ls false rfl rfl rfl rfl ?_
            refine lp rfl (p_pkt rfl rfl) ?_
            refine lp rfl (p_mv rfl) ?_
            refine ls false rfl rfl rfl rfl ?_
            refine ls false rfl rfl rfl rfl ?_
            refine ls false rfl rfl rfl rfl ?_
            refine ls false rfl rfl rfl rfl ?_
            refine lp rfl (p_pkt rfl rfl) ?_
            refine lj_nil ?_
            exact cnk11 _ _ true () (Option.some.inj hm).symm ⟨rfl, rfl, rfl, rfl, rfl, rfl, rfl, rfl, rfl, rfl, rfl, trivial⟩ (fun _ h => h.picks [0, 0] rfl)
          · have hm := ifB_f hb hm
            refine lg false rfl rfl rfl ?_
            refine r_bs R3 [1, 2, 4, 8, 16] rfl rfl rfl (fun _ => by kernel_rfl) rfl (fun s13 => ?_)
            refine lg false rfl rfl rfl ?_
            refine lp rfl (p_fab fl75_1 rfl) ?_
            refine lg false rfl rfl rfl ?_
            refine lp rfl (p_lbs ty3 rfl (j := 1) rfl rfl) ?_
            refine lg false rfl rfl rfl ?_
            obtain ⟨y14, hy14, hm⟩ := bindS hm
            refine r_call [] cf80 rfl rfl (ok_slices_Contains_int_int s13 [1, 2, 4, 8, 16] x2.Unit hy14) rfl rfl (.cons (.row 0 rfl) .nil) (fun _ => rfl) rfl (fun _ => ?_)
            refine lg false rfl rfl rfl ?_
            refine lp rfl (p_not rfl) ?_
            refine lp rfl (p_pkf rfl rfl) ?_
            refine lp rfl (p_mv rfl) ?_
            refine lcase (i := 34) (!y14) rfl (fun hb => ?_) (fun hb => ?_)
            · have hm := ifB_t hb hm
              refine ls false rfl rfl rfl rfl ?_
              refine ls false rfl rfl rfl rfl ?_
              refine ls false rfl rfl rfl rfl ?_
              refine ls false rfl rfl rfl rfl ?_
              refine lsu rfl rfl rfl rfl ?_
              refine lsu rfl rfl rfl rfl ?_
              refine lsu rfl rfl rfl rfl ?_
              refine lsu rfl rfl rfl rfl ?_
              refine ls false rfl rfl rfl rfl ?_
              refine lp rfl (p_pkt rfl rfl) ?_
              refine lp rfl (p_mv rfl) ?_
              refine ls false rfl rfl rfl rfl ?_
              refine ls false rfl rfl rfl rfl ?_
              refine ls false rfl rfl rfl rfl ?_
              refine ls false rfl rfl rfl rfl ?_
              refine lp rfl (p_pkt rfl rfl) ?_
              refine lj_nil ?_
              exact cnk11 _ _ true () (Option.some.inj hm).symm ⟨rfl, rfl, rfl, rfl, rfl, rfl, rfl, rfl, rfl, rfl, rfl, trivial⟩ (fun _ h => h.picks [1, 1] rfl)
            · have hm := ifB_f hb hm
              refine lg false rfl rfl rfl ?_
              refine lp rfl (p_fab fl75_2 rfl) ?_
              refine lg false rfl rfl rfl ?_
              refine lp rfl (p_lbs ty3 rfl (j := 1) rfl rfl) ?_
              refine lg false rfl rfl rfl ?_
              refine lp rfl (p_neq rfl rfl) ?_
              refine lg false rfl rfl rfl ?_
              refine lp rfl (p_mv rfl) ?_
              refine lcase (i := 38) (x2.Close != 0) rfl (fun hb => ?_) (fun hb => ?_)
              · have hm := ifB_t hb hm
                refine lg true rfl rfl rfl ?_
                refine lp rfl (p_fab fl75_2 rfl) ?_
                refine lg true rfl rfl rfl ?_
                refine lp rfl (p_lbs ty3 rfl (j := 1) rfl rfl) ?_
                refine lg true rfl rfl rfl ?_
                obtain ⟨y15, hy15, hm⟩ := bindS hm
                refine r_call [] cf71 rfl rfl (ok_gleeref2_in x2.Close 2 9 hy15) rfl rfl .nil (fun _ => rfl) rfl (fun _ => ?_)
                refine lg true rfl rfl rfl ?_
                refine lp rfl (p_not rfl) ?_
                refine lg false rfl rfl rfl ?_
                refine lp rfl (p_pkt rfl rfl) ?_
                refine lp rfl (p_pkf rfl rfl) ?_
                refine lp rfl (p_mv rfl) ?_
                refine lcase (i := 45) (!y15) rfl (fun hb => ?_) (fun hb => ?_)
                · have hm := ifB_t hb hm
                  refine ls false rfl rfl rfl rfl ?_
                  refine ls false rfl rfl rfl rfl ?_
                  refine ls false rfl rfl rfl rfl ?_
                  refine ls false rfl rfl rfl rfl ?_
                  refine lp rfl (p_pkt rfl rfl) ?_
                  refine lj_nil ?_
                  exact cnk11 _ _ true () (Option.some.inj hm).symm ⟨rfl, rfl, rfl, rfl, rfl, rfl, rfl, rfl, rfl, rfl, rfl, trivial⟩ (fun _ h => h.picks [1, 1] rfl)
                · have hm := ifB_f hb hm
                  refine lg false rfl rfl rfl ?_
                  refine lp rfl (p_fab fl75_3 rfl) ?_
                  refine lg false rfl rfl rfl ?_
                  refine lp rfl (p_lbs ty3 rfl (j := 1) rfl rfl) ?_
                  refine lg false rfl rfl rfl ?_
                  obtain ⟨y16, hy16, hm⟩ := bindS hm
                  refine r_call [] cf71 rfl rfl (ok_gleeref2_in x2.Ending 0 9 hy16) rfl rfl .nil (fun _ => rfl) rfl (fun _ => ?_)
                  refine lg false rfl rfl rfl ?_
                  refine lp rfl (p_not rfl) ?_
                  refine lp rfl (p_pkf rfl rfl) ?_
                  refine lj_nil ?_
                  exact cnk11 _ _ (!y16) () (Option.some.inj hm).symm ⟨rfl, rfl, rfl, rfl, rfl, rfl, rfl, rfl, rfl, rfl, rfl, trivial⟩ (fun _ h => h.picks [1, 1] rfl)
              · have hm := ifB_f hb hm
                refine ls true rfl rfl rfl rfl ?_
                refine ls true rfl rfl rfl rfl ?_
                refine ls true rfl rfl rfl rfl ?_
                refine ls true rfl rfl rfl rfl ?_
                refine lg false rfl rfl rfl ?_
                refine lp rfl (p_pkf rfl rfl) ?_
                refine lp rfl (p_pkf rfl rfl) ?_
                refine lp rfl (p_mv rfl) ?_
                refine lg false rfl rfl rfl ?_
                refine lp rfl (p_fab fl75_3 rfl) ?_
                refine lg false rfl rfl rfl ?_
                refine lp rfl (p_lbs ty3 rfl (j := 1) rfl rfl) ?_
                refine lg false rfl rfl rfl ?_
                obtain ⟨y17, hy17, hm⟩ := bindS hm
                refine r_call [] cf71 rfl rfl (ok_gleeref2_in x2.Ending 0 9 hy17) rfl rfl .nil (fun _ => rfl) rfl (fun _ => ?_)
                refine lg false rfl rfl rfl ?_
                refine lp rfl (p_not rfl) ?_
                refine lp rfl (p_pkf rfl rfl) ?_
                refine lj_nil ?_
                exact cnk11 _ _ (!y17) () (Option.some.inj hm).symm ⟨rfl, rfl, rfl, rfl, rfl, rfl, rfl, rfl, rfl, rfl, rfl, trivial⟩ (fun _ h => h.picks [1, 1] rfl)
theorem ok_gleeref2_textFault (a0 : ByteArray) {r : Bool} (hm : m_gleeref2_textFault a0 = some r) :
    Ctr Tryd.prog 94 [.string a0].toArray ([] : List Ent) [UtfT] (X := Unit) (fun _ => .bool r) (fun _ => []) := by
  unfold m_gleeref2_textFault at hm
  refine ctr_mk (vs := [(0, .string a0)]) Tryd.func94 rfl Tryd.ntmps94 rfl ⟨rfl, trivial⟩ (fun w0 A => ?_)
  refine cj_seq ?_
  refine cj_reg ?_
  refine lp rfl (p_as rfl) ?_
  refine lj_seq ?_
  refine cj_seq ?_
  refine cj_seq ?_
  refine cj_reg ?_
  obtain ⟨k3, hk3, hm⟩ := bindS hm
  have hRk3 : ∀ t, k3 = .inr t → some t = some r := fun t e => by rw [e] at hm; exact hm
  refine lj_join (σ := Bool) (γ := Unit) (fun u1 => k3 = .inl u1) (fun u1 g2 => [(0, .string a0), (2, .bool false), (11, .bool u1)]) (fun u1 g2 => Sat w0 (keys ([] : List Ent)) A [.ro UtfT]) (fun u1 g2 hq => ?_) (fun J cnk3 => ?_)
  · have hm := Sum.fin_l hq hm
    refine cj_if (b := u1) rfl (fun hb => ?_) (fun hb => ?_)
    · have hm := ifB_t hb hm
      refine cj_seq ?_
      refine cj_reg ?_
      refine lp rfl (p_as rfl) ?_
      refine lj_seq ?_
      obtain rfl := Option.some.inj hm
      exact cj_rt () [] Tryd.results94 (.tmp rfl .nil) rfl rfl
    · have hm := ifB_f hb hm
      refine cj_skip ?_
      refine nj_seq ?_
      refine cj_seq ?_
      refine cj_seq ?_
      refine cj_reg ?_
      refine lp rfl (p_mv rfl) ?_
      refine lp rfl (p_lens Tryd.underlying9 rfl) ?_
      refine lp rfl (p_mv rfl) ?_
      refine lj_seq ?_
      obtain ⟨L18, hL18, hm⟩ := bindS hm
      obtain ⟨f11, hf11, hm⟩ := bindS hm
      refine cj_range (γ := Unit) (m := (a0.size : Int)) hf11 () (fun u8 g9 => [(0, .string a0), (2, .bool false)]) (fun u8 g9 => Sat w0 (keys ([] : List Ent)) A [.ro UtfT]) ⟨rfl, rfl, rfl, rfl, trivial⟩ (fun _ h => h.picks [0] rfl) (rangeI_spec hL18).1 (fun _ _ => (rangeI_spec hL18).2) (fun _ _ => ⟨rfl, rfl, rfl, rfl⟩) ⟨rfl, rfl, rfl, rfl, rfl⟩ rfl rfl rfl (fun u8 g9 e => ?_) (fun aftk10 i5 x6 u8 g9 k10 hx7 hs J hJk10 hBk10 hX I cnk10 => ?_)
      · have hm := Flow.fin_b e hm
        refine nj_seq ?_
        refine cj_seq ?_
        refine cj_reg ?_
        refine lp rfl (p_as rfl) ?_
        refine lj_seq ?_
        obtain rfl := Option.some.inj hm
        exact cj_rt () [] Tryd.results94 (.tmp rfl .nil) rfl rfl
      · have hRk10 : ∀ t, k10 = .ret t → some t = some r := fun t e => by rw [hX t e] at hm; exact hm
        have hm := hs
        refine cj_seq ?_
        refine cj_reg ?_
        refine lp rfl (p_mv rfl) ?_
        refine lp rfl (p_as rfl) ?_
        refine lj_seq ?_
        refine cj_seq ?_
        refine cj_reg ?_
        obtain ⟨k14, hk14, hm⟩ := bindS hm
        have hRk14 : ∀ t, k14 = .inr t → some t = some k10 := fun t e => by rw [e] at hm; exact hm
        refine lj_join (σ := Bool) (γ := Unit) (fun u12 => k14 = .inl u12) (fun u12 g13 => [(0, .string a0), (2, .bool false), (13, .int .i64 (a0.size : Int)), (14, .int .i64 (i5 : Int)), (32, .bool u12)]) (fun u12 g13 => Sat w0 (keys ([] : List Ent)) A [.ro UtfT]) (fun u12 g13 hq => ?_) (fun J cnk14 => ?_)
        · have hm := Sum.fin_l hq hm
          refine cj_if (b := u12) rfl (fun hb => ?_) (fun hb => ?_)
          · have hm := ifB_t hb hm
            refine cj_seq ?_
            refine cj_reg ?_
            refine lp rfl (p_as rfl) ?_
            refine lj_seq ?_
            have hm := hRk10 _ (Option.some.inj hm).symm
            obtain rfl := Option.some.inj hm
            exact cj_rt () [] Tryd.results94 (.tmp rfl .nil) rfl rfl
          · have hm := ifB_f hb hm
            refine cj_skip ?_
            refine nj_blk ?_
            exact cnk10 _ _ () () (hJk10 _ (Option.some.inj hm).symm) ⟨rfl, rfl, rfl, rfl, trivial⟩ (fun _ h => h.picks [0] rfl)
        · have hm := hk14
          refine lp rfl (p_mv rfl) ?_
          refine lp rfl (p_mv rfl) ?_
          obtain ⟨c15, hc15, hm⟩ := bindS hm
          refine lp rfl (p_stri Tryd.underlying9 rfl rfl hc15) ?_
          refine lp rfl (p_lss rfl rfl) ?_
          refine lp rfl (p_mv rfl) ?_
          refine lcase (i := 21) (decide (c15 < 33)) rfl (fun hb => ?_) (fun hb => ?_)
          · have hm := ifB_t hb hm
            refine ls false rfl rfl rfl rfl ?_
            refine ls false rfl rfl rfl rfl ?_
            refine ls false rfl rfl rfl rfl ?_
            refine ls false rfl rfl rfl rfl ?_
            refine lp rfl (p_pkt rfl rfl) ?_
            refine lp rfl (p_mv rfl) ?_
            refine ls false rfl rfl rfl rfl ?_
            refine ls false rfl rfl rfl rfl ?_
            refine ls false rfl rfl rfl rfl ?_
            refine ls false rfl rfl rfl rfl ?_
            refine lp rfl (p_pkt rfl rfl) ?_
            refine lj_nil ?_
            exact cnk14 _ _ true () (Option.some.inj hm).symm ⟨rfl, rfl, rfl, rfl, rfl, trivial⟩ (fun _ h => h.picks [0] rfl)
          · have hm := ifB_f hb hm
            refine lg false rfl rfl rfl ?_
            refine lp rfl (p_mv rfl) ?_
            refine lg false rfl rfl rfl ?_
            refine lp rfl (p_mv rfl) ?_
            refine lg false rfl rfl rfl ?_
            obtain ⟨c16, hc16, hm⟩ := bindS hm
            refine lp rfl (p_stri Tryd.underlying9 rfl rfl hc16) ?_
            refine lg false rfl rfl rfl ?_
            refine lp rfl (p_eql rfl rfl) ?_
            refine lp rfl (p_pkf rfl rfl) ?_
            refine lp rfl (p_mv rfl) ?_
            refine lcase (i := 27) (c16 == 127) rfl (fun hb => ?_) (fun hb => ?_)
            · have hm := ifB_t hb hm
              refine ls false rfl rfl rfl rfl ?_
              refine ls false rfl rfl rfl rfl ?_
              refine ls false rfl rfl rfl rfl ?_
              refine ls false rfl rfl rfl rfl ?_
              refine lp rfl (p_pkt rfl rfl) ?_
              refine lj_nil ?_
              exact cnk14 _ _ true () (Option.some.inj hm).symm ⟨rfl, rfl, rfl, rfl, rfl, trivial⟩ (fun _ h => h.picks [0] rfl)
            · have hm := ifB_f hb hm
              refine lg false rfl rfl rfl ?_
              refine lp rfl (p_mv rfl) ?_
              refine lg false rfl rfl rfl ?_
              refine lp rfl (p_mv rfl) ?_
              refine lg false rfl rfl rfl ?_
              obtain ⟨c17, hc17, hm⟩ := bindS hm
              refine lp rfl (p_stri Tryd.underlying9 rfl rfl hc17) ?_
              refine lg false rfl rfl rfl ?_
              refine lp rfl (p_eql rfl rfl) ?_
              refine lp rfl (p_pkf rfl rfl) ?_
              refine lj_nil ?_
              exact cnk14 _ _ (c17 == 124) () (Option.some.inj hm).symm ⟨rfl, rfl, rfl, rfl, rfl, trivial⟩ (fun _ h => h.picks [0] rfl)
  · have hm := hk3
    refine lp rfl (p_mv rfl) ?_
    obtain ⟨y4, hy4, hm⟩ := bindS hm
    refine r_call [] cf99 rfl rfl (ok_utf8_ValidString a0 hy4) rfl rfl (.cons (.ro 0 rfl) .nil) (fun _ => rfl) rfl (fun _ => ?_)
    refine lp rfl (p_not rfl) ?_
    refine lp rfl (p_mv rfl) ?_
    refine lcase (i := 7) (!y4) rfl (fun hb => ?_) (fun hb => ?_)
    · have hm := ifB_t hb hm
      refine ls false rfl rfl rfl rfl ?_
      refine ls false rfl rfl rfl rfl ?_
      refine ls false rfl rfl rfl rfl ?_
      refine lp rfl (p_pkt rfl rfl) ?_
      refine lj_nil ?_
      exact cnk3 _ _ true () (Option.some.inj hm).symm ⟨rfl, rfl, rfl, trivial⟩ (fun _ h => h.picks [0] rfl)
    · have hm := ifB_f hb hm
      refine lg false rfl rfl rfl ?_
      refine lp rfl (p_mv rfl) ?_
      refine lg false rfl rfl rfl ?_
      refine lp rfl (p_lens Tryd.underlying9 rfl) ?_
      refine lg false rfl rfl rfl ?_
      refine lp rfl (p_gtr rfl rfl) ?_
      refine lp rfl (p_pkf rfl rfl) ?_
      refine lj_nil ?_
      exact cnk3 _ _ (decide ((a0.size : Int) > 20)) () (Option.some.inj hm).symm ⟨rfl, rfl, rfl, trivial⟩ (fun _ h => h.picks [0] rfl)
theorem ok_gleeref2_toneFault (a0 : TTone) {r : Int} (hm : m_gleeref2_toneFault a0 = some r) :
    Ctr Tryd.prog 81 [.agg (R50.enc a0).toArray].toArray ([] : List Ent) [UtfT] (X := Unit) (fun _ => .int .i64 r) (fun _ => []) := by
  unfold m_gleeref2_toneFault at hm
  refine ctr_mk (vs := [(0, .agg (R50.enc a0).toArray)]) Tryd.func81 rfl Tryd.ntmps81 rfl ⟨rfl, trivial⟩ (fun w0 A => ?_)
  refine cj_seq ?_
  refine cj_reg ?_
  refine r_bx (cs := [.int .i64 a0.Note, .int .i64 a0.Long.Num, .int .i64 a0.Long.Den, .string a0.Text, .bool a0.Tied]) rfl rfl rfl (fun b1 => ?_)
  refine lp rfl (p_as rfl) ?_
  refine lj_seq ?_
  refine cj_seq ?_
  refine cj_blk ?_
  refine cj_seq ?_
  refine cj_reg ?_
  obtain ⟨k4, hk4, hm⟩ := bindS hm
  have hRk4 : ∀ t, k4 = .inr t → some t = some r := fun t e => by rw [e] at hm; exact hm
  refine lj_join (σ := Bool) (γ := Unit) (fun u2 => k4 = .inl u2) (fun u2 g3 => [(1, .pointer (some ⟨b1, 0, none⟩)), (2, .int .i64 0), (3, .bool u2)]) (fun u2 g3 => Sat w0 (keys ([] : List Ent)) A [.box b1 50 [.int .i64 a0.Note, .int .i64 a0.Long.Num, .int .i64 a0.Long.Den, .string a0.Text, .bool a0.Tied], .ro UtfT]) (fun u2 g3 hq => ?_) (fun J cnk4 => ?_)
  · have hm := Sum.fin_l hq hm
    refine cj_if (b := u2) rfl (fun hb => ?_) (fun hb => ?_)
    · have hm := ifB_t hb hm
      refine cj_seq ?_
      refine cj_reg ?_
      refine lp rfl (p_as rfl) ?_
      refine lj_seq ?_
      obtain rfl := Option.some.inj hm
      exact cj_rt () [] Tryd.results81 (.tmp rfl .nil) rfl rfl
    · have hm := ifB_f hb hm
      refine cj_seq ?_
      refine cj_reg ?_
      obtain ⟨k8, hk8, hm⟩ := bindS hm
      have hRk8 : ∀ t, k8 = .inr t → some t = some r := fun t e => by rw [e] at hm; exact hm
      refine lj_join (σ := Bool) (γ := Unit) (fun u6 => k8 = .inl u6) (fun u6 g7 => [(1, .pointer (some ⟨b1, 0, none⟩)), (2, .int .i64 0), (13, .bool u6)]) (fun u6 g7 => Sat w0 (keys ([] : List Ent)) A [.box b1 50 [.int .i64 a0.Note, .int .i64 a0.Long.Num, .int .i64 a0.Long.Den, .string a0.Text, .bool a0.Tied], .ro UtfT]) (fun u6 g7 hq => ?_) (fun J cnk8 => ?_)
      · have hm := Sum.fin_l hq hm
        refine cj_if (b := u6) rfl (fun hb => ?_) (fun hb => ?_)
        · have hm := ifB_t hb hm
          refine cj_seq ?_
          refine cj_reg ?_
          refine lp rfl (p_as rfl) ?_
          refine lj_seq ?_
          obtain rfl := Option.some.inj hm
          exact cj_rt () [] Tryd.results81 (.tmp rfl .nil) rfl rfl
        · have hm := ifB_f hb hm
          refine cj_seq ?_
          refine cj_reg ?_
          obtain ⟨k12, hk12, hm⟩ := bindS hm
          have hRk12 : ∀ t, k12 = .inr t → some t = some r := fun t e => by rw [e] at hm; exact hm
          refine lj_join (σ := Bool) (γ := Unit) (fun u10 => k12 = .inl u10) (fun u10 g11 => [(1, .pointer (some ⟨b1, 0, none⟩)), (2, .int .i64 0), (34, .bool u10)]) (fun u10 g11 => Sat w0 (keys ([] : List Ent)) A [.box b1 50 [.int .i64 a0.Note, .int .i64 a0.Long.Num, .int .i64 a0.Long.Den, .string a0.Text, .bool a0.Tied], .ro UtfT]) (fun u10 g11 hq => ?_) (fun J cnk12 => ?_)
          · have hm := Sum.fin_l hq hm
            refine cj_if (b := u10) rfl (fun hb => ?_) (fun hb => ?_)
            · have hm := ifB_t hb hm
              refine cj_seq ?_
              refine cj_reg ?_
              refine lp rfl (p_as rfl) ?_
              refine lj_seq ?_
              obtain rfl := Option.some.inj hm
              exact cj_rt () [] Tryd.results81 (.tmp rfl .nil) rfl rfl
            · have hm := ifB_f hb hm
              refine cj_seq ?_
              refine cj_reg ?_
              refine lp rfl (p_fab fl50_2 rfl) ?_
              refine lp rfl (p_lbs ty9 rfl (j := 0) rfl rfl) ?_
              obtain ⟨y14, hy14, hm⟩ := bindS hm
              refine r_call [] cf94 rfl rfl (ok_gleeref2_textFault a0.Text hy14) rfl rfl (.cons (.ro 1 rfl) .nil) (fun _ => rfl) rfl (fun _ => ?_)
              refine lp rfl (p_as rfl) ?_
              refine lj_seq ?_
              refine cj_if (b := y14) rfl (fun hb => ?_) (fun hb => ?_)
              · have hm := ifB_t hb hm
                refine cj_seq ?_
                refine cj_reg ?_
                refine lp rfl (p_as rfl) ?_
                refine lj_seq ?_
                obtain rfl := Option.some.inj hm
                exact cj_rt () [] Tryd.results81 (.tmp rfl .nil) rfl rfl
              · have hm := ifB_f hb hm
                refine cj_seq ?_
                refine cj_reg ?_
                obtain ⟨k17, hk17, hm⟩ := bindS hm
                have hRk17 : ∀ t, k17 = .inr t → some t = some r := fun t e => by rw [e] at hm; exact hm
                refine lj_join (σ := Bool) (γ := Unit) (fun u15 => k17 = .inl u15) (fun u15 g16 => [(2, .int .i64 0), (54, .bool u15)]) (fun u15 g16 => Sat w0 (keys ([] : List Ent)) A [.ro UtfT]) (fun u15 g16 hq => ?_) (fun J cnk17 => ?_)
                · have hm := Sum.fin_l hq hm
                  refine cj_if (b := u15) rfl (fun hb => ?_) (fun hb => ?_)
                  · have hm := ifB_t hb hm
                    refine cj_seq ?_
                    refine cj_reg ?_
                    refine lp rfl (p_as rfl) ?_
                    refine lj_seq ?_
                    obtain rfl := Option.some.inj hm
                    exact cj_rt () [] Tryd.results81 (.tmp rfl .nil) rfl rfl
                  · have hm := ifB_f hb hm
                    refine cj_skip ?_
                    refine nj_blk ?_
                    refine nj_seq ?_
                    refine cj_seq ?_
                    refine cj_reg ?_
                    refine lp rfl (p_as rfl) ?_
                    refine lj_seq ?_
                    obtain rfl := Option.some.inj hm
                    exact cj_rt () [] Tryd.results81 (.tmp rfl .nil) rfl rfl
                · have hm := hk17
                  refine lp rfl (p_fab fl50_0 rfl) ?_
                  refine lp rfl (p_lbs ty3 rfl (j := 0) rfl rfl) ?_
                  refine lp rfl (p_eql rfl rfl) ?_
                  refine lp rfl (p_mv rfl) ?_
                  refine lcase (i := 58) (a0.Note == (-1)) rfl (fun hb => ?_) (fun hb => ?_)
                  · have hm := ifB_t hb hm
                    refine lg true rfl rfl rfl ?_
                    refine lp rfl (p_fab fl50_3 rfl) ?_
                    refine lg true rfl rfl rfl ?_
                    refine lp rfl (p_lbs ty4 rfl (j := 0) rfl rfl) ?_
                    refine lg true rfl rfl rfl ?_
                    refine lp rfl (p_mv rfl) ?_
                    refine lcase (i := 61) a0.Tied rfl (fun hb => ?_) (fun hb => ?_)
                    · have hm := ifB_t hb hm
                      refine ls false rfl rfl rfl rfl ?_
                      refine ls false rfl rfl rfl rfl ?_
                      refine ls false rfl rfl rfl rfl ?_
                      refine lg true rfl rfl rfl ?_
                      refine lp rfl (p_pkt rfl rfl) ?_
                      refine lp rfl (p_pkt rfl rfl) ?_
                      refine lp rfl (p_as rfl) ?_
                      refine lj_nil ?_
                      exact cnk17 _ _ true () (Option.some.inj hm).symm ⟨rfl, rfl, trivial⟩ (fun _ h => h.picks [1] rfl)
                    · have hm := ifB_f hb hm
                      refine lg false rfl rfl rfl ?_
                      refine lp rfl (p_fab fl50_2 rfl) ?_
                      refine lg false rfl rfl rfl ?_
                      refine lp rfl (p_lbs ty9 rfl (j := 0) rfl rfl) ?_
                      refine lg false rfl rfl rfl ?_
                      refine lp rfl (p_nes rfl rfl) ?_
                      refine lg true rfl rfl rfl ?_
                      refine lp rfl (p_pkf rfl rfl) ?_
                      refine lp rfl (p_pkt rfl rfl) ?_
                      refine lp rfl (p_as rfl) ?_
                      refine lj_nil ?_
                      exact cnk17 _ _ (!(a0.Text.toList == ByteArray.empty.toList)) () (Option.some.inj hm).symm ⟨rfl, rfl, trivial⟩ (fun _ h => h.picks [1] rfl)
                  · have hm := ifB_f hb hm
                    refine ls true rfl rfl rfl rfl ?_
                    refine ls true rfl rfl rfl rfl ?_
                    refine ls true rfl rfl rfl rfl ?_
                    refine lsu rfl rfl rfl rfl ?_
                    refine lsu rfl rfl rfl rfl ?_
                    refine lsu rfl rfl rfl rfl ?_
                    refine ls true rfl rfl rfl rfl ?_
                    refine lp rfl (p_pkf rfl rfl) ?_
                    refine lp rfl (p_as rfl) ?_
                    refine lj_nil ?_
                    exact cnk17 _ _ false () (Option.some.inj hm).symm ⟨rfl, rfl, trivial⟩ (fun _ h => h.picks [1] rfl)
          · have hm := hk12
            refine lp rfl (p_fab fl50_1 rfl) ?_
            refine lp rfl (p_fab fl48_1 rfl) ?_
            refine lp rfl (p_lbs ty3 rfl (j := 0) rfl rfl) ?_
            obtain ⟨z13, hz13, hm⟩ := bindS hm
            refine lp rfl (p_remM hz13 rfl rfl) ?_
            refine lp rfl (p_neq rfl rfl) ?_
            refine lp rfl (p_mv rfl) ?_
            refine lcase (i := 40) (z13 != 0) rfl (fun hb => ?_) (fun hb => ?_)
            · have hm := ifB_t hb hm
              refine ls false rfl rfl rfl rfl ?_
              refine ls false rfl rfl rfl rfl ?_
              refine ls false rfl rfl rfl rfl ?_
              refine ls false rfl rfl rfl rfl ?_
              refine ls false rfl rfl rfl rfl ?_
              refine ls false rfl rfl rfl rfl ?_
              refine ls false rfl rfl rfl rfl ?_
              refine ls false rfl rfl rfl rfl ?_
              refine lp rfl (p_pkt rfl rfl) ?_
              refine lp rfl (p_as rfl) ?_
              refine lj_nil ?_
              exact cnk12 _ _ true () (Option.some.inj hm).symm ⟨rfl, rfl, rfl, trivial⟩ (fun _ h => h.picks [0, 0] rfl)
            · have hm := ifB_f hb hm
              refine lg false rfl rfl rfl ?_
              refine lp rfl (p_fab fl50_1 rfl) ?_
              refine lg false rfl rfl rfl ?_
              refine lp rfl (p_fab fl48_0 rfl) ?_
              refine lg false rfl rfl rfl ?_
              refine lp rfl (p_lbs ty3 rfl (j := 0) rfl rfl) ?_
              refine lg false rfl rfl rfl ?_
              refine lp rfl (p_fab fl50_1 rfl) ?_
              refine lg false rfl rfl rfl ?_
              refine lp rfl (p_fab fl48_1 rfl) ?_
              refine lg false rfl rfl rfl ?_
              refine lp rfl (p_lbs ty3 rfl (j := 0) rfl rfl) ?_
              refine lg false rfl rfl rfl ?_
              refine lp rfl (p_mul rfl rfl) ?_
              refine lg false rfl rfl rfl ?_
              refine lp rfl (p_gtr rfl rfl) ?_
              refine lp rfl (p_pkf rfl rfl) ?_
              refine lp rfl (p_as rfl) ?_
              refine lj_nil ?_
              exact cnk12 _ _ (decide (a0.Long.Num > (w64 (16 * a0.Long.Den)))) () (Option.some.inj hm).symm ⟨rfl, rfl, rfl, trivial⟩ (fun _ h => h.picks [0, 0] rfl)
      · have hm := hk8
        refine lp rfl (p_fab fl50_1 rfl) ?_
        refine lp rfl (p_fab fl48_0 rfl) ?_
        refine lp rfl (p_lbs ty3 rfl (j := 0) rfl rfl) ?_
        refine lp rfl (p_lss rfl rfl) ?_
        refine lp rfl (p_mv rfl) ?_
        refine lcase (i := 18) (decide (a0.Long.Num < 1)) rfl (fun hb => ?_) (fun hb => ?_)
        · have hm := ifB_t hb hm
          refine ls false rfl rfl rfl rfl ?_
          refine ls false rfl rfl rfl rfl ?_
          refine ls false rfl rfl rfl rfl ?_
          refine ls false rfl rfl rfl rfl ?_
          refine lp rfl (p_pkt rfl rfl) ?_
          refine lp rfl (p_mv rfl) ?_
          refine ls false rfl rfl rfl rfl ?_
          refine ls false rfl rfl rfl rfl ?_
          refine ls false rfl rfl rfl rfl ?_
          refine ls false rfl rfl rfl rfl ?_
          refine ls false rfl rfl rfl rfl ?_
          refine ls false rfl rfl rfl rfl ?_
          refine ls false rfl rfl rfl rfl ?_
          refine ls false rfl rfl rfl rfl ?_
          refine lp rfl (p_pkt rfl rfl) ?_
          refine lp rfl (p_as rfl) ?_
          refine lj_nil ?_
          exact cnk8 _ _ true () (Option.some.inj hm).symm ⟨rfl, rfl, rfl, trivial⟩ (fun _ h => h.picks [0, 0] rfl)
        · have hm := ifB_f hb hm
          refine lg false rfl rfl rfl ?_
          refine lp rfl (p_fab fl50_1 rfl) ?_
          refine lg false rfl rfl rfl ?_
          refine lp rfl (p_fab fl48_1 rfl) ?_
          refine lg false rfl rfl rfl ?_
          refine lp rfl (p_lbs ty3 rfl (j := 0) rfl rfl) ?_
          refine lg false rfl rfl rfl ?_
          refine lp rfl (p_lss rfl rfl) ?_
          refine lp rfl (p_pkf rfl rfl) ?_
          refine lp rfl (p_mv rfl) ?_
          refine lcase (i := 24) (decide (a0.Long.Den < 1)) rfl (fun hb => ?_) (fun hb => ?_)
          · have hm := ifB_t hb hm
            refine ls false rfl rfl rfl rfl ?_
            refine ls false rfl rfl rfl rfl ?_
            refine ls false rfl rfl rfl rfl ?_
            refine ls false rfl rfl rfl rfl ?_
            refine ls false rfl rfl rfl rfl ?_
            refine ls false rfl rfl rfl rfl ?_
            refine ls false rfl rfl rfl rfl ?_
            refine ls false rfl rfl rfl rfl ?_
            refine lp rfl (p_pkt rfl rfl) ?_
            refine lp rfl (p_as rfl) ?_
            refine lj_nil ?_
            exact cnk8 _ _ true () (Option.some.inj hm).symm ⟨rfl, rfl, rfl, trivial⟩ (fun _ h => h.picks [0, 0] rfl)
          · have hm := ifB_f hb hm
            refine lg false rfl rfl rfl ?_
            refine lp rfl (p_fab fl50_1 rfl) ?_
            refine lg false rfl rfl rfl ?_
            refine lp rfl (p_fab fl48_0 rfl) ?_
            refine lg false rfl rfl rfl ?_
            refine lp rfl (p_lbs ty3 rfl (j := 0) rfl rfl) ?_
            refine lg false rfl rfl rfl ?_
            refine lp rfl (p_fab fl50_1 rfl) ?_
            refine lg false rfl rfl rfl ?_
            refine lp rfl (p_fab fl48_1 rfl) ?_
            refine lg false rfl rfl rfl ?_
            refine lp rfl (p_lbs ty3 rfl (j := 0) rfl rfl) ?_
            refine lg false rfl rfl rfl ?_
            obtain ⟨y9, hy9, hm⟩ := bindS hm
            refine r_call [] cf72 rfl rfl (ok_gleeref2_divisor a0.Long.Num a0.Long.Den hy9) rfl rfl .nil (fun _ => rfl) rfl (fun _ => ?_)
            refine lg false rfl rfl rfl ?_
            refine lp rfl (p_neq rfl rfl) ?_
            refine lp rfl (p_pkf rfl rfl) ?_
            refine lp rfl (p_as rfl) ?_
            refine lj_nil ?_
            exact cnk8 _ _ (y9 != 1) () (Option.some.inj hm).symm ⟨rfl, rfl, rfl, trivial⟩ (fun _ h => h.picks [0, 0] rfl)
  · have hm := hk4
    refine lp rfl (p_fab fl50_0 rfl) ?_
    refine lp rfl (p_lbs ty3 rfl (j := 0) rfl rfl) ?_
    refine lp rfl (p_neq rfl rfl) ?_
    refine lp rfl (p_mv rfl) ?_
    refine lcase (i := 7) (a0.Note != (-1)) rfl (fun hb => ?_) (fun hb => ?_)
    · have hm := ifB_t hb hm
      refine lg true rfl rfl rfl ?_
      refine lp rfl (p_fab fl50_0 rfl) ?_
      refine lg true rfl rfl rfl ?_
      refine lp rfl (p_lbs ty3 rfl (j := 0) rfl rfl) ?_
      refine lg true rfl rfl rfl ?_
      obtain ⟨y5, hy5, hm⟩ := bindS hm
      refine r_call [] cf71 rfl rfl (ok_gleeref2_in a0.Note 0 127 hy5) rfl rfl .nil (fun _ => rfl) rfl (fun _ => ?_)
      refine lg true rfl rfl rfl ?_
      refine lp rfl (p_not rfl) ?_
      refine lp rfl (p_pkt rfl rfl) ?_
      refine lp rfl (p_as rfl) ?_
      refine lj_nil ?_
      exact cnk4 _ _ (!y5) () (Option.some.inj hm).symm ⟨rfl, rfl, rfl, trivial⟩ (fun _ h => h.picks [0, 0] rfl)
    · have hm := ifB_f hb hm
      refine ls true rfl rfl rfl rfl ?_
      refine ls true rfl rfl rfl rfl ?_
      refine ls true rfl rfl rfl rfl ?_
      refine ls true rfl rfl rfl rfl ?_
      refine lp rfl (p_pkf rfl rfl) ?_
      refine lp rfl (p_as rfl) ?_
      refine lj_nil ?_
      exact cnk4 _ _ false () (Option.some.inj hm).symm ⟨rfl, rfl, rfl, trivial⟩ (fun _ h => h.picks [0, 0] rfl)
theorem ok_gleeref2_barUnits (a0 : TBar) {r : Int} (hm : m_gleeref2_barUnits a0 = some r) :
    Ctr Tryd.prog 52 [.agg (R75.enc a0).toArray].toArray ([] : List Ent) [] (X := Unit) (fun _ => .int .i64 r) (fun _ => []) := by
  unfold m_gleeref2_barUnits at hm
  refine ctr_mk (vs := [(0, .agg (R75.enc a0).toArray)]) Tryd.func52 rfl Tryd.ntmps52 rfl ⟨rfl, trivial⟩ (fun w0 A => ?_)
  refine cj_seq ?_
  refine cj_reg ?_
  refine r_bx (cs := [.int .i64 a0.Beats, .int .i64 a0.Unit, .int .i64 a0.Close, .int .i64 a0.Ending, .bool a0.Open]) rfl rfl rfl (fun b1 => ?_)
  refine lp rfl (p_as rfl) ?_
  refine lj_seq ?_
  refine cj_seq ?_
  refine cj_reg ?_
  refine lp rfl (p_fab fl75_0 rfl) ?_
  refine lp rfl (p_lbs ty3 rfl (j := 0) rfl rfl) ?_
  refine lp rfl (p_mul rfl rfl) ?_
  refine lp rfl (p_fab fl75_1 rfl) ?_
  refine lp rfl (p_lbs ty3 rfl (j := 0) rfl rfl) ?_
  obtain ⟨z2, hz2, hm⟩ := bindS hm
  refine lp rfl (p_quoM hz2 rfl rfl) ?_
  refine lp rfl (p_as rfl) ?_
  refine lj_seq ?_
  obtain rfl := Option.some.inj hm
  exact cj_rt () [] Tryd.results52 (.tmp rfl .nil) rfl rfl
theorem ok_gleeref2_units (a0 : TFraction) {r : Int} (hm : m_gleeref2_units a0 = some r) :
    Ctr Tryd.prog 53 [.agg (R48.enc a0).toArray].toArray ([] : List Ent) [] (X := Unit) (fun _ => .int .i64 r) (fun _ => []) := by
  unfold m_gleeref2_units at hm
  refine ctr_mk (vs := [(0, .agg (R48.enc a0).toArray)]) Tryd.func53 rfl Tryd.ntmps53 rfl ⟨rfl, trivial⟩ (fun w0 A => ?_)
  refine cj_seq ?_
  refine cj_reg ?_
  refine r_bx (cs := [.int .i64 a0.Num, .int .i64 a0.Den]) rfl rfl rfl (fun b1 => ?_)
  refine lp rfl (p_as rfl) ?_
  refine lj_seq ?_
  refine cj_seq ?_
  refine cj_quiet (by kernel_rfl) (by kernel_rfl) ?_
  refine q_p rfl (p_fab fl48_0 rfl) ?_
  refine q_p rfl (p_lbs ty3 rfl (j := 0) rfl rfl) ?_
  refine q_p rfl (p_fab fl48_1 rfl) ?_
  refine q_p rfl (p_lbs ty3 rfl (j := 0) rfl rfl) ?_
  obtain ⟨z2, hz2, hm⟩ := bindS hm
  refine q_p rfl (p_quoM hz2 rfl rfl) ?_
  refine q_p rfl (p_mul rfl rfl) ?_
  refine q_p rfl (p_as rfl) ?_
  refine q_nil ?_
  refine nj_seq ?_
  obtain rfl := Option.some.inj hm
  exact cj_rt () [] Tryd.results53 (.tmp rfl .nil) rfl rfl
theorem ok_gleeref2_tiesTo (a0 : TTone) (a1 : TTone) {r : Bool} (hm : m_gleeref2_tiesTo a0 a1 = some r) :
    Ctr Tryd.prog 82 [.agg (R50.enc a0).toArray, .agg (R50.enc a1).toArray].toArray ([] : List Ent) [] (X := Unit) (fun _ => .bool r) (fun _ => []) := by
  unfold m_gleeref2_tiesTo at hm
  refine ctr_mk (vs := [(0, .agg (R50.enc a0).toArray), (1, .agg (R50.enc a1).toArray)]) Tryd.func82 rfl Tryd.ntmps82 rfl ⟨rfl, rfl, trivial⟩ (fun w0 A => ?_)
  refine cj_seq ?_
  refine cj_reg ?_
  refine r_bx (cs := [.int .i64 a0.Note, .int .i64 a0.Long.Num, .int .i64 a0.Long.Den, .string a0.Text, .bool a0.Tied]) rfl rfl rfl (fun b1 => ?_)
  refine r_bx (cs := [.int .i64 a1.Note, .int .i64 a1.Long.Num, .int .i64 a1.Long.Den, .string a1.Text, .bool a1.Tied]) rfl rfl rfl (fun b2 => ?_)
  refine lp rfl (p_as rfl) ?_
  refine lj_seq ?_
  refine cj_seq ?_
  refine cj_reg ?_
  refine lp rfl (p_fab fl50_0 rfl) ?_
  refine lp rfl (p_lbs ty3 rfl (j := 1) rfl rfl) ?_
  refine lp rfl (p_fab fl50_0 rfl) ?_
  refine lp rfl (p_lbs ty3 rfl (j := 0) rfl rfl) ?_
  refine lp rfl (p_eql rfl rfl) ?_
  refine lp rfl (p_mv rfl) ?_
  refine lcase (i := 10) (a0.Note == a1.Note) rfl (fun hb => ?_) (fun hb => ?_)
  · have hm := ifB_t hb hm
    refine lg true rfl rfl rfl ?_
    refine lp rfl (p_fab fl50_2 rfl) ?_
    refine lg true rfl rfl rfl ?_
    refine lp rfl (p_lbs ty9 rfl (j := 0) rfl rfl) ?_
    refine lg true rfl rfl rfl ?_
    refine lp rfl (p_eqs rfl rfl) ?_
    refine lp rfl (p_pkt rfl rfl) ?_
    refine lp rfl (p_as rfl) ?_
    refine lj_seq ?_
    obtain rfl := Option.some.inj hm
    exact cj_rt () [] Tryd.results82 (.tmp rfl .nil) rfl rfl
  · have hm := ifB_f hb hm
    refine ls true rfl rfl rfl rfl ?_
    refine ls true rfl rfl rfl rfl ?_
    refine ls true rfl rfl rfl rfl ?_
    refine lp rfl (p_pkf rfl rfl) ?_
    refine lp rfl (p_as rfl) ?_
    refine lj_seq ?_
    obtain rfl := Option.some.inj hm
    exact cj_rt () [] Tryd.results82 (.tmp rfl .nil) rfl rfl
theorem ok_gleeref2_fillFault (s0_ : SV) (a0 : (List TBar)) (s1_ : SV) (a1 : (List TTone)) (a2 : Bool) {r : Int} (hm : m_gleeref2_fillFault a0 a1 a2 = some r) :
    Ctr Tryd.prog 45 [s0_.v, s1_.v, .bool a2].toArray ([] : List Ent) [RdS R75 (SV.v s0_) a0, RdS R50 (SV.v s1_) a1, UtfT] (X := Unit) (fun _ => .int .i64 r) (fun _ => []) := by
  unfold m_gleeref2_fillFault at hm
  refine ctr_mk (vs := [(0, s0_.v), (1, s1_.v), (2, .bool a2)]) Tryd.func45 rfl Tryd.ntmps45 rfl ⟨rfl, rfl, rfl, trivial⟩ (fun w0 A => ?_)
  refine cj_seq ?_
  refine cj_reg ?_
  refine lp rfl (p_as rfl) ?_
  refine lj_seq ?_
  refine cj_seq ?_
  refine cj_seq ?_
  refine cj_reg ?_
  refine lp rfl (p_mv rfl) ?_
  refine lp rfl (p_len Tryd.underlying28 rfl (.ro 1 rfl)) ?_
  refine lp rfl (p_gtr rfl rfl) ?_
  refine lj_seq ?_
  refine cj_if (b := decide ((a1.length : Int) > 2000)) rfl (fun hb => ?_) (fun hb => ?_)
  · have hm := ifB_t hb hm
    refine cj_seq ?_
    refine cj_reg ?_
    refine lp rfl (p_as rfl) ?_
    refine lj_seq ?_
    obtain rfl := Option.some.inj hm
    exact cj_rt () [] Tryd.results45 (.tmp rfl .nil) rfl rfl
  · have hm := ifB_f hb hm
    refine cj_skip ?_
    refine nj_seq ?_
    refine cj_seq ?_
    refine cj_reg ?_
    refine lp rfl (p_as rfl) ?_
    refine lp rfl (p_as rfl) ?_
    refine lj_seq ?_
    refine cj_seq ?_
    refine cj_seq ?_
    refine cj_reg ?_
    refine lp rfl (p_mv rfl) ?_
    refine lp rfl (p_len Tryd.underlying28 rfl (.ro 1 rfl)) ?_
    refine lp rfl (p_mv rfl) ?_
    refine lj_seq ?_
    obtain ⟨f7, hf7, hm⟩ := bindS hm
    refine cj_range (γ := Unit) (m := (a1.length : Int)) hf7 () (fun u4 g5 => [(0, s0_.v), (1, s1_.v), (2, .bool a2), (6, .int .i64 0), (7, .int .i64 u4.1), (8, .int .i64 u4.2), (18, s1_.v)]) (fun u4 g5 => Sat w0 (keys ([] : List Ent)) A [.ro (RdS R75 (SV.v s0_) a0), .ro (RdS R50 (SV.v s1_) a1), .ro UtfT]) ⟨rfl, rfl, rfl, rfl, rfl, rfl, rfl, rfl, rfl, trivial⟩ (fun _ h => h.picks [0, 0, 0] rfl) (nat_lt _) (fun _ h => (FactAt.get (F := RdS R50 (SV.v s1_) a1) (.ro 1 rfl) h).1) (fun _ _ => ⟨rfl, rfl, rfl, rfl⟩) ⟨rfl, rfl, rfl, rfl, rfl⟩ rfl rfl rfl (fun u4 g5 e => ?_) (fun aftk6 i1 x2 u4 g5 k6 hx3 hs J hJk6 hBk6 hX I cnk6 => ?_)
    · have hm := Flow.fin_b e hm
      refine nj_seq ?_
      refine cj_seq ?_
      refine cj_seq ?_
      refine cj_reg ?_
      obtain ⟨k18, hk18, hm⟩ := bindS hm
      have hRk18 : ∀ t, k18 = .inr t → some t = some r := fun t e => by rw [e] at hm; exact hm
      refine lj_join (σ := Bool) (γ := Unit) (fun u16 => k18 = .inl u16) (fun u16 g17 => [(1, s1_.v), (2, .bool a2), (6, .int .i64 0), (58, .bool u16)]) (fun u16 g17 => Sat w0 (keys ([] : List Ent)) A [.ro (RdS R50 (SV.v s1_) a1), .ro UtfT]) (fun u16 g17 hq => ?_) (fun J cnk18 => ?_)
      · have hm := Sum.fin_l hq hm
        refine cj_if (b := u16) rfl (fun hb => ?_) (fun hb => ?_)
        · have hm := ifB_t hb hm
          refine cj_seq ?_
          refine cj_reg ?_
          refine lp rfl (p_as rfl) ?_
          refine lj_seq ?_
          obtain rfl := Option.some.inj hm
          exact cj_rt () [] Tryd.results45 (.tmp rfl .nil) rfl rfl
        · have hm := ifB_f hb hm
          refine cj_skip ?_
          refine nj_seq ?_
          refine cj_seq ?_
          refine cj_seq ?_
          refine cj_reg ?_
          refine lp rfl (p_mv rfl) ?_
          refine lp rfl (p_len Tryd.underlying28 rfl (.ro 0 rfl)) ?_
          refine lp rfl (p_mv rfl) ?_
          refine lj_seq ?_
          obtain ⟨f25, hf25, hm⟩ := bindS hm
          refine cj_range (γ := Unit) (m := (a1.length : Int)) hf25 () (fun u22 g23 => [(1, s1_.v), (2, .bool a2), (6, .int .i64 0), (59, s1_.v)]) (fun u22 g23 => Sat w0 (keys ([] : List Ent)) A [.ro (RdS R50 (SV.v s1_) a1), .ro UtfT]) ⟨rfl, rfl, rfl, rfl, rfl, rfl, trivial⟩ (fun _ h => h.picks [0, 0] rfl) (nat_lt _) (fun _ h => (FactAt.get (F := RdS R50 (SV.v s1_) a1) (.ro 0 rfl) h).1) (fun _ _ => ⟨rfl, rfl, rfl, rfl⟩) ⟨rfl, rfl, rfl, rfl, rfl⟩ rfl rfl rfl (fun u22 g23 e => ?_) (fun aftk24 i19 x20 u22 g23 k24 hx21 hs J hJk24 hBk24 hX I cnk24 => ?_)
          · have hm := Flow.fin_b e hm
            refine nj_seq ?_
            refine cj_seq ?_
            refine cj_reg ?_
            refine lp rfl (p_as rfl) ?_
            refine lj_seq ?_
            obtain rfl := Option.some.inj hm
            exact cj_rt () [] Tryd.results45 (.tmp rfl .nil) rfl rfl
          · have hRk24 : ∀ t, k24 = .ret t → some t = some r := fun t e => by rw [hX t e] at hm; exact hm
            have hm := hs
            refine cj_seq ?_
            refine cj_reg ?_
            refine lp rfl (p_mv rfl) ?_
            refine lp rfl (p_idx Tryd.underlying28 ty50 rfl rfl (.ro 0 rfl) (getI_nat.trans hx21)) ?_
            refine lp rfl (p_lea ty50 rfl (.ro 0 rfl) hx21) ?_
            refine r_al ty50 rfl (fun b26 => ?_)
            refine lp rfl (p_as rfl) ?_
            refine r_sb (vs := [.int .i64 x20.Note, .int .i64 x20.Long.Num, .int .i64 x20.Long.Den, .string x20.Text, .bool x20.Tied]) (j := 0) ty50 rfl rfl rfl rfl rfl rfl rfl ?_
            refine lj_seq ?_
            refine cj_seq ?_
            refine cj_reg ?_
            refine lp rfl (p_mv rfl) ?_
            refine lp rfl (p_mv rfl) ?_
            refine lp rfl (p_len Tryd.underlying28 rfl (.ro 1 rfl)) ?_
            refine lp rfl (p_sub rfl rfl) ?_
            refine lp rfl (p_eql rfl rfl) ?_
            refine lp rfl (p_as rfl) ?_
            refine lj_seq ?_
            refine cj_seq ?_
            refine cj_quiet (by kernel_rfl) (by kernel_rfl) ?_
            refine q_p rfl (p_fab fl50_3 rfl) ?_
            refine q_p rfl (p_lbs ty4 rfl (j := 0) rfl rfl) ?_
            refine q_p rfl (p_mv rfl) ?_
            refine q_case (i := 73) x20.Tied rfl (fun hb => ?_) (fun hb => ?_)
            · have hm := ifB_t hb hm
              refine q_g true rfl rfl rfl ?_
              refine q_p rfl (p_mv rfl) ?_
              refine q_g true rfl rfl rfl ?_
              refine q_p rfl (p_mv rfl) ?_
              refine q_case (i := 75) ((i19 : Int) == (w64 ((a1.length : Int) - 1))) rfl (fun hb => ?_) (fun hb => ?_)
              · have hm := ifB_t hb hm
                refine q_g true rfl rfl rfl ?_
                refine q_p rfl (p_mv rfl) ?_
                refine q_g true rfl rfl rfl ?_
                refine q_p rfl (p_not rfl) ?_
                refine q_g true rfl rfl rfl ?_
                refine q_p rfl (p_pkt rfl rfl) ?_
                refine q_g true rfl rfl rfl ?_
                refine q_p rfl (p_mv rfl) ?_
                refine q_case (i := 79) (!a2) rfl (fun hb => ?_) (fun hb => ?_)
                · have hm := ifB_t hb hm
                  refine q_s false rfl rfl rfl rfl ?_
                  refine q_s false rfl rfl rfl rfl ?_
                  refine q_s false rfl rfl rfl rfl ?_
                  refine q_su rfl rfl rfl rfl ?_
                  refine q_su rfl rfl rfl rfl ?_
                  refine q_su rfl rfl rfl rfl ?_
                  refine q_su rfl rfl rfl rfl ?_
                  refine q_su rfl rfl rfl rfl ?_
                  refine q_su rfl rfl rfl rfl ?_
                  refine q_su rfl rfl rfl rfl ?_
                  refine q_su rfl rfl rfl rfl ?_
                  refine q_su rfl rfl rfl rfl ?_
                  refine q_su rfl rfl rfl rfl ?_
                  refine q_su rfl rfl rfl rfl ?_
                  refine q_su rfl rfl rfl rfl ?_
                  refine q_s false rfl rfl rfl rfl ?_
                  refine q_g true rfl rfl rfl ?_
                  refine q_p rfl (p_pkt rfl rfl) ?_
                  refine q_p rfl (p_pkt rfl rfl) ?_
                  refine q_nil ?_
                  refine nj_seq ?_
                  refine cj_if_t rfl ?_
                  refine cj_seq ?_
                  refine cj_reg ?_
                  refine lp rfl (p_as rfl) ?_
                  refine lj_seq ?_
                  have hm := hRk24 _ (Option.some.inj hm).symm
                  obtain rfl := Option.some.inj hm
                  exact cj_rt () [] Tryd.results45 (.tmp rfl .nil) rfl rfl
                · have hm := ifB_f hb hm
                  refine q_g false rfl rfl rfl ?_
                  refine q_p rfl (p_mv rfl) ?_
                  refine q_g false rfl rfl rfl ?_
                  refine q_p rfl (p_not rfl) ?_
                  refine q_g false rfl rfl rfl ?_
                  refine q_p rfl (p_mv rfl) ?_
                  refine q_case (i := 82) (!((i19 : Int) == (w64 ((a1.length : Int) - 1)))) rfl (fun hb => ?_) (fun hb => ?_)
                  · have hm := ifB_t hb hm
                    refine q_g true rfl rfl rfl ?_
                    refine q_p rfl (p_lbw ty50 rfl (j := 0) rfl rfl) ?_
                    refine q_g true rfl rfl rfl ?_
                    refine q_p rfl (p_mv rfl) ?_
                    refine q_g true rfl rfl rfl ?_
                    refine q_p rfl (p_mv rfl) ?_
                    refine q_g true rfl rfl rfl ?_
                    refine q_p rfl (p_add rfl rfl) ?_
                    refine q_g true rfl rfl rfl ?_
                    refine q_p rfl (p_mv rfl) ?_
                    refine q_g true rfl rfl rfl ?_
                    refine q_p rfl (p_len Tryd.underlying28 rfl (.ro 1 rfl)) ?_
                    refine q_g true rfl rfl rfl ?_
                    refine q_p rfl (p_sub rfl rfl) ?_
                    refine q_g true rfl rfl rfl ?_
                    refine q_p rfl (p_min rfl rfl) ?_
                    refine q_g true rfl rfl rfl ?_
                    obtain ⟨e27, he27, hm⟩ := bindS hm
                    refine q_p rfl (p_idx Tryd.underlying28 ty50 rfl rfl (.ro 1 rfl) he27) ?_
                    refine q_g true rfl rfl rfl ?_
                    refine q_p rfl (p_lea ty50 rfl (.ro 1 rfl) (getI_spec he27).2) ?_
                    refine q_g true rfl rfl rfl ?_
                    obtain ⟨y28, hy28, hm⟩ := bindS hm
                    refine q_call (.bool y28) cf82 rfl rfl (ok_gleeref2_tiesTo x20 e27 hy28) .nil (fun _ => rfl) (fun _ => rfl) rfl ?_
                    refine q_g true rfl rfl rfl ?_
                    refine q_p rfl (p_not rfl) ?_
                    refine q_g false rfl rfl rfl ?_
                    refine q_p rfl (p_pkt rfl rfl) ?_
                    refine q_g true rfl rfl rfl ?_
                    refine q_p rfl (p_pkf rfl rfl) ?_
                    refine q_p rfl (p_pkt rfl rfl) ?_
                    refine q_nil ?_
                    refine nj_seq ?_
                    refine cj_if (b := !y28) rfl (fun hb => ?_) (fun hb => ?_)
                    · have hm := ifB_t hb hm
                      refine cj_seq ?_
                      refine cj_reg ?_
                      refine lp rfl (p_as rfl) ?_
                      refine lj_seq ?_
                      have hm := hRk24 _ (Option.some.inj hm).symm
                      obtain rfl := Option.some.inj hm
                      exact cj_rt () [] Tryd.results45 (.tmp rfl .nil) rfl rfl
                    · have hm := ifB_f hb hm
                      refine cj_skip ?_
                      refine nj_blk ?_
                      exact cnk24 _ _ () () (hJk24 _ (Option.some.inj hm).symm) ⟨rfl, rfl, rfl, rfl, rfl, rfl, trivial⟩ (fun _ h => h.picks [1, 1] rfl)
                  · have hm := ifB_f hb hm
                    refine q_s true rfl rfl rfl rfl ?_
                    refine q_s true rfl rfl rfl rfl ?_
                    refine q_s true rfl rfl rfl rfl ?_
                    refine q_s true rfl rfl rfl rfl ?_
                    refine q_s true rfl rfl rfl rfl ?_
                    refine q_s true rfl rfl rfl rfl ?_
                    refine q_s true rfl rfl rfl rfl ?_
                    refine q_s true rfl rfl rfl rfl ?_
                    refine q_s true rfl rfl rfl rfl ?_
                    refine q_s true rfl rfl rfl rfl ?_
                    refine q_s true rfl rfl rfl rfl ?_
                    refine q_s true rfl rfl rfl rfl ?_
                    refine q_g false rfl rfl rfl ?_
                    refine q_p rfl (p_pkf rfl rfl) ?_
                    refine q_g true rfl rfl rfl ?_
                    refine q_p rfl (p_pkf rfl rfl) ?_
                    refine q_p rfl (p_pkt rfl rfl) ?_
                    refine q_nil ?_
                    refine nj_seq ?_
                    refine cj_if_f rfl ?_
                    refine cj_skip ?_
                    refine nj_blk ?_
                    exact cnk24 _ _ () () (hJk24 _ (Option.some.inj hm).symm) ⟨rfl, rfl, rfl, rfl, rfl, rfl, trivial⟩ (fun _ h => h.picks [1, 1] rfl)
              · have hm := ifB_f hb hm
                refine q_s true rfl rfl rfl rfl ?_
                refine q_s true rfl rfl rfl rfl ?_
                refine q_g true rfl rfl rfl ?_
                refine q_p rfl (p_pkf rfl rfl) ?_
                refine q_g true rfl rfl rfl ?_
                refine q_p rfl (p_mv rfl) ?_
                refine q_g false rfl rfl rfl ?_
                refine q_p rfl (p_mv rfl) ?_
                refine q_g false rfl rfl rfl ?_
                refine q_p rfl (p_not rfl) ?_
                refine q_g false rfl rfl rfl ?_
                refine q_p rfl (p_mv rfl) ?_
                refine q_case (i := 82) (!((i19 : Int) == (w64 ((a1.length : Int) - 1)))) rfl (fun hb => ?_) (fun hb => ?_)
                · have hm := ifB_t hb hm
                  refine q_g true rfl rfl rfl ?_
                  refine q_p rfl (p_lbw ty50 rfl (j := 0) rfl rfl) ?_
                  refine q_g true rfl rfl rfl ?_
                  refine q_p rfl (p_mv rfl) ?_
                  refine q_g true rfl rfl rfl ?_
                  refine q_p rfl (p_mv rfl) ?_
                  refine q_g true rfl rfl rfl ?_
                  refine q_p rfl (p_add rfl rfl) ?_
                  refine q_g true rfl rfl rfl ?_
                  refine q_p rfl (p_mv rfl) ?_
                  refine q_g true rfl rfl rfl ?_
                  refine q_p rfl (p_len Tryd.underlying28 rfl (.ro 1 rfl)) ?_
                  refine q_g true rfl rfl rfl ?_
                  refine q_p rfl (p_sub rfl rfl) ?_
                  refine q_g true rfl rfl rfl ?_
                  refine q_p rfl (p_min rfl rfl) ?_
                  refine q_g true rfl rfl rfl ?_
                  obtain ⟨e29, he29, hm⟩ := bindS hm
                  refine q_p rfl (p_idx Tryd.underlying28 ty50 rfl rfl (.ro 1 rfl) he29) ?_
                  refine q_g true rfl rfl rfl ?_
                  refine q_p rfl (p_lea ty50 rfl (.ro 1 rfl) (getI_spec he29).2) ?_
                  refine q_g true rfl rfl rfl ?_
                  obtain ⟨y30, hy30, hm⟩ := bindS hm
                  refine q_call (.bool y30) cf82 rfl rfl (ok_gleeref2_tiesTo x20 e29 hy30) .nil (fun _ => rfl) (fun _ => rfl) rfl ?_
                  refine q_g true rfl rfl rfl ?_
                  refine q_p rfl (p_not rfl) ?_
                  refine q_g false rfl rfl rfl ?_
                  refine q_p rfl (p_pkt rfl rfl) ?_
                  refine q_g true rfl rfl rfl ?_
                  refine q_p rfl (p_pkf rfl rfl) ?_
                  refine q_p rfl (p_pkt rfl rfl) ?_
                  refine q_nil ?_
                  refine nj_seq ?_
                  refine cj_if (b := !y30) rfl (fun hb => ?_) (fun hb => ?_)
                  · have hm := ifB_t hb hm
                    refine cj_seq ?_
                    refine cj_reg ?_
                    refine lp rfl (p_as rfl) ?_
                    refine lj_seq ?_
                    have hm := hRk24 _ (Option.some.inj hm).symm
                    obtain rfl := Option.some.inj hm
                    exact cj_rt () [] Tryd.results45 (.tmp rfl .nil) rfl rfl
                  · have hm := ifB_f hb hm
                    refine cj_skip ?_
                    refine nj_blk ?_
                    exact cnk24 _ _ () () (hJk24 _ (Option.some.inj hm).symm) ⟨rfl, rfl, rfl, rfl, rfl, rfl, trivial⟩ (fun _ h => h.picks [1, 1] rfl)
                · have hm := ifB_f hb hm
                  refine q_s true rfl rfl rfl rfl ?_
                  refine q_s true rfl rfl rfl rfl ?_
                  refine q_s true rfl rfl rfl rfl ?_
                  refine q_s true rfl rfl rfl rfl ?_
                  refine q_s true rfl rfl rfl rfl ?_
                  refine q_s true rfl rfl rfl rfl ?_
                  refine q_s true rfl rfl rfl rfl ?_
                  refine q_s true rfl rfl rfl rfl ?_
                  refine q_s true rfl rfl rfl rfl ?_
                  refine q_s true rfl rfl rfl rfl ?_
                  refine q_s true rfl rfl rfl rfl ?_
                  refine q_s true rfl rfl rfl rfl ?_
                  refine q_g false rfl rfl rfl ?_
                  refine q_p rfl (p_pkf rfl rfl) ?_
                  refine q_g true rfl rfl rfl ?_
                  refine q_p rfl (p_pkf rfl rfl) ?_
                  refine q_p rfl (p_pkt rfl rfl) ?_
                  refine q_nil ?_
                  refine nj_seq ?_
                  refine cj_if_f rfl ?_
                  refine cj_skip ?_
                  refine nj_blk ?_
                  exact cnk24 _ _ () () (hJk24 _ (Option.some.inj hm).symm) ⟨rfl, rfl, rfl, rfl, rfl, rfl, trivial⟩ (fun _ h => h.picks [1, 1] rfl)
            · have hm := ifB_f hb hm
              refine q_s true rfl rfl rfl rfl ?_
              refine q_s true rfl rfl rfl rfl ?_
              refine q_su rfl rfl rfl rfl ?_
              refine q_su rfl rfl rfl rfl ?_
              refine q_s true rfl rfl rfl rfl ?_
              refine q_s true rfl rfl rfl rfl ?_
              refine q_su rfl rfl rfl rfl ?_
              refine q_su rfl rfl rfl rfl ?_
              refine q_su rfl rfl rfl rfl ?_
              refine q_su rfl rfl rfl rfl ?_
              refine q_su rfl rfl rfl rfl ?_
              refine q_su rfl rfl rfl rfl ?_
              refine q_su rfl rfl rfl rfl ?_
              refine q_su rfl rfl rfl rfl ?_
              refine q_su rfl rfl rfl rfl ?_
              refine q_su rfl rfl rfl rfl ?_
              refine q_su rfl rfl rfl rfl ?_
              refine q_su rfl rfl rfl rfl ?_
              refine q_su rfl rfl rfl rfl ?_
              refine q_su rfl rfl rfl rfl ?_
              refine q_su rfl rfl rfl rfl ?_
              refine q_su rfl rfl rfl rfl ?_
              refine q_s true rfl rfl rfl rfl ?_
              refine q_p rfl (p_pkf rfl rfl) ?_
              refine q_nil ?_
              refine nj_seq ?_
              refine cj_if_f rfl ?_
              refine cj_skip ?_
              refine nj_blk ?_
              exact cnk24 _ _ () () (hJk24 _ (Option.some.inj hm).symm) ⟨rfl, rfl, rfl, rfl, rfl, rfl, trivial⟩ (fun _ h => h.picks [1, 1] rfl)
      · have hm := hk18
        refine lp rfl (p_mv rfl) ?_
        refine lp rfl (p_neq rfl rfl) ?_
        refine lp rfl (p_mv rfl) ?_
        refine lcase (i := 52) (u4.2 != 0) rfl (fun hb => ?_) (fun hb => ?_)
        · have hm := ifB_t hb hm
          refine ls false rfl rfl rfl rfl ?_
          refine ls false rfl rfl rfl rfl ?_
          refine ls false rfl rfl rfl rfl ?_
          refine ls false rfl rfl rfl rfl ?_
          refine ls false rfl rfl rfl rfl ?_
          refine lp rfl (p_pkt rfl rfl) ?_
          refine lj_nil ?_
          exact cnk18 _ _ true () (Option.some.inj hm).symm ⟨rfl, rfl, rfl, rfl, trivial⟩ (fun _ h => h.picks [1, 1] rfl)
        · have hm := ifB_f hb hm
          refine lg false rfl rfl rfl ?_
          refine lp rfl (p_mv rfl) ?_
          refine lg false rfl rfl rfl ?_
          refine lp rfl (p_mv rfl) ?_
          refine lg false rfl rfl rfl ?_
          refine lp rfl (p_len Tryd.underlying26 rfl (.ro 0 rfl)) ?_
          refine lg false rfl rfl rfl ?_
          refine lp rfl (p_sub rfl rfl) ?_
          refine lg false rfl rfl rfl ?_
          refine lp rfl (p_neq rfl rfl) ?_
          refine lp rfl (p_pkf rfl rfl) ?_
          refine lj_nil ?_
          exact cnk18 _ _ (u4.1 != (w64 ((a0.length : Int) - 1))) () (Option.some.inj hm).symm ⟨rfl, rfl, rfl, rfl, trivial⟩ (fun _ h => h.picks [1, 1] rfl)
    · have hRk6 : ∀ t, k6 = .ret t → some t = some r := fun t e => by rw [hX t e] at hm; exact hm
      have hm := hs
      refine cj_seq ?_
      refine cj_reg ?_
      refine lp rfl (p_idx Tryd.underlying28 ty50 rfl rfl (.ro 1 rfl) (getI_nat.trans hx3)) ?_
      refine lp rfl (p_lea ty50 rfl (.ro 1 rfl) hx3) ?_
      refine r_al ty50 rfl (fun b8 => ?_)
      refine r_sb (vs := [.int .i64 x2.Note, .int .i64 x2.Long.Num, .int .i64 x2.Long.Den, .string x2.Text, .bool x2.Tied]) (j := 0) ty50 rfl rfl rfl rfl rfl rfl rfl ?_
      refine lj_seq ?_
      refine cj_seq ?_
      refine cj_seq ?_
      refine cj_reg ?_
      refine lp rfl (p_lbw ty50 rfl (j := 0) rfl rfl) ?_
      obtain ⟨y9, hy9, hm⟩ := bindS hm
      refine r_call [] cf81 rfl rfl (ok_gleeref2_toneFault x2 hy9) rfl rfl (.cons (.ro 3 rfl) .nil) (fun _ => rfl) rfl (fun _ => ?_)
      refine lp rfl (p_as rfl) ?_
      refine lj_seq ?_
      refine cj_seq ?_
      refine cj_reg ?_
      refine lp rfl (p_mv rfl) ?_
      refine lp rfl (p_neq rfl rfl) ?_
      refine lj_seq ?_
      refine cj_if (b := y9 != 0) rfl (fun hb => ?_) (fun hb => ?_)
      · have hm := ifB_t hb hm
        refine cj_seq ?_
        refine cj_reg ?_
        refine lp rfl (p_mv rfl) ?_
        refine lp rfl (p_as rfl) ?_
        refine lj_seq ?_
        have hm := hRk6 _ (Option.some.inj hm).symm
        obtain rfl := Option.some.inj hm
        exact cj_rt () [] Tryd.results45 (.tmp rfl .nil) rfl rfl
      · have hm := ifB_f hb hm
        refine cj_skip ?_
        refine nj_seq ?_
        refine cj_seq ?_
        refine cj_seq ?_
        refine cj_reg ?_
        refine lp rfl (p_mv rfl) ?_
        refine lp rfl (p_eql rfl rfl) ?_
        refine lj_seq ?_
        obtain ⟨k12, hk12, hm⟩ := bindS hm
        have hRk12 : ∀ t, k12 = .inr t → some t = some k6 := fun t e => by rw [e] at hm; exact hm
        refine cj_joinK (σ := (Int × Int)) (γ := Unit) (fun u10 => k12 = .inl u10) (fun u10 g11 => [(0, s0_.v), (1, s1_.v), (2, .bool a2), (6, .int .i64 0), (7, .int .i64 u10.1), (8, .int .i64 u10.2), (10, .pointer (some ⟨b8, 0, none⟩)), (18, s1_.v), (19, .int .i64 (a1.length : Int)), (20, .int .i64 (i1 : Int))]) (fun u10 g11 => Sat w0 (keys ([] : List Ent)) A [.box b8 50 [.int .i64 x2.Note, .int .i64 x2.Long.Num, .int .i64 x2.Long.Den, .string x2.Text, .bool x2.Tied], .ro (RdS R75 (SV.v s0_) a0), .ro (RdS R50 (SV.v s1_) a1), .ro UtfT]) (fun u10 g11 hq => ?_) (fun J cnk12 => ?_)
        · have hm := Sum.fin_l hq hm
          refine cj_seq ?_
          refine cj_reg ?_
          refine lp rfl (p_mv rfl) ?_
          refine lp rfl (p_fab fl50_1 rfl) ?_
          refine lp rfl (p_lba ty48 rfl (j := 0) rfl rfl) ?_
          obtain ⟨y15, hy15, hm⟩ := bindS hm
          refine r_call [] cf53 rfl rfl (ok_gleeref2_units x2.Long hy15) rfl rfl .nil (fun _ => rfl) rfl (fun _ => ?_)
          refine lp rfl (p_sub rfl rfl) ?_
          refine lp rfl (p_as rfl) ?_
          refine lj_seq ?_
          refine cj_seq ?_
          refine cj_reg ?_
          refine lp rfl (p_mv rfl) ?_
          refine lp rfl (p_lss rfl rfl) ?_
          refine lj_seq ?_
          refine cj_if (b := decide ((w64 (u10.2 - y15)) < 0)) rfl (fun hb => ?_) (fun hb => ?_)
          · have hm := ifB_t hb hm
            refine cj_seq ?_
            refine cj_reg ?_
            refine lp rfl (p_as rfl) ?_
            refine lj_seq ?_
            have hm := hRk6 _ (Option.some.inj hm).symm
            obtain rfl := Option.some.inj hm
            exact cj_rt () [] Tryd.results45 (.tmp rfl .nil) rfl rfl
          · have hm := ifB_f hb hm
            refine cj_skip ?_
            refine nj_blk ?_
            exact cnk6 _ _ (u10.1, w64 (u10.2 - y15)) () (hJk6 _ (Option.some.inj hm).symm) ⟨rfl, rfl, rfl, rfl, rfl, rfl, rfl, rfl, rfl, trivial⟩ (fun _ h => h.picks [1, 1, 1] rfl)
        · have hm := hk12
          refine cj_if (b := u4.2 == 0) rfl (fun hb => ?_) (fun hb => ?_)
          · have hm := ifB_t hb hm
            refine cj_seq ?_
            refine cj_seq ?_
            refine cj_reg ?_
            refine lp rfl (p_mv rfl) ?_
            refine lp rfl (p_add rfl rfl) ?_
            refine lp rfl (p_as rfl) ?_
            refine lj_seq ?_
            refine cj_seq ?_
            refine cj_reg ?_
            refine lp rfl (p_mv rfl) ?_
            refine lp rfl (p_mv rfl) ?_
            refine lp rfl (p_len Tryd.underlying26 rfl (.ro 1 rfl)) ?_
            refine lp rfl (p_eql rfl rfl) ?_
            refine lj_seq ?_
            refine cj_if (b := (w64 (u4.1 + 1)) == (a0.length : Int)) rfl (fun hb => ?_) (fun hb => ?_)
            · have hm := ifB_t hb hm
              refine cj_seq ?_
              refine cj_reg ?_
              refine lp rfl (p_as rfl) ?_
              refine lj_seq ?_
              have hm := hRk12 _ (Option.some.inj hm).symm
              have hm := hRk6 _ (Option.some.inj hm).symm
              obtain rfl := Option.some.inj hm
              exact cj_rt () [] Tryd.results45 (.tmp rfl .nil) rfl rfl
            · have hm := ifB_f hb hm
              refine cj_skip ?_
              refine nj_seq ?_
              refine cj_reg ?_
              refine lp rfl (p_mv rfl) ?_
              refine lp rfl (p_mv rfl) ?_
              obtain ⟨e13, he13, hm⟩ := bindS hm
              refine lp rfl (p_idx Tryd.underlying26 ty75 rfl rfl (.ro 1 rfl) he13) ?_
              refine lp rfl (p_lea ty75 rfl (.ro 1 rfl) (getI_spec he13).2) ?_
              obtain ⟨y14, hy14, hm⟩ := bindS hm
              refine r_call [] cf52 rfl rfl (ok_gleeref2_barUnits e13 hy14) rfl rfl .nil (fun _ => rfl) rfl (fun _ => ?_)
              refine lp rfl (p_as rfl) ?_
              refine lj_nil ?_
              exact cnk12 _ _ (w64 (u4.1 + 1), y14) () (Option.some.inj hm).symm ⟨rfl, rfl, rfl, rfl, rfl, rfl, rfl, rfl, rfl, rfl, trivial⟩ (fun _ h => h.picks [0, 0, 0, 0] rfl)
          · have hm := ifB_f hb hm
            refine cj_skip ?_
            exact cnk12 _ _ (u4.1, u4.2) () (Option.some.inj hm).symm ⟨rfl, rfl, rfl, rfl, rfl, rfl, rfl, rfl, rfl, rfl, trivial⟩ (fun _ h => h.picks [0, 0, 0, 0] rfl)
theorem ok_gleeref2_TonesFault (s0_ : SV) (a0 : (List TBar)) (s1_ : SV) (a1 : (List TTone)) {r : Int} (hm : m_gleeref2_TonesFault a0 a1 = some r) :
    Ctr Tryd.prog 11 [s0_.v, s1_.v].toArray ([] : List Ent) [RdS R75 (SV.v s0_) a0, RdS R50 (SV.v s1_) a1, UtfT] (X := Unit) (fun _ => .int .i64 r) (fun _ => []) := by
  unfold m_gleeref2_TonesFault at hm
  refine ctr_mk (vs := [(0, s0_.v), (1, s1_.v)]) Tryd.func11 rfl Tryd.ntmps11 rfl ⟨rfl, rfl, trivial⟩ (fun w0 A => ?_)
  refine cj_seq ?_
  refine cj_reg ?_
  refine lp rfl (p_as rfl) ?_
  refine lj_seq ?_
  refine cj_seq ?_
  refine cj_seq ?_
  refine cj_reg ?_
  refine lp rfl (p_mv rfl) ?_
  obtain ⟨y1, hy1, hm⟩ := bindS hm
  refine r_call [] cf44 rfl rfl (ok_gleeref2_BarsFault s0_ a0 hy1) rfl rfl (.cons (.ro 0 rfl) .nil) (fun _ => rfl) rfl (fun _ => ?_)
  refine lp rfl (p_as rfl) ?_
  refine lj_seq ?_
  refine cj_seq ?_
  refine cj_reg ?_
  refine lp rfl (p_mv rfl) ?_
  refine lp rfl (p_neq rfl rfl) ?_
  refine lj_seq ?_
  refine cj_if (b := y1 != 0) rfl (fun hb => ?_) (fun hb => ?_)
  · have hm := ifB_t hb hm
    refine cj_seq ?_
    refine cj_reg ?_
    refine lp rfl (p_mv rfl) ?_
    refine lp rfl (p_as rfl) ?_
    refine lj_seq ?_
    obtain rfl := Option.some.inj hm
    exact cj_rt () [] Tryd.results11 (.tmp rfl .nil) rfl rfl
  · have hm := ifB_f hb hm
    refine cj_skip ?_
    refine nj_seq ?_
    refine cj_seq ?_
    refine cj_reg ?_
    refine lp rfl (p_mv rfl) ?_
    refine lp rfl (p_mv rfl) ?_
    obtain ⟨y2, hy2, hm⟩ := bindS hm
    refine r_call [] cf45 rfl rfl (ok_gleeref2_fillFault s0_ a0 s1_ a1 false hy2) rfl rfl (.cons (.ro 0 rfl) (.cons (.ro 1 rfl) (.cons (.ro 2 rfl) .nil))) (fun _ => rfl) rfl (fun _ => ?_)
    refine lp rfl (p_as rfl) ?_
    refine lj_seq ?_
    obtain rfl := Option.some.inj hm
    exact cj_rt () [] Tryd.results11 (.tmp rfl .nil) rfl rfl
theorem ok_piece_Order (s0_ : SV) (a0 : (List TBar)) {r : (List Int) × Int} (hm : m_piece_Order a0 = some r) :
    Ctr Tryd.prog 48 [s0_.v].toArray ([] : List Ent) [RdS R75 (SV.v s0_) a0] (X := SV) (fun s => .tuple [s.v, .int .i64 r.2].toArray) (fun s => [.row R3 (SV.v s) r.1]) := by
  unfold m_piece_Order at hm
  refine ctr_mk (vs := [(0, s0_.v)]) Tryd.func48 rfl Tryd.ntmps48 rfl ⟨rfl, trivial⟩ (fun w0 A => ?_)
  refine cj_seq ?_
  refine cj_reg ?_
  refine lp rfl (p_as rfl) ?_
  refine lp rfl (p_as rfl) ?_
  refine lj_seq ?_
  refine cj_seq ?_
  refine cj_seq ?_
  refine cj_reg ?_
  refine lp rfl (p_mv rfl) ?_
  obtain ⟨y1, hy1, hm⟩ := bindS hm
  refine r_call [] cf46 rfl rfl (ok_piece_CheckBars s0_ a0 hy1) rfl rfl (.cons (.ro 0 rfl) .nil) (fun _ => rfl) rfl (fun _ => ?_)
  refine lp rfl (p_as rfl) ?_
  refine lj_seq ?_
  refine cj_seq ?_
  refine cj_reg ?_
  refine lp rfl (p_mv rfl) ?_
  refine lp rfl (p_neq rfl rfl) ?_
  refine lj_seq ?_
  refine cj_if (b := y1 != 0) rfl (fun hb => ?_) (fun hb => ?_)
  · have hm := ifB_t hb hm
    refine cj_seq ?_
    refine cj_reg ?_
    refine lp rfl (p_mv rfl) ?_
    refine lp rfl (p_as rfl) ?_
    refine lp rfl (p_as rfl) ?_
    refine lj_seq ?_
    obtain rfl := Option.some.inj hm
    refine cj_nil R3 ?_
    exact cj_rt nilS [0] Tryd.results48 (.tmp rfl (.tmp rfl .nil)) rfl rfl
  · have hm := ifB_f hb hm
    refine cj_skip ?_
    refine nj_seq ?_
    refine cj_seq ?_
    refine cj_reg ?_
    refine lp rfl (p_mv rfl) ?_
    obtain ⟨y3, hy3, hm⟩ := bindS hm
    refine r_call [] cf77 rfl rfl (ok_piece_played s0_ a0 hy3) rfl rfl (.cons (.ro 0 rfl) .nil) (fun _ => rfl) rfl (fun s4 => ?_)
    refine lp rfl (p_as rfl) ?_
    refine lp rfl (p_as rfl) ?_
    refine lj_seq ?_
    obtain rfl := Option.some.inj hm
    exact cj_rt s4 [0] Tryd.results48 (.tmp rfl (.tmp rfl .nil)) rfl rfl
theorem ok_slices_Equal_int_int (s0_ : SV) (a0 : (List Int)) (s1_ : SV) (a1 : (List Int)) {r : Bool} (hm : m_slices_Equal_int_int a0 a1 = some r) :
    Ctr Tryd.prog 49 [s0_.v, s1_.v].toArray ([] : List Ent) [RdS R3 (SV.v s0_) a0, RdS R3 (SV.v s1_) a1] (X := Unit) (fun _ => .bool r) (fun _ => []) := by
  unfold m_slices_Equal_int_int at hm
  refine ctr_mk (vs := [(0, s0_.v), (1, s1_.v)]) Tryd.func49 rfl Tryd.ntmps49 rfl ⟨rfl, rfl, trivial⟩ (fun w0 A => ?_)
  refine cj_seq ?_
  refine cj_reg ?_
  refine lp rfl (p_as rfl) ?_
  refine lj_seq ?_
  refine cj_seq ?_
  refine cj_seq ?_
  refine cj_reg ?_
  refine lp rfl (p_mv rfl) ?_
  refine lp rfl (p_len Tryd.underlying22 rfl (.ro 0 rfl)) ?_
  refine lp rfl (p_mv rfl) ?_
  refine lp rfl (p_len Tryd.underlying22 rfl (.ro 1 rfl)) ?_
  refine lp rfl (p_neq rfl rfl) ?_
  refine lj_seq ?_
  refine cj_if (b := (a0.length : Int) != (a1.length : Int)) rfl (fun hb => ?_) (fun hb => ?_)
  · have hm := ifB_t hb hm
    refine cj_seq ?_
    refine cj_reg ?_
    refine lp rfl (p_as rfl) ?_
    refine lj_seq ?_
    obtain rfl := Option.some.inj hm
    exact cj_rt () [] Tryd.results49 (.tmp rfl .nil) rfl rfl
  · have hm := ifB_f hb hm
    refine cj_skip ?_
    refine nj_seq ?_
    refine cj_seq ?_
    refine cj_seq ?_
    refine cj_reg ?_
    refine lp rfl (p_mv rfl) ?_
    refine lp rfl (p_len Tryd.underlying22 rfl (.ro 0 rfl)) ?_
    refine lp rfl (p_mv rfl) ?_
    refine lj_seq ?_
    obtain ⟨f7, hf7, hm⟩ := bindS hm
    refine cj_range (γ := Unit) (m := (a0.length : Int)) hf7 () (fun u4 g5 => [(0, s0_.v), (1, s1_.v), (4, .bool false)]) (fun u4 g5 => Sat w0 (keys ([] : List Ent)) A [.ro (RdS R3 (SV.v s0_) a0), .ro (RdS R3 (SV.v s1_) a1)]) ⟨rfl, rfl, rfl, rfl, rfl, trivial⟩ (fun _ h => h.picks [0, 0] rfl) (nat_lt _) (fun _ h => (FactAt.get (F := RdS R3 (SV.v s0_) a0) (.ro 0 rfl) h).1) (fun _ _ => ⟨rfl, rfl, rfl, rfl⟩) ⟨rfl, rfl, rfl, rfl, rfl⟩ rfl rfl rfl (fun u4 g5 e => ?_) (fun aftk6 i1 x2 u4 g5 k6 hx3 hs J hJk6 hBk6 hX I cnk6 => ?_)
    · have hm := Flow.fin_b e hm
      refine nj_seq ?_
      refine cj_seq ?_
      refine cj_reg ?_
      refine lp rfl (p_as rfl) ?_
      refine lj_seq ?_
      obtain rfl := Option.some.inj hm
      exact cj_rt () [] Tryd.results49 (.tmp rfl .nil) rfl rfl
    · have hRk6 : ∀ t, k6 = .ret t → some t = some r := fun t e => by rw [hX t e] at hm; exact hm
      have hm := hs
      refine cj_seq ?_
      refine cj_reg ?_
      refine lp rfl (p_mv rfl) ?_
      refine lp rfl (p_as rfl) ?_
      refine lj_seq ?_
      refine cj_seq ?_
      refine cj_quiet (by kernel_rfl) (by kernel_rfl) ?_
      refine q_p rfl (p_mv rfl) ?_
      refine q_p rfl (p_mv rfl) ?_
      refine q_p rfl (p_idx Tryd.underlying22 ty3 rfl rfl (.ro 0 rfl) (getI_nat.trans hx3)) ?_
      refine q_p rfl (p_lde (o := 0) ty3 rfl rfl (.ro 0 rfl) hx3 rfl) ?_
      refine q_p rfl (p_mv rfl) ?_
      refine q_p rfl (p_mv rfl) ?_
      obtain ⟨e8, he8, hm⟩ := bindS hm
      refine q_p rfl (p_idx Tryd.underlying22 ty3 rfl rfl (.ro 1 rfl) he8) ?_
      refine q_p rfl (p_lde (o := 0) ty3 rfl rfl (.ro 1 rfl) (getI_spec he8).2 rfl) ?_
      refine q_p rfl (p_neq rfl rfl) ?_
      refine q_nil ?_
      refine nj_seq ?_
      refine cj_if (b := x2 != e8) rfl (fun hb => ?_) (fun hb => ?_)
      · have hm := ifB_t hb hm
        refine cj_seq ?_
        refine cj_reg ?_
        refine lp rfl (p_as rfl) ?_
        refine lj_seq ?_
        have hm := hRk6 _ (Option.some.inj hm).symm
        obtain rfl := Option.some.inj hm
        exact cj_rt () [] Tryd.results49 (.tmp rfl .nil) rfl rfl
      · have hm := ifB_f hb hm
        refine cj_skip ?_
        refine nj_blk ?_
        exact cnk6 _ _ () () (hJk6 _ (Option.some.inj hm).symm) ⟨rfl, rfl, rfl, rfl, rfl, trivial⟩ (fun _ h => h.picks [0, 0] rfl)
theorem ok_gleelaw2_written  {r : Bool} (hm : m_gleelaw2_written  = some r) :
    Ctr Tryd.prog 13 [].toArray ([] : List Ent) [] (X := Unit) (fun _ => .bool r) (fun _ => []) := by
  unfold m_gleelaw2_written at hm
  refine ctr_mk (vs := []) Tryd.func13 rfl Tryd.ntmps13 rfl trivial (fun w0 A => ?_)
  refine cj_seq ?_
  refine cj_reg ?_
  refine lp rfl (p_as rfl) ?_
  refine lj_seq ?_
  refine cj_seq ?_
  refine cj_reg ?_
  refine lp rfl (p_bld [.int .i64 1, .int .i64 4, .int .i64 2, .int .i64 0, .bool true] rfl (fun _ => by kernel_rfl)) ?_
  refine r_bs R75 [(TBar.mk 1 4 2 0 true)] rfl rfl rfl (fun _ => by kernel_rfl) rfl (fun s1 => ?_)
  obtain ⟨y2, hy2, hm⟩ := bindS hm
  refine r_call [] cf48 rfl rfl (ok_piece_Order s1 [(TBar.mk 1 4 2 0 true)] hy2) rfl rfl (.cons (.row 0 rfl) .nil) (fun _ => rfl) rfl (fun s3 => ?_)
  refine lp rfl (p_mv rfl) ?_
  refine lp rfl (p_ext rfl rfl) ?_
  refine lp rfl (p_ext rfl rfl) ?_
  refine lp rfl (p_as rfl) ?_
  refine lp rfl (p_as rfl) ?_
  refine lj_seq ?_
  refine cj_seq ?_
  refine cj_reg ?_
  refine lp rfl (p_mv rfl) ?_
  refine lp rfl (p_eql rfl rfl) ?_
  refine lp rfl (p_mv rfl) ?_
  refine lcase (i := 11) (y2.2 == 0) rfl (fun hb => ?_) (fun hb => ?_)
  · have hm := ifB_t hb hm
    refine lg true rfl rfl rfl ?_
    refine lp rfl (p_mv rfl) ?_
    refine lg true rfl rfl rfl ?_
    refine r_bs R3 [0, 0] rfl rfl rfl (fun _ => by kernel_rfl) rfl (fun s4 => ?_)
    refine lg true rfl rfl rfl ?_
    obtain ⟨y5, hy5, hm⟩ := bindS hm
    refine r_call [] cf49 rfl rfl (ok_slices_Equal_int_int s3 y2.1 s4 [0, 0] hy5) rfl rfl (.cons (.row 1 rfl) (.cons (.row 0 rfl) .nil)) (fun _ => rfl) rfl (fun _ => ?_)
    refine lp rfl (p_pkt rfl rfl) ?_
    refine lp rfl (p_as rfl) ?_
    refine lj_seq ?_
    obtain rfl := Option.some.inj hm
    exact cj_rt () [] Tryd.results13 (.tmp rfl .nil) rfl rfl
  · have hm := ifB_f hb hm
    refine ls true rfl rfl rfl rfl ?_
    refine ls true rfl rfl rfl rfl ?_
    refine ls true rfl rfl rfl rfl ?_
    refine lp rfl (p_pkf rfl rfl) ?_
    refine lp rfl (p_as rfl) ?_
    refine lj_seq ?_
    obtain rfl := Option.some.inj hm
    exact cj_rt () [] Tryd.results13 (.tmp rfl .nil) rfl rfl
theorem ok_slices_Min_int_int (s0_ : SV) (a0 : (List Int)) {r : Int} (hm : m_slices_Min_int_int a0 = some r) :
    Ctr Tryd.prog 50 [s0_.v].toArray ([] : List Ent) [RdS R3 (SV.v s0_) a0] (X := Unit) (fun _ => .int .i64 r) (fun _ => []) := by
  unfold m_slices_Min_int_int at hm
  refine ctr_mk (vs := [(0, s0_.v)]) Tryd.func50 rfl Tryd.ntmps50 rfl ⟨rfl, trivial⟩ (fun w0 A => ?_)
  refine cj_seq ?_
  refine cj_reg ?_
  refine lp rfl (p_as rfl) ?_
  refine lj_seq ?_
  refine cj_seq ?_
  refine cj_seq ?_
  refine cj_reg ?_
  refine lp rfl (p_mv rfl) ?_
  refine lp rfl (p_len Tryd.underlying22 rfl (.ro 0 rfl)) ?_
  refine lp rfl (p_lss rfl rfl) ?_
  refine lj_seq ?_
  refine cj_if (b := decide ((a0.length : Int) < 1)) rfl (fun hb => ?_) (fun hb => ?_)
  · have hm := ifB_t hb hm
    cases hm
  · have hm := ifB_f hb hm
    refine cj_skip ?_
    refine nj_seq ?_
    refine cj_seq ?_
    refine cj_reg ?_
    refine lp rfl (p_mv rfl) ?_
    obtain ⟨e1, he1, hm⟩ := bindS hm
    refine lp rfl (p_idx Tryd.underlying22 ty3 rfl rfl (.ro 0 rfl) he1) ?_
    refine lp rfl (p_lde (o := 0) ty3 rfl rfl (.ro 0 rfl) (getI_spec he1).2 rfl) ?_
    refine lp rfl (p_as rfl) ?_
    refine lj_seq ?_
    refine cj_seq ?_
    refine cj_seq ?_
    refine cj_reg ?_
    refine lp rfl (p_as rfl) ?_
    refine lj_seq ?_
    obtain ⟨f5, hf5, hm⟩ := bindS hm
    refine cj_whileA (γ := Unit) hf5 () (fun u2 g3 => [(0, s0_.v), (2, .int .i64 0), (3, .int .i64 u2.1), (4, .int .i64 u2.2)]) (fun u2 g3 => Sat w0 (keys ([] : List Ent)) A [.ro (RdS R3 (SV.v s0_) a0)]) ⟨rfl, rfl, rfl, rfl, trivial⟩ (fun _ h => h.picks [0] rfl) (fun u2 g3 e => ?_) (fun aftk4 u2 g3 k4 hs J hJk4 hBk4 hX I cnk4 => ?_)
    · have hm := Flow.fin_b e hm
      refine nj_seq ?_
      refine cj_seq ?_
      refine cj_reg ?_
      refine lp rfl (p_mv rfl) ?_
      refine lp rfl (p_as rfl) ?_
      refine lj_seq ?_
      obtain rfl := Option.some.inj hm
      exact cj_rt () [] Tryd.results50 (.tmp rfl .nil) rfl rfl
    · have hRk4 : ∀ t, k4 = .ret t → some t = some r := fun t e => by rw [hX t e] at hm; exact hm
      have hm := hs
      refine cj_seq ?_
      refine cj_seq ?_
      refine cj_reg ?_
      refine lp rfl (p_mv rfl) ?_
      refine lp rfl (p_mv rfl) ?_
      refine lp rfl (p_len Tryd.underlying22 rfl (.ro 0 rfl)) ?_
      refine lp rfl (p_lss rfl rfl) ?_
      refine lj_seq ?_
      refine cj_if (b := decide (u2.2 < (a0.length : Int))) rfl (fun hb => ?_) (fun hb => ?_)
      · have hm := ifB_t hb hm
        refine cj_skip ?_
        refine nj_seq ?_
        refine cj_seq ?_
        refine cj_blk ?_
        refine cj_reg ?_
        refine lp rfl (p_mv rfl) ?_
        refine lp rfl (p_mv rfl) ?_
        refine lp rfl (p_mv rfl) ?_
        obtain ⟨e6, he6, hm⟩ := bindS hm
        refine lp rfl (p_idx Tryd.underlying22 ty3 rfl rfl (.ro 0 rfl) he6) ?_
        refine lp rfl (p_lde (o := 0) ty3 rfl rfl (.ro 0 rfl) (getI_spec he6).2 rfl) ?_
        refine lp rfl (p_min rfl rfl) ?_
        refine lp rfl (p_as rfl) ?_
        refine lj_nil ?_
        refine nj_blk ?_
        refine nj_seq ?_
        refine cj_reg ?_
        refine lp rfl (p_mv rfl) ?_
        refine lp rfl (p_add rfl rfl) ?_
        refine lp rfl (p_as rfl) ?_
        refine lj_nil ?_
        exact cnk4 _ _ (min u2.1 e6, w64 (u2.2 + 1)) () (hJk4 _ (Option.some.inj hm).symm) ⟨rfl, rfl, rfl, rfl, trivial⟩ (fun _ h => h.picks [0] rfl)
      · have hm := ifB_f hb hm
        refine cj_exit rfl ?_
        exact (aftk4 (u2.1, u2.2) () (hBk4 _ (Option.some.inj hm).symm)).sub ⟨rfl, rfl, rfl, rfl, trivial⟩ (fun _ h => h.picks [0] rfl)
theorem ok_slices_Max_int_int (s0_ : SV) (a0 : (List Int)) {r : Int} (hm : m_slices_Max_int_int a0 = some r) :
    Ctr Tryd.prog 51 [s0_.v].toArray ([] : List Ent) [RdS R3 (SV.v s0_) a0] (X := Unit) (fun _ => .int .i64 r) (fun _ => []) := by
  unfold m_slices_Max_int_int at hm
  refine ctr_mk (vs := [(0, s0_.v)]) Tryd.func51 rfl Tryd.ntmps51 rfl ⟨rfl, trivial⟩ (fun w0 A => ?_)
  refine cj_seq ?_
  refine cj_reg ?_
  refine lp rfl (p_as rfl) ?_
  refine lj_seq ?_
  refine cj_seq ?_
  refine cj_seq ?_
  refine cj_reg ?_
  refine lp rfl (p_mv rfl) ?_
  refine lp rfl (p_len Tryd.underlying22 rfl (.ro 0 rfl)) ?_
  refine lp rfl (p_lss rfl rfl) ?_
  refine lj_seq ?_
  refine cj_if (b := decide ((a0.length : Int) < 1)) rfl (fun hb => ?_) (fun hb => ?_)
  · have hm := ifB_t hb hm
    cases hm
  · have hm := ifB_f hb hm
    refine cj_skip ?_
    refine nj_seq ?_
    refine cj_seq ?_
    refine cj_reg ?_
    refine lp rfl (p_mv rfl) ?_
    obtain ⟨e1, he1, hm⟩ := bindS hm
    refine lp rfl (p_idx Tryd.underlying22 ty3 rfl rfl (.ro 0 rfl) he1) ?_
    refine lp rfl (p_lde (o := 0) ty3 rfl rfl (.ro 0 rfl) (getI_spec he1).2 rfl) ?_
    refine lp rfl (p_as rfl) ?_
    refine lj_seq ?_
    refine cj_seq ?_
    refine cj_seq ?_
    refine cj_reg ?_
    refine lp rfl (p_as rfl) ?_
    refine lj_seq ?_
    obtain ⟨f5, hf5, hm⟩ := bindS hm
    refine cj_whileA (γ := Unit) hf5 () (fun u2 g3 => [(0, s0_.v), (2, .int .i64 0), (3, .int .i64 u2.1), (4, .int .i64 u2.2)]) (fun u2 g3 => Sat w0 (keys ([] : List Ent)) A [.ro (RdS R3 (SV.v s0_) a0)]) ⟨rfl, rfl, rfl, rfl, trivial⟩ (fun _ h => h.picks [0] rfl) (fun u2 g3 e => ?_) (fun aftk4 u2 g3 k4 hs J hJk4 hBk4 hX I cnk4 => ?_)
    · have hm := Flow.fin_b e hm
      refine nj_seq ?_
      refine cj_seq ?_
      refine cj_reg ?_
      refine lp rfl (p_mv rfl) ?_
      refine lp rfl (p_as rfl) ?_
      refine lj_seq ?_
      obtain rfl := Option.some.inj hm
      exact cj_rt () [] Tryd.results51 (.tmp rfl .nil) rfl rfl
    · have hRk4 : ∀ t, k4 = .ret t → some t = some r := fun t e => by rw [hX t e] at hm; exact hm
      have hm := hs
      refine cj_seq ?_
      refine cj_seq ?_
      refine cj_reg ?_
      refine lp rfl (p_mv rfl) ?_
      refine lp rfl (p_mv rfl) ?_
      refine lp rfl (p_len Tryd.underlying22 rfl (.ro 0 rfl)) ?_
      refine lp rfl (p_lss rfl rfl) ?_
      refine lj_seq ?_
      refine cj_if (b := decide (u2.2 < (a0.length : Int))) rfl (fun hb => ?_) (fun hb => ?_)
      · have hm := ifB_t hb hm
        refine cj_skip ?_
        refine nj_seq ?_
        refine cj_seq ?_
        refine cj_blk ?_
        refine cj_reg ?_
        refine lp rfl (p_mv rfl) ?_
        refine lp rfl (p_mv rfl) ?_
        refine lp rfl (p_mv rfl) ?_
        obtain ⟨e6, he6, hm⟩ := bindS hm
        refine lp rfl (p_idx Tryd.underlying22 ty3 rfl rfl (.ro 0 rfl) he6) ?_
        refine lp rfl (p_lde (o := 0) ty3 rfl rfl (.ro 0 rfl) (getI_spec he6).2 rfl) ?_
        refine lp rfl (p_max rfl rfl) ?_
        refine lp rfl (p_as rfl) ?_
        refine lj_nil ?_
        refine nj_blk ?_
        refine nj_seq ?_
        refine cj_reg ?_
        refine lp rfl (p_mv rfl) ?_
        refine lp rfl (p_add rfl rfl) ?_
        refine lp rfl (p_as rfl) ?_
        refine lj_nil ?_
        exact cnk4 _ _ (max u2.1 e6, w64 (u2.2 + 1)) () (hJk4 _ (Option.some.inj hm).symm) ⟨rfl, rfl, rfl, rfl, trivial⟩ (fun _ h => h.picks [0] rfl)
      · have hm := ifB_f hb hm
        refine cj_exit rfl ?_
        exact (aftk4 (u2.1, u2.2) () (hBk4 _ (Option.some.inj hm).symm)).sub ⟨rfl, rfl, rfl, rfl, trivial⟩ (fun _ h => h.picks [0] rfl)
theorem ok_gleeref2_RangeFor (s0_ : SV) (a0 : (List TTone)) {r : TRange × Bool} (hm : m_gleeref2_RangeFor a0 = some r) :
    Ctr Tryd.prog 14 [s0_.v].toArray ([] : List Ent) [RdS R50 (SV.v s0_) a0] (X := Unit) (fun _ => .tuple [.agg (R37.enc r.1).toArray, .bool r.2].toArray) (fun _ => []) := by
  unfold m_gleeref2_RangeFor at hm
  refine ctr_mk (vs := [(0, s0_.v)]) Tryd.func14 rfl Tryd.ntmps14 rfl ⟨rfl, trivial⟩ (fun w0 A => ?_)
  refine cj_seq ?_
  refine cj_reg ?_
  refine r_al ty37 rfl (fun b1 => ?_)
  refine lp rfl (p_as rfl) ?_
  refine lj_seq ?_
  refine cj_seq ?_
  refine cj_reg ?_
  refine lp rfl (p_as rfl) ?_
  refine lj_seq ?_
  refine cj_seq ?_
  refine cj_seq ?_
  refine cj_reg ?_
  refine lp rfl (p_mv rfl) ?_
  refine lp rfl (p_len Tryd.underlying28 rfl (.ro 1 rfl)) ?_
  refine lp rfl (p_mv rfl) ?_
  refine lj_seq ?_
  refine cj_nil R3 ?_
  obtain ⟨f9, hf9, hm⟩ := bindS hm
  refine cj_range (γ := SV) (m := (a0.length : Int)) hf9 nilS (fun u6 g7 => [(2, .pointer (some ⟨b1, 0, none⟩)), (3, .bool false), (4, g7.v), (7, s0_.v)]) (fun u6 g7 => Sat w0 (keys ([] : List Ent)) A [.box b1 37 [.int .i64 0, .int .i64 0], .ro (RdS R50 (SV.v s0_) a0), .row R3 (SV.v g7) u6]) ⟨rfl, rfl, rfl, rfl, rfl, rfl, trivial⟩ (fun _ h => h.picks [1, 1, 0] rfl) (nat_lt _) (fun _ h => (FactAt.get (F := RdS R50 (SV.v s0_) a0) (.ro 2 rfl) h).1) (fun _ _ => ⟨rfl, rfl, rfl, rfl⟩) ⟨rfl, rfl, rfl, rfl, rfl⟩ rfl rfl rfl (fun u6 g7 e => ?_) (fun aftk8 i2 x3 u6 g7 k8 hx4 hs J hJk8 hBk8 hX I cnk8 => ?_)
  · have hm := Flow.fin_b e hm
    refine nj_seq ?_
    refine cj_seq ?_
    refine cj_seq ?_
    refine cj_reg ?_
    refine lp rfl (p_mv rfl) ?_
    refine lp rfl (p_len Tryd.underlying22 rfl (.row 2 rfl)) ?_
    refine lp rfl (p_eql rfl rfl) ?_
    refine lj_seq ?_
    refine cj_if (b := (u6.length : Int) == 0) rfl (fun hb => ?_) (fun hb => ?_)
    · have hm := ifB_t hb hm
      refine cj_seq ?_
      refine cj_reg ?_
      refine lp rfl (p_bld [.int .i64 0, .int .i64 0] rfl (fun _ => by kernel_rfl)) ?_
      refine r_sb (vs := [.int .i64 0, .int .i64 0]) (j := 0) ty37 rfl rfl rfl rfl rfl rfl rfl ?_
      refine lp rfl (p_as rfl) ?_
      refine lj_seq ?_
      obtain rfl := Option.some.inj hm
      exact cj_rt () [] Tryd.results14 (.agg (k := 0) ty37 rfl rfl rfl (.tmp rfl .nil)) rfl rfl
    · have hm := ifB_f hb hm
      refine cj_skip ?_
      refine nj_seq ?_
      refine cj_seq ?_
      refine cj_reg ?_
      refine lp rfl (p_mv rfl) ?_
      obtain ⟨y16, hy16, hm⟩ := bindS hm
      refine r_call [] cf50 rfl rfl (ok_slices_Min_int_int g7 u6 hy16) rfl rfl (.cons (.row 2 rfl) .nil) (fun _ => rfl) rfl (fun _ => ?_)
      refine lp rfl (p_mv rfl) ?_
      obtain ⟨y17, hy17, hm⟩ := bindS hm
      refine r_call [] cf51 rfl rfl (ok_slices_Max_int_int g7 u6 hy17) rfl rfl (.cons (.row 2 rfl) .nil) (fun _ => rfl) rfl (fun _ => ?_)
      refine lp rfl (p_bld [.int .i64 y16, .int .i64 y17] rfl (fun _ => by kernel_rfl)) ?_
      refine r_sb (vs := [.int .i64 y16, .int .i64 y17]) (j := 0) ty37 rfl rfl rfl rfl rfl rfl rfl ?_
      refine lp rfl (p_as rfl) ?_
      refine lj_seq ?_
      obtain rfl := Option.some.inj hm
      exact cj_rt () [] Tryd.results14 (.agg (k := 0) ty37 rfl rfl rfl (.tmp rfl .nil)) rfl rfl
  · have hRk8 : ∀ t, k8 = .ret t → some t = some r := fun t e => by rw [hX t e] at hm; exact hm
    have hm := hs
    refine cj_seq ?_
    refine cj_reg ?_
    refine lp rfl (p_idx Tryd.underlying28 ty50 rfl rfl (.ro 1 rfl) (getI_nat.trans hx4)) ?_
    refine lp rfl (p_lea ty50 rfl (.ro 1 rfl) hx4) ?_
    refine r_al ty50 rfl (fun b11 => ?_)
    refine r_sb (vs := [.int .i64 x3.Note, .int .i64 x3.Long.Num, .int .i64 x3.Long.Den, .string x3.Text, .bool x3.Tied]) (j := 0) ty50 rfl rfl rfl rfl rfl rfl rfl ?_
    refine lj_seq ?_
    refine cj_seq ?_
    refine cj_reg ?_
    refine lp rfl (p_fab fl50_0 rfl) ?_
    refine lp rfl (p_lbs ty3 rfl (j := 0) rfl rfl) ?_
    refine lp rfl (p_neq rfl rfl) ?_
    refine lj_seq ?_
    refine cj_if (b := x3.Note != (-1)) rfl (fun hb => ?_) (fun hb => ?_)
    · have hm := ifB_t hb hm
      refine cj_reg ?_
      refine lp rfl (p_mv rfl) ?_
      refine lp rfl (p_fab fl50_0 rfl) ?_
      refine lp rfl (p_lbs ty3 rfl (j := 0) rfl rfl) ?_
      refine r_bs R3 [x3.Note] rfl rfl rfl (fun _ => by kernel_rfl) rfl (fun s12 => ?_)
      obtain ⟨q13, hq13, hm⟩ := bindS hm
      refine r_app (k := 4) Tryd.underlying22 ty3 rfl rfl rfl rfl (.row 0 rfl) hq13 rfl (fun s14 => ?_)
      refine lp rfl (p_as rfl) ?_
      refine lj_nil ?_
      refine nj_blk ?_
      exact cnk8 _ _ q13 s14 (hJk8 _ (Option.some.inj hm).symm) ⟨rfl, rfl, rfl, rfl, rfl, rfl, trivial⟩ (fun _ h => h.picks [2, 2, 2] rfl)
    · have hm := ifB_f hb hm
      refine cj_skip ?_
      refine nj_blk ?_
      exact cnk8 _ _ u6 g7 (hJk8 _ (Option.some.inj hm).symm) ⟨rfl, rfl, rfl, rfl, rfl, rfl, trivial⟩ (fun _ h => h.picks [1, 1, 1] rfl)
theorem ok_gleeref2_InBarsOf (s0_ : SV) (a0 : (List TBar)) (s1_ : SV) (a1 : (List TTone)) {r : (List (List TTone))} (hm : m_gleeref2_InBarsOf a0 a1 = some r) :
    Ctr Tryd.prog 16 [s0_.v, s1_.v].toArray ([] : List Ent) [RdS R75 (SV.v s0_) a0, RdS R50 (SV.v s1_) a1] (X := (SV × List ((List TTone) × SV))) (fun s => s.1.v) (fun s => [.row N28.R (SV.v s.1) s.2, .ro (Lk N28 r s.2)]) := by
  unfold m_gleeref2_InBarsOf at hm
  refine ctr_mk (vs := [(0, s0_.v), (1, s1_.v)]) Tryd.func16 rfl Tryd.ntmps16 rfl ⟨rfl, rfl, trivial⟩ (fun w0 A => ?_)
  refine cj_seq ?_
  refine cj_reg ?_
  refine lp rfl (p_as rfl) ?_
  refine lj_seq ?_
  refine cj_seq ?_
  refine cj_reg ?_
  refine lp rfl (p_as rfl) ?_
  refine lj_seq ?_
  refine cj_seq ?_
  refine cj_seq ?_
  refine cj_reg ?_
  refine lp rfl (p_mv rfl) ?_
  refine lp rfl (p_len Tryd.underlying26 rfl (.ro 0 rfl)) ?_
  refine lp rfl (p_mv rfl) ?_
  refine lj_seq ?_
  refine cj_fact (F := Lk N28 [] []) (.nilL N28) ?_
  refine cj_nil N28.R ?_
  obtain ⟨f8, hf8, hm⟩ := bindS hm
  refine cj_range (γ := (SV × SV × List ((List TTone) × SV))) (m := (a0.length : Int)) hf8 (s1_, nilS, []) (fun u5 g6 => [(1, g6.1.v), (4, .slice none 0 0), (5, g6.2.1.v), (10, s0_.v)]) (fun u5 g6 => Sat w0 (keys ([] : List Ent)) A [.ro (RdS R75 (SV.v s0_) a0), .ro (RdS R50 (SV.v g6.1) u5.1), .row N28.R (SV.v g6.2.1) g6.2.2, .ro (Lk N28 u5.2 g6.2.2)]) ⟨rfl, rfl, rfl, rfl, rfl, rfl, trivial⟩ (fun _ h => h.picks [2, 2, 0, 0] rfl) (nat_lt _) (fun _ h => (FactAt.get (F := RdS R75 (SV.v s0_) a0) (.ro 2 rfl) h).1) (fun _ _ => ⟨rfl, rfl, rfl, rfl⟩) ⟨rfl, rfl, rfl, rfl, rfl⟩ rfl rfl rfl (fun u5 g6 e => ?_) (fun aftk7 i1 x2 u5 g6 k7 hx3 hs J hJk7 hBk7 hX I cnk7 => ?_)
  · have hm := Flow.fin_b e hm
    refine nj_pure (F := Lk N28 u5.2 g6.2.2) (.ro 3 rfl) (fun _ h => h.1) (fun hLu5_K29 => ?_)
    refine nj_seq ?_
    refine cj_seq ?_
    refine cj_reg ?_
    refine lp rfl (p_mv rfl) ?_
    refine lp rfl (p_as rfl) ?_
    refine lj_seq ?_
    obtain rfl := Option.some.inj hm
    exact cj_rt (g6.2.1, g6.2.2) [2, 2] Tryd.results16 (.tmp rfl .nil) rfl rfl
  · have hRk7 : ∀ t, k7 = .ret t → some t = some r := fun t e => by rw [hX t e] at hm; exact hm
    have hm := hs
    refine cj_pure (F := Lk N28 u5.2 g6.2.2) (.ro 3 rfl) (fun _ h => h.1) (fun hLu5_K10 => ?_)
    refine cj_seq ?_
    refine cj_reg ?_
    refine lp rfl (p_idx Tryd.underlying26 ty75 rfl rfl (.ro 0 rfl) (getI_nat.trans hx3)) ?_
    refine lp rfl (p_lea ty75 rfl (.ro 0 rfl) hx3) ?_
    refine r_al ty75 rfl (fun b11 => ?_)
    refine r_sb (vs := [.int .i64 x2.Beats, .int .i64 x2.Unit, .int .i64 x2.Close, .int .i64 x2.Ending, .bool x2.Open]) (j := 0) ty75 rfl rfl rfl rfl rfl rfl rfl ?_
    refine lj_seq ?_
    refine cj_seq ?_
    refine cj_reg ?_
    refine lp rfl (p_lbw ty75 rfl (j := 0) rfl rfl) ?_
    obtain ⟨y12, hy12, hm⟩ := bindS hm
    refine r_call [] cf52 rfl rfl (ok_gleeref2_barUnits x2 hy12) rfl rfl .nil (fun _ => rfl) rfl (fun _ => ?_)
    refine lp rfl (p_as rfl) ?_
    refine lp rfl (p_as rfl) ?_
    refine lj_seq ?_
    refine cj_seq ?_
    obtain ⟨f16, hf16, hm⟩ := bindS hm
    refine cj_whileA (γ := Unit) hf16 () (fun u13 g14 => [(1, g6.1.v), (4, .slice none 0 0), (5, g6.2.1.v), (8, .int .i64 u13.1), (9, .int .i64 u13.2), (10, s0_.v), (11, .int .i64 (a0.length : Int)), (12, .int .i64 (i1 : Int))]) (fun u13 g14 => Sat w0 (keys ([] : List Ent)) A [.ro (RdS R75 (SV.v s0_) a0), .ro (RdS R50 (SV.v g6.1) u5.1), .row N28.R (SV.v g6.2.1) g6.2.2, .ro (Lk N28 u5.2 g6.2.2)]) ⟨rfl, rfl, rfl, rfl, rfl, rfl, rfl, rfl, trivial⟩ (fun _ h => h.picks [1, 1, 1, 1] rfl) (fun u13 g14 e => ?_) (fun aftk15 u13 g14 k15 hs J hJk15 hBk15 hX I cnk15 => ?_)
    · have hm := Flow.fin_b e hm
      refine nj_seq ?_
      refine cj_seq ?_
      refine cj_reg ?_
      refine lp rfl (p_mv rfl) ?_
      refine lp rfl (p_mv rfl) ?_
      refine lp rfl (p_mv rfl) ?_
      obtain ⟨q19, hq19, hm⟩ := bindS hm
      refine lp rfl (p_cut Tryd.underlying28 ty50 rfl rfl rfl rfl rfl (.ro 1 rfl) rfl rfl hq19) ?_
      obtain ⟨y20, hy20, hm⟩ := bindS hm
      refine r_call [] cf54 rfl rfl (ok_slices_Clone_api_Tone_api_Tone (g6.1.sub R50.sz (0 : Int).toNat u13.1.toNat) q19 hy20) rfl rfl (.cons (.imp (.ro 1 rfl) (fun _ h => h.cut hq19)) .nil) (fun _ => rfl) rfl (fun s21 => ?_)
      refine r_fz 0 rfl ?_
      refine r_fact (F := Lk N28 [y20] [(y20, s21)]) (.imp (.and (.ro 0 rfl) (.nilL N28)) (fun _ h => Lk.cons h.1 h.2)) ?_
      have hLs22 : (([(y20, s21)] : List ((List TTone) × SV)).map Prod.fst) = ([y20] : List (List TTone)) := rfl
      refine r_bs N28.R [(y20, s21)] rfl rfl rfl (fun _ => by kernel_rfl) rfl (fun s22 => ?_)
      obtain ⟨q23, hq23, hm⟩ := bindS hm
      refine r_fact (F := Lk N28 q23 (g6.2.2 ++ [(y20, s21)])) (.imp (.and (.ro 6 rfl) (.ro 1 rfl)) (fun _ h => Lk.app hq23 h.1 h.2)) ?_
      refine r_app (k := 6) Tryd.underlying30 ty28 rfl rfl rfl rfl (.row 1 rfl) (lk_app hq23 hLu5_K10 hLs22) rfl (fun s24 => ?_)
      refine lp rfl (p_as rfl) ?_
      refine lj_seq ?_
      refine cj_reg ?_
      refine lp rfl (p_mv rfl) ?_
      refine lp rfl (p_mv rfl) ?_
      obtain ⟨q26, hq26, hm⟩ := bindS hm
      refine lp rfl (p_cut Tryd.underlying28 ty50 rfl rfl rfl rfl rfl (.ro 5 rfl) rfl rfl hq26) ?_
      refine lp rfl (p_as rfl) ?_
      refine lj_nil ?_
      refine nj_blk ?_
      refine nj_fact (F := RdS R50 (SV.v (g6.1.sub R50.sz u13.1.toNat (u5.1.length : Int).toNat)) q26) (.imp (.ro 5 rfl) (fun _ h => h.cut hq26)) ?_
      exact cnk7 _ _ (q26, q23) ((g6.1.sub R50.sz u13.1.toNat (u5.1.length : Int).toNat), s24, (g6.2.2 ++ [(y20, s21)])) (hJk7 _ (Option.some.inj hm).symm) ⟨rfl, rfl, rfl, rfl, rfl, rfl, trivial⟩ (fun _ h => h.picks [5, 0, 5, 0] rfl)
    · have hRk15 : ∀ t, k15 = .ret t → some t = some k7 := fun t e => by rw [hX t e] at hm; exact hm
      have hm := hs
      refine cj_seq ?_
      refine cj_seq ?_
      refine cj_reg ?_
      refine lp rfl (p_mv rfl) ?_
      refine lp rfl (p_gtr rfl rfl) ?_
      refine lj_seq ?_
      refine cj_if (b := decide (u13.2 > 0)) rfl (fun hb => ?_) (fun hb => ?_)
      · have hm := ifB_t hb hm
        refine cj_skip ?_
        refine nj_seq ?_
        refine cj_blk ?_
        refine cj_seq ?_
        refine cj_reg ?_
        refine lp rfl (p_mv rfl) ?_
        refine lp rfl (p_mv rfl) ?_
        refine lp rfl (p_mv rfl) ?_
        obtain ⟨e17, he17, hm⟩ := bindS hm
        refine lp rfl (p_idx Tryd.underlying28 ty50 rfl rfl (.ro 1 rfl) he17) ?_
        refine lp rfl (p_fae fl50_1 rfl (.ro 1 rfl) (getI_spec he17).2) ?_
        refine lp rfl (p_lep (o := 1) ty48 rfl rfl (.ro 1 rfl) (getI_spec he17).2 (vs := [.int .i64 e17.Long.Num, .int .i64 e17.Long.Den]) rfl rfl) ?_
        obtain ⟨y18, hy18, hm⟩ := bindS hm
        refine r_call [] cf53 rfl rfl (ok_gleeref2_units e17.Long hy18) rfl rfl .nil (fun _ => rfl) rfl (fun _ => ?_)
        refine lp rfl (p_sub rfl rfl) ?_
        refine lp rfl (p_as rfl) ?_
        refine lj_seq ?_
        refine cj_reg ?_
        refine lp rfl (p_mv rfl) ?_
        refine lp rfl (p_add rfl rfl) ?_
        refine lp rfl (p_as rfl) ?_
        refine lj_nil ?_
        refine nj_blk ?_
        exact cnk15 _ _ (w64 (u13.1 + 1), w64 (u13.2 - y18)) () (hJk15 _ (Option.some.inj hm).symm) ⟨rfl, rfl, rfl, rfl, rfl, rfl, rfl, rfl, trivial⟩ (fun _ h => h.picks [0, 0, 0, 0] rfl)
      · have hm := ifB_f hb hm
        refine cj_exit rfl ?_
        exact (aftk15 (u13.1, u13.2) () (hBk15 _ (Option.some.inj hm).symm)).sub ⟨rfl, rfl, rfl, rfl, rfl, rfl, rfl, rfl, trivial⟩ (fun _ h => h.picks [0, 0, 0, 0] rfl)
theorem ok_slices_Equal_api_Tone_api_Tone (s0_ : SV) (a0 : (List TTone)) (s1_ : SV) (a1 : (List TTone)) {r : Bool} (hm : m_slices_Equal_api_Tone_api_Tone a0 a1 = some r) :
    Ctr Tryd.prog 17 [s0_.v, s1_.v].toArray ([] : List Ent) [RdS R50 (SV.v s0_) a0, RdS R50 (SV.v s1_) a1] (X := Unit) (fun _ => .bool r) (fun _ => []) := by
  unfold m_slices_Equal_api_Tone_api_Tone at hm
  refine ctr_mk (vs := [(0, s0_.v), (1, s1_.v)]) Tryd.func17 rfl Tryd.ntmps17 rfl ⟨rfl, rfl, trivial⟩ (fun w0 A => ?_)
  refine cj_seq ?_
  refine cj_reg ?_
  refine lp rfl (p_as rfl) ?_
  refine lj_seq ?_
  refine cj_seq ?_
  refine cj_seq ?_
  refine cj_reg ?_
  refine lp rfl (p_mv rfl) ?_
  refine lp rfl (p_len Tryd.underlying28 rfl (.ro 0 rfl)) ?_
  refine lp rfl (p_mv rfl) ?_
  refine lp rfl (p_len Tryd.underlying28 rfl (.ro 1 rfl)) ?_
  refine lp rfl (p_neq rfl rfl) ?_
  refine lj_seq ?_
  refine cj_if (b := (a0.length : Int) != (a1.length : Int)) rfl (fun hb => ?_) (fun hb => ?_)
  · have hm := ifB_t hb hm
    refine cj_seq ?_
    refine cj_reg ?_
    refine lp rfl (p_as rfl) ?_
    refine lj_seq ?_
    obtain rfl := Option.some.inj hm
    exact cj_rt () [] Tryd.results17 (.tmp rfl .nil) rfl rfl
  · have hm := ifB_f hb hm
    refine cj_skip ?_
    refine nj_seq ?_
    refine cj_seq ?_
    refine cj_seq ?_
    refine cj_reg ?_
    refine lp rfl (p_mv rfl) ?_
    refine lp rfl (p_len Tryd.underlying28 rfl (.ro 0 rfl)) ?_
    refine lp rfl (p_mv rfl) ?_
    refine lj_seq ?_
    obtain ⟨f7, hf7, hm⟩ := bindS hm
    refine cj_range (γ := Unit) (m := (a0.length : Int)) hf7 () (fun u4 g5 => [(0, s0_.v), (1, s1_.v), (4, .bool false)]) (fun u4 g5 => Sat w0 (keys ([] : List Ent)) A [.ro (RdS R50 (SV.v s0_) a0), .ro (RdS R50 (SV.v s1_) a1)]) ⟨rfl, rfl, rfl, rfl, rfl, trivial⟩ (fun _ h => h.picks [0, 0] rfl) (nat_lt _) (fun _ h => (FactAt.get (F := RdS R50 (SV.v s0_) a0) (.ro 0 rfl) h).1) (fun _ _ => ⟨rfl, rfl, rfl, rfl⟩) ⟨rfl, rfl, rfl, rfl, rfl⟩ rfl rfl rfl (fun u4 g5 e => ?_) (fun aftk6 i1 x2 u4 g5 k6 hx3 hs J hJk6 hBk6 hX I cnk6 => ?_)
    · have hm := Flow.fin_b e hm
      refine nj_seq ?_
      refine cj_seq ?_
      refine cj_reg ?_
      refine lp rfl (p_as rfl) ?_
      refine lj_seq ?_
      obtain rfl := Option.some.inj hm
      exact cj_rt () [] Tryd.results17 (.tmp rfl .nil) rfl rfl
    · have hRk6 : ∀ t, k6 = .ret t → some t = some r := fun t e => by rw [hX t e] at hm; exact hm
      have hm := hs
      refine cj_seq ?_
      refine cj_reg ?_
      refine lp rfl (p_mv rfl) ?_
      refine lp rfl (p_as rfl) ?_
      refine lj_seq ?_
      refine cj_seq ?_
      refine cj_quiet (by kernel_rfl) (by kernel_rfl) ?_
      refine q_p rfl (p_mv rfl) ?_
      refine q_p rfl (p_mv rfl) ?_
      refine q_p rfl (p_idx Tryd.underlying28 ty50 rfl rfl (.ro 0 rfl) (getI_nat.trans hx3)) ?_
      refine q_p rfl (p_lea ty50 rfl (.ro 0 rfl) hx3) ?_
      refine q_p rfl (p_mv rfl) ?_
      refine q_p rfl (p_mv rfl) ?_
      obtain ⟨e8, he8, hm⟩ := bindS hm
      refine q_p rfl (p_idx Tryd.underlying28 ty50 rfl rfl (.ro 1 rfl) he8) ?_
      refine q_p rfl (p_lea ty50 rfl (.ro 1 rfl) (getI_spec he8).2) ?_
      refine q_p rfl (p_nest (by kernel_rfl) rfl rfl (eqst50 x2 e8)) ?_
      refine q_nil ?_
      refine nj_seq ?_
      refine cj_if (b := !(decide (x2 = e8))) rfl (fun hb => ?_) (fun hb => ?_)
      · have hm := ifB_t hb hm
        refine cj_seq ?_
        refine cj_reg ?_
        refine lp rfl (p_as rfl) ?_
        refine lj_seq ?_
        have hm := hRk6 _ (Option.some.inj hm).symm
        obtain rfl := Option.some.inj hm
        exact cj_rt () [] Tryd.results17 (.tmp rfl .nil) rfl rfl
      · have hm := ifB_f hb hm
        refine cj_skip ?_
        refine nj_blk ?_
        exact cnk6 _ _ () () (hJk6 _ (Option.some.inj hm).symm) ⟨rfl, rfl, rfl, rfl, rfl, trivial⟩ (fun _ h => h.picks [0, 0] rfl)
theorem ok_slices_EqualFunc_api_Tone_api_Tone_api_Tone_api_Tone__slices_Equal_api_Tone_api_Tone (s0_ : SV) (xg0_ : List ((List TTone) × SV)) (a0 : (List (List TTone))) (s1_ : SV) (xg1_ : List ((List TTone) × SV)) (a1 : (List (List TTone))) {r : Bool} (hm : m_slices_EqualFunc_api_Tone_api_Tone_api_Tone_api_Tone__slices_Equal_api_Tone_api_Tone a0 a1 = some r) :
    Ctr Tryd.prog 15 [s0_.v, s1_.v, .func (.func 17) #[] [].toArray].toArray ([] : List Ent) [Lk N28 a0 xg0_, RdS N28.R (SV.v s0_) xg0_, Lk N28 a1 xg1_, RdS N28.R (SV.v s1_) xg1_] (X := Unit) (fun _ => .bool r) (fun _ => []) := by
  unfold m_slices_EqualFunc_api_Tone_api_Tone_api_Tone_api_Tone__slices_Equal_api_Tone_api_Tone at hm
  refine ctr_mk (vs := [(0, s0_.v), (1, s1_.v), (2, .func (.func 17) #[] [].toArray)]) Tryd.func15 rfl Tryd.ntmps15 rfl ⟨rfl, rfl, rfl, trivial⟩ (fun w0 A => ?_)
  refine cj_pure (F := Lk N28 a0 xg0_) (.ro 0 rfl) (fun _ h => h.1) (fun hL0_ => ?_)
  refine cj_pure (F := Lk N28 a1 xg1_) (.ro 2 rfl) (fun _ h => h.1) (fun hL1_ => ?_)
  refine cj_seq ?_
  refine cj_reg ?_
  refine lp rfl (p_as rfl) ?_
  refine lj_seq ?_
  refine cj_seq ?_
  refine cj_seq ?_
  refine cj_reg ?_
  refine lp rfl (p_mv rfl) ?_
  refine lp rfl (p_lenG hL0_ Tryd.underlying30 rfl (.ro 1 rfl)) ?_
  refine lp rfl (p_mv rfl) ?_
  refine lp rfl (p_lenG hL1_ Tryd.underlying30 rfl (.ro 3 rfl)) ?_
  refine lp rfl (p_neq rfl rfl) ?_
  refine lj_seq ?_
  refine cj_if (b := (a0.length : Int) != (a1.length : Int)) rfl (fun hb => ?_) (fun hb => ?_)
  · have hm := ifB_t hb hm
    refine cj_seq ?_
    refine cj_reg ?_
    refine lp rfl (p_as rfl) ?_
    refine lj_seq ?_
    obtain rfl := Option.some.inj hm
    exact cj_rt () [] Tryd.results15 (.tmp rfl .nil) rfl rfl
  · have hm := ifB_f hb hm
    refine cj_skip ?_
    refine nj_seq ?_
    refine cj_seq ?_
    refine cj_seq ?_
    refine cj_reg ?_
    refine lp rfl (p_mv rfl) ?_
    refine lp rfl (p_lenG hL0_ Tryd.underlying30 rfl (.ro 1 rfl)) ?_
    refine lp rfl (p_mv rfl) ?_
    refine lj_seq ?_
    obtain ⟨f7, hf7, hm⟩ := bindS hm
    refine cj_range (γ := Unit) (m := (a0.length : Int)) hf7 () (fun u4 g5 => [(1, s1_.v), (2, .func (.func 17) #[] [].toArray), (6, .bool false), (15, s0_.v)]) (fun u4 g5 => Sat w0 (keys ([] : List Ent)) A [.ro (Lk N28 a0 xg0_), .ro (RdS N28.R (SV.v s0_) xg0_), .ro (Lk N28 a1 xg1_), .ro (RdS N28.R (SV.v s1_) xg1_)]) ⟨rfl, rfl, rfl, rfl, rfl, rfl, trivial⟩ (fun _ h => h.picks [0, 0, 0, 0] rfl) (nat_lt _) (fun _ h => by have h1 := (FactAt.get (F := RdS N28.R (SV.v s0_) xg0_) (.ro 1 rfl) h).1; rw [lk_len hL0_] at h1; exact h1) (fun _ _ => ⟨rfl, rfl, rfl, rfl⟩) ⟨rfl, rfl, rfl, rfl, rfl⟩ rfl rfl rfl (fun u4 g5 e => ?_) (fun aftk6 i1 x2 u4 g5 k6 hx3 hs J hJk6 hBk6 hX I cnk6 => ?_)
    · have hm := Flow.fin_b e hm
      refine nj_seq ?_
      refine cj_seq ?_
      refine cj_reg ?_
      refine lp rfl (p_as rfl) ?_
      refine lj_seq ?_
      obtain rfl := Option.some.inj hm
      exact cj_rt () [] Tryd.results15 (.tmp rfl .nil) rfl rfl
    · have hRk6 : ∀ t, k6 = .ret t → some t = some r := fun t e => by rw [hX t e] at hm; exact hm
      have hm := hs
      refine cj_seq ?_
      refine cj_reg ?_
      refine lp rfl (p_mv rfl) ?_
      obtain ⟨gx2, hx3G⟩ := lk_get hL0_ hx3
      refine lp rfl (p_idx Tryd.underlying30 ty28 rfl rfl (.ro 1 rfl) (getI_nat.trans hx3G)) ?_
      refine lp rfl (p_lde (o := 0) ty28 rfl rfl (.ro 1 rfl) hx3G rfl) ?_
      refine lp rfl (p_as rfl) ?_
      refine lp rfl (p_as rfl) ?_
      refine lj_seq ?_
      refine cj_seq ?_
      refine cj_reg ?_
      refine lp rfl (p_mv rfl) ?_
      refine lp rfl (p_mv rfl) ?_
      obtain ⟨e8, he8, hm⟩ := bindS hm
      obtain ⟨ge8, he8G⟩ := lk_getI hL1_ he8
      refine lp rfl (p_idx Tryd.underlying30 ty28 rfl rfl (.ro 3 rfl) he8G) ?_
      refine lp rfl (p_lde (o := 0) ty28 rfl rfl (.ro 3 rfl) (getI_spec he8G).2 rfl) ?_
      refine lp rfl (p_as rfl) ?_
      refine lj_seq ?_
      refine cj_seq ?_
      refine cj_reg ?_
      refine lp rfl (p_mv rfl) ?_
      refine lp rfl (p_mv rfl) ?_
      refine lp rfl (p_mv rfl) ?_
      obtain ⟨y9, hy9, hm⟩ := bindS hm
      refine r_call [] cf17 rfl rfl (ok_slices_Equal_api_Tone_api_Tone gx2 x2 ge8 e8 hy9) rfl rfl (.cons (.imp (.ro 0 rfl) (fun _ h => (Lk.at_ h hx3G))) (.cons (.imp (.ro 2 rfl) (fun _ h => (Lk.at_ h (getI_spec he8G).2))) .nil)) (fun _ => rfl) rfl (fun _ => ?_)
      refine lp rfl (p_not rfl) ?_
      refine lj_seq ?_
      refine cj_if (b := !y9) rfl (fun hb => ?_) (fun hb => ?_)
      · have hm := ifB_t hb hm
        refine cj_seq ?_
        refine cj_reg ?_
        refine lp rfl (p_as rfl) ?_
        refine lj_seq ?_
        have hm := hRk6 _ (Option.some.inj hm).symm
        obtain rfl := Option.some.inj hm
        exact cj_rt () [] Tryd.results15 (.tmp rfl .nil) rfl rfl
      · have hm := ifB_f hb hm
        refine cj_skip ?_
        refine nj_blk ?_
        exact cnk6 _ _ () () (hJk6 _ (Option.some.inj hm).symm) ⟨rfl, rfl, rfl, rfl, rfl, rfl, trivial⟩ (fun _ h => h.picks [0, 0, 0, 0] rfl)
theorem ok_gleeref2_untied (s0_ : SV) (a0 : (List TTone)) {r : (List TTone) × (List TTone)} (hm : m_gleeref2_untied a0 = some r) :
    Ctr Tryd.prog 56 [s0_.v].toArray [.row R50 (SV.v s0_) a0] [] (X := SV) (fun s => s.v) (fun s => [.row R50 (SV.v s) r.1]) := by
  unfold m_gleeref2_untied at hm
  refine ctr_mk (vs := [(0, s0_.v)]) Tryd.func56 rfl Tryd.ntmps56 rfl ⟨rfl, trivial⟩ (fun w0 A => ?_)
  refine cj_seq ?_
  refine cj_reg ?_
  refine lp rfl (p_as rfl) ?_
  refine lj_seq ?_
  refine cj_seq ?_
  refine cj_seq ?_
  refine cj_reg ?_
  refine lp rfl (p_mv rfl) ?_
  refine lp rfl (p_len Tryd.underlying28 rfl (.row 0 rfl)) ?_
  refine lp rfl (p_mv rfl) ?_
  refine lj_seq ?_
  obtain ⟨f7, hf7, hm⟩ := bindS hm
  refine cj_range (γ := Unit) (m := (a0.length : Int)) hf7 () (fun u4 g5 => [(0, s0_.v), (2, .slice none 0 0)]) (fun u4 g5 => Sat w0 (keys [.row R50 (SV.v s0_) a0]) A [.row R50 (SV.v s0_) u4]) ⟨rfl, rfl, rfl, rfl, trivial⟩ (fun _ h => h.picks [0] rfl) (nat_lt _) (fun _ h => (FactAt.get (F := RdS R50 (SV.v s0_) a0) (.row 0 rfl) h).1) (fun _ _ => ⟨rfl, rfl, rfl, rfl⟩) ⟨rfl, rfl, rfl, rfl, rfl⟩ rfl rfl rfl (fun u4 g5 e => ?_) (fun aftk6 i1 x2 u4 g5 k6 hx3 hs J hJk6 hBk6 hX I cnk6 => ?_)
  · have hm := Flow.fin_b e hm
    refine nj_seq ?_
    refine cj_seq ?_
    refine cj_reg ?_
    refine lp rfl (p_mv rfl) ?_
    refine lp rfl (p_as rfl) ?_
    refine lj_seq ?_
    obtain rfl := Option.some.inj hm
    exact cj_rt s0_ [0] Tryd.results56 (.tmp rfl .nil) rfl rfl
  · have hRk6 : ∀ t, k6 = .ret t → some t = some r := fun t e => by rw [hX t e] at hm; exact hm
    have hm := hs
    refine cj_seq ?_
    refine cj_reg ?_
    refine lp rfl (p_mv rfl) ?_
    refine lp rfl (p_as rfl) ?_
    refine lj_seq ?_
    refine cj_seq ?_
    refine cj_quiet (by kernel_rfl) (by kernel_rfl) ?_
    refine q_p rfl (p_mv rfl) ?_
    refine q_p rfl (p_mv rfl) ?_
    refine q_p rfl (p_len Tryd.underlying28 rfl (.row 0 rfl)) ?_
    refine q_p rfl (p_sub rfl rfl) ?_
    refine q_p rfl (p_eql rfl rfl) ?_
    refine q_p rfl (p_mv rfl) ?_
    refine q_case (i := 14) ((i1 : Int) == (w64 ((u4.length : Int) - 1))) rfl (fun hb => ?_) (fun hb => ?_)
    · have hm := ifB_t hb hm
      refine q_s false rfl rfl rfl rfl ?_
      refine q_s false rfl rfl rfl rfl ?_
      refine q_s false rfl rfl rfl rfl ?_
      refine q_s false rfl rfl rfl rfl ?_
      refine q_s false rfl rfl rfl rfl ?_
      refine q_s false rfl rfl rfl rfl ?_
      refine q_s false rfl rfl rfl rfl ?_
      refine q_s false rfl rfl rfl rfl ?_
      refine q_s false rfl rfl rfl rfl ?_
      refine q_s false rfl rfl rfl rfl ?_
      refine q_s false rfl rfl rfl rfl ?_
      refine q_p rfl (p_pkt rfl rfl) ?_
      refine q_nil ?_
      refine nj_seq ?_
      refine cj_if_t rfl ?_
      refine cj_reg ?_
      refine lp rfl (p_mv rfl) ?_
      refine lp rfl (p_mv rfl) ?_
      obtain ⟨e8, he8, hm⟩ := bindS hm
      refine lp rfl (p_idx Tryd.underlying28 ty50 rfl rfl (.row 0 rfl) he8) ?_
      refine lp rfl (p_fae fl50_3 rfl (.row 0 rfl) (getI_spec he8).2) ?_
      refine r_ste (k := 0) (o := 4) (vs := [.bool false]) ty4 rfl rfl rfl rfl rfl rfl rfl (getI_spec he8).2 (TTone.mk e8.Note e8.Long e8.Text false) rfl rfl ?_
      refine lj_nil ?_
      refine nj_blk ?_
      exact cnk6 _ _ (u4.set ((i1 : Int).toNat) (TTone.mk e8.Note e8.Long e8.Text false)) () (hJk6 _ (Option.some.inj hm).symm) ⟨rfl, rfl, rfl, rfl, trivial⟩ (fun _ h => h.picks [0] rfl)
    · have hm := ifB_f hb hm
      refine q_g false rfl rfl rfl ?_
      refine q_p rfl (p_mv rfl) ?_
      refine q_g false rfl rfl rfl ?_
      refine q_p rfl (p_mv rfl) ?_
      refine q_g false rfl rfl rfl ?_
      obtain ⟨e9, he9, hm⟩ := bindS hm
      refine q_p rfl (p_idx Tryd.underlying28 ty50 rfl rfl (.row 0 rfl) he9) ?_
      refine q_g false rfl rfl rfl ?_
      refine q_p rfl (p_lea ty50 rfl (.row 0 rfl) (getI_spec he9).2) ?_
      refine q_g false rfl rfl rfl ?_
      refine q_p rfl (p_mv rfl) ?_
      refine q_g false rfl rfl rfl ?_
      refine q_p rfl (p_mv rfl) ?_
      refine q_g false rfl rfl rfl ?_
      refine q_p rfl (p_add rfl rfl) ?_
      refine q_g false rfl rfl rfl ?_
      obtain ⟨e10, he10, hm⟩ := bindS hm
      refine q_p rfl (p_idx Tryd.underlying28 ty50 rfl rfl (.row 0 rfl) he10) ?_
      refine q_g false rfl rfl rfl ?_
      refine q_p rfl (p_lea ty50 rfl (.row 0 rfl) (getI_spec he10).2) ?_
      refine q_g false rfl rfl rfl ?_
      obtain ⟨y11, hy11, hm⟩ := bindS hm
      refine q_call (.bool y11) cf82 rfl rfl (ok_gleeref2_tiesTo e9 e10 hy11) .nil (fun _ => rfl) (fun _ => rfl) rfl ?_
      refine q_g false rfl rfl rfl ?_
      refine q_p rfl (p_not rfl) ?_
      refine q_p rfl (p_pkf rfl rfl) ?_
      refine q_nil ?_
      refine nj_seq ?_
      refine cj_if (b := !y11) rfl (fun hb => ?_) (fun hb => ?_)
      · have hm := ifB_t hb hm
        refine cj_reg ?_
        refine lp rfl (p_mv rfl) ?_
        refine lp rfl (p_mv rfl) ?_
        obtain ⟨e12, he12, hm⟩ := bindS hm
        refine lp rfl (p_idx Tryd.underlying28 ty50 rfl rfl (.row 0 rfl) he12) ?_
        refine lp rfl (p_fae fl50_3 rfl (.row 0 rfl) (getI_spec he12).2) ?_
        refine r_ste (k := 0) (o := 4) (vs := [.bool false]) ty4 rfl rfl rfl rfl rfl rfl rfl (getI_spec he12).2 (TTone.mk e12.Note e12.Long e12.Text false) rfl rfl ?_
        refine lj_nil ?_
        refine nj_blk ?_
        exact cnk6 _ _ (u4.set ((i1 : Int).toNat) (TTone.mk e12.Note e12.Long e12.Text false)) () (hJk6 _ (Option.some.inj hm).symm) ⟨rfl, rfl, rfl, rfl, trivial⟩ (fun _ h => h.picks [0] rfl)
      · have hm := ifB_f hb hm
        refine cj_skip ?_
        refine nj_blk ?_
        exact cnk6 _ _ u4 () (hJk6 _ (Option.some.inj hm).symm) ⟨rfl, rfl, rfl, rfl, trivial⟩ (fun _ h => h.picks [0] rfl)
theorem ok_gleeref2_PlayedOf (s0_ : SV) (a0 : (List TBar)) (s1_ : SV) (a1 : (List TTone)) {r : (List TTone)} (hm : m_gleeref2_PlayedOf a0 a1 = some r) :
    Ctr Tryd.prog 18 [s0_.v, s1_.v].toArray ([] : List Ent) [RdS R75 (SV.v s0_) a0, RdS R50 (SV.v s1_) a1] (X := SV) (fun s => s.v) (fun s => [.row R50 (SV.v s) r]) := by
  unfold m_gleeref2_PlayedOf at hm
  refine ctr_mk (vs := [(0, s0_.v), (1, s1_.v)]) Tryd.func18 rfl Tryd.ntmps18 rfl ⟨rfl, rfl, trivial⟩ (fun w0 A => ?_)
  refine cj_seq ?_
  refine cj_reg ?_
  refine lp rfl (p_as rfl) ?_
  refine lj_seq ?_
  refine cj_seq ?_
  refine cj_reg ?_
  refine lp rfl (p_mv rfl) ?_
  refine lp rfl (p_mv rfl) ?_
  obtain ⟨y1, hy1, hm⟩ := bindS hm
  refine r_callN [] cf16 rfl rfl (ok_gleeref2_InBarsOf s0_ a0 s1_ a1 hy1) rfl rfl (.cons (.ro 0 rfl) (.cons (.ro 1 rfl) .nil)) rfl (fun ⟨s2, xg3⟩ => ?_)
  refine r_pure (F := Lk N28 y1 xg3) (.ro 1 rfl) (fun _ h => h.1) (fun hLs2 => ?_)
  refine lp rfl (p_as rfl) ?_
  refine lj_seq ?_
  refine cj_seq ?_
  refine cj_reg ?_
  refine lp rfl (p_as rfl) ?_
  refine lj_seq ?_
  refine cj_seq ?_
  refine cj_seq ?_
  refine cj_reg ?_
  refine lp rfl (p_mv rfl) ?_
  obtain ⟨y4, hy4, hm⟩ := bindS hm
  refine r_call [] cf55 rfl rfl (ok_gleeref2_OrderOf s0_ a0 hy4) rfl rfl (.cons (.ro 2 rfl) .nil) (fun _ => rfl) rfl (fun s5 => ?_)
  refine lp rfl (p_len Tryd.underlying22 rfl (.row 0 rfl)) ?_
  refine lp rfl (p_mv rfl) ?_
  refine lj_seq ?_
  refine cj_nil R50 ?_
  obtain ⟨f13, hf13, hm⟩ := bindS hm
  refine cj_range (γ := SV) (m := (y4.length : Int)) hf13 nilS (fun u10 g11 => [(4, .slice none 0 0), (5, s2.v), (6, g11.v), (13, s5.v)]) (fun u10 g11 => Sat w0 (keys ([] : List Ent)) A [.row R3 (SV.v s5) y4, .row N28.R (SV.v s2) xg3, .ro (Lk N28 y1 xg3), .row R50 (SV.v g11) u10]) ⟨rfl, rfl, rfl, rfl, rfl, rfl, trivial⟩ (fun _ h => h.picks [1, 1, 1, 0] rfl) (nat_lt _) (fun _ h => (FactAt.get (F := RdS R3 (SV.v s5) y4) (.row 1 rfl) h).1) (fun _ _ => ⟨rfl, rfl, rfl, rfl⟩) ⟨rfl, rfl, rfl, rfl, rfl⟩ rfl rfl rfl (fun u10 g11 e => ?_) (fun aftk12 i6 x7 u10 g11 k12 hx8 hs J hJk12 hBk12 hX I cnk12 => ?_)
  · have hm := Flow.fin_b e hm
    refine nj_seq ?_
    refine cj_seq ?_
    refine cj_reg ?_
    refine lp rfl (p_mv rfl) ?_
    obtain ⟨y19, hy19, hm⟩ := bindS hm
    refine r_call [3] cf56 rfl rfl (ok_gleeref2_untied g11 u10 hy19) rfl rfl .nil (fun _ => rfl) rfl (fun s20 => ?_)
    refine lp rfl (p_as rfl) ?_
    refine lj_seq ?_
    obtain rfl := Option.some.inj hm
    exact cj_rt s20 [0] Tryd.results18 (.tmp rfl .nil) rfl rfl
  · have hRk12 : ∀ t, k12 = .ret t → some t = some r := fun t e => by rw [hX t e] at hm; exact hm
    have hm := hs
    refine cj_seq ?_
    refine cj_reg ?_
    refine lp rfl (p_idx Tryd.underlying22 ty3 rfl rfl (.row 0 rfl) (getI_nat.trans hx8)) ?_
    refine lp rfl (p_lde (o := 0) ty3 rfl rfl (.row 0 rfl) hx8 rfl) ?_
    refine lp rfl (p_as rfl) ?_
    refine lj_seq ?_
    refine cj_reg ?_
    refine lp rfl (p_mv rfl) ?_
    refine lp rfl (p_mv rfl) ?_
    refine lp rfl (p_mv rfl) ?_
    obtain ⟨e15, he15, hm⟩ := bindS hm
    obtain ⟨ge15, he15G⟩ := lk_getI hLs2 he15
    refine lp rfl (p_idx Tryd.underlying30 ty28 rfl rfl (.row 1 rfl) he15G) ?_
    refine lp rfl (p_lde (o := 0) ty28 rfl rfl (.row 1 rfl) (getI_spec he15G).2 rfl) ?_
    obtain ⟨q16, hq16, hm⟩ := bindS hm
    refine r_app (k := 3) Tryd.underlying28 ty50 rfl rfl rfl rfl (.imp (.ro 2 rfl) (fun _ h => (Lk.at_ h (getI_spec he15G).2))) hq16 rfl (fun s17 => ?_)
    refine lp rfl (p_as rfl) ?_
    refine lj_nil ?_
    refine nj_blk ?_
    exact cnk12 _ _ q16 s17 (hJk12 _ (Option.some.inj hm).symm) ⟨rfl, rfl, rfl, rfl, rfl, rfl, trivial⟩ (fun _ h => h.picks [0, 0, 0, 0] rfl)
theorem ok_slices_Backward_api_Tone_api_Tone (s : SV) : Ctr Tryd.prog 57 [s.v].toArray ([] : List Ent) [] (X := Nat) (fun b => .func (.func 88) #[] [.pointer (some ⟨b, 0, none⟩)].toArray) (fun b => [.box b 28 [s.v]]) := by
  refine ctr_mk (vs := [(0, s.v)]) Tryd.func57 rfl Tryd.ntmps57 rfl ⟨rfl, trivial⟩ (fun w0 A => ?_)
  refine cj_seq ?_
  refine cj_reg ?_
  refine r_bx (cs := [s.v]) rfl rfl rfl (fun b => ?_)
  refine lp rfl (p_as rfl) ?_
  refine lj_seq ?_
  refine cj_seq ?_
  refine cj_reg ?_
  refine lp rfl (p_fn (cv := [.pointer (some ⟨b, 0, none⟩)]) rfl) ?_
  refine lp rfl (p_as rfl) ?_
  refine lj_seq ?_
  exact cj_rt b [0] Tryd.results57 (.tmp rfl .nil) rfl rfl
theorem ok_slices_Reverse_api_Tone_api_Tone (s0_ : SV) (a0 : (List TTone)) {r : (List TTone)} (hm : m_slices_Reverse_api_Tone_api_Tone a0 = some r) :
    Ctr Tryd.prog 59 [s0_.v].toArray [.row R50 (SV.v s0_) a0] [] (X := Unit) (fun _ => .tuple [].toArray) (fun _ => [.row R50 (SV.v s0_) r]) := by
  unfold m_slices_Reverse_api_Tone_api_Tone at hm
  refine ctr_mk (vs := [(0, s0_.v)]) Tryd.func59 rfl Tryd.ntmps59 rfl ⟨rfl, trivial⟩ (fun w0 A => ?_)
  refine cj_seq ?_
  refine cj_reg ?_
  refine lp rfl (p_mv rfl) ?_
  refine lp rfl (p_len Tryd.underlying28 rfl (.row 0 rfl)) ?_
  refine lp rfl (p_sub rfl rfl) ?_
  refine lp rfl (p_as rfl) ?_
  refine lp rfl (p_as rfl) ?_
  refine lj_seq ?_
  obtain ⟨f4, hf4, hm⟩ := bindS hm
  refine cj_whileA (γ := Unit) hf4 () (fun u1 g2 => [(0, s0_.v), (2, .int .i64 u1.1), (3, .int .i64 u1.2.1)]) (fun u1 g2 => Sat w0 (keys [.row R50 (SV.v s0_) a0]) A [.row R50 (SV.v s0_) u1.2.2]) ⟨rfl, rfl, rfl, trivial⟩ (fun _ h => h.picks [0] rfl) (fun u1 g2 e => ?_) (fun aftk3 u1 g2 k3 hs J hJk3 hBk3 hX I cnk3 => ?_)
  · have hm := Flow.fin_b e hm
    obtain rfl := Option.some.inj hm
    exact nj_rt () [0] Tryd.results59 .nil rfl rfl
  · have hRk3 : ∀ t, k3 = .ret t → some t = some r := fun t e => by rw [hX t e] at hm; exact hm
    have hm := hs
    refine cj_seq ?_
    refine cj_seq ?_
    refine cj_reg ?_
    refine lp rfl (p_mv rfl) ?_
    refine lp rfl (p_mv rfl) ?_
    refine lp rfl (p_lss rfl rfl) ?_
    refine lj_seq ?_
    refine cj_if (b := decide (u1.1 < u1.2.1)) rfl (fun hb => ?_) (fun hb => ?_)
    · have hm := ifB_t hb hm
      refine cj_skip ?_
      refine nj_seq ?_
      refine cj_seq ?_
      refine cj_blk ?_
      refine cj_pure (F := RdS R50 (SV.v s0_) u1.2.2) (.row 0 rfl) (fun _ h => h.pures) (fun hq9 => ?_)
      obtain ⟨e5, he5, hm⟩ := bindS hm
      obtain ⟨e6, he6, hm⟩ := bindS hm
      obtain ⟨e7, he7, hm⟩ := bindS hm
      obtain ⟨e8, he8, hm⟩ := bindS hm
      refine cj_anyT [0, 1, 2, 3, 4, 5, 6, 7, 8, 9, 11, 12] [13, 14, 15] (Sat w0 (keys [.row R50 (SV.v s0_) a0]) A [.row R50 (SV.v s0_) u1.2.2]) (Sat w0 (keys [.row R50 (SV.v s0_) a0]) A []) (by kernel_rfl) ?_
      refine at_take2 0 rfl (by kernel_rfl) (by kernel_rfl) (by kernel_rfl) (fun _ h => h.picks [] rfl) rfl rfl (p_mv rfl) (fun _ h => h.picks [] rfl) ?_
      refine at_take2 1 rfl (by kernel_rfl) (by kernel_rfl) (by kernel_rfl) (fun _ h => h.picks [] rfl) rfl rfl (p_mv rfl) (fun _ h => h.picks [] rfl) ?_
      refine at_take2 2 rfl (by kernel_rfl) (by kernel_rfl) (by kernel_rfl) (fun _ h => h.picks [] rfl) rfl rfl (p_mv rfl) (fun _ h => h.picks [] rfl) ?_
      refine at_take2 3 rfl (by kernel_rfl) (by kernel_rfl) (by kernel_rfl) (fun _ h => h.picks [] rfl) rfl rfl (p_mv rfl) (fun _ h => h.picks [] rfl) ?_
      refine at_take2 4 rfl (by kernel_rfl) (by kernel_rfl) (by kernel_rfl) (fun _ h => h.picks [] rfl) rfl rfl (p_mv rfl) (fun _ h => h.picks [] rfl) ?_
      refine at_take2 5 rfl (by kernel_rfl) (by kernel_rfl) (by kernel_rfl) (fun _ h => h.picks [] rfl) rfl rfl (p_mv rfl) (fun _ h => h.picks [] rfl) ?_
      refine at_take1 6 rfl (by kernel_rfl) (by kernel_rfl) (by kernel_rfl) (by kernel_rfl) rfl rfl (p_idxP (R := R50) Tryd.underlying28 ty50 rfl rfl hq9 he5) (fun _ h => h.picks [0] rfl) ?_
      refine at_take1 7 rfl (by kernel_rfl) (by kernel_rfl) (by kernel_rfl) (by kernel_rfl) rfl rfl (p_lea ty50 rfl (.row 0 rfl) (getI_spec he5).2) (fun _ h => h.picks [0] rfl) ?_
      refine at_take2 8 rfl (by kernel_rfl) (by kernel_rfl) (by kernel_rfl) (fun _ h => h.picks [] rfl) rfl rfl (p_mv rfl) (fun _ h => h.picks [] rfl) ?_
      refine at_take2 9 rfl (by kernel_rfl) (by kernel_rfl) (by kernel_rfl) (fun _ h => h.picks [] rfl) rfl rfl (p_mv rfl) (fun _ h => h.picks [] rfl) ?_
      refine at_each (rs := [10]) (by kernel_rfl) (by decide) ?_
      refine (.cons rfl (fun I cnI => ?_) .nil)
      · refine lp rfl (p_idxP (R := R50) Tryd.underlying28 ty50 rfl rfl hq9 he6) ?_
        refine lj_nil ?_
        refine cnI _ _ (sof1 rfl rfl (fun _ h => h.picks [0] rfl)) ?_
        refine at_take1 11 rfl (by kernel_rfl) (by kernel_rfl) (by kernel_rfl) (by kernel_rfl) rfl rfl (p_lea ty50 rfl (.row 0 rfl) (getI_spec he6).2) (fun _ h => h.picks [0] rfl) ?_
        refine at_take1 12 rfl (by kernel_rfl) (by kernel_rfl) (by kernel_rfl) (by kernel_rfl) rfl rfl (p_idxP (R := R50) Tryd.underlying28 ty50 rfl rfl hq9 he7) (fun _ h => h.picks [0] rfl) ?_
        refine at_each (rs := [13]) (by kernel_rfl) (by decide) ?_
        refine (.cons rfl (fun I cnI => ?_) .nil)
        · refine r_ste (k := 0) (o := 0) (vs := [.int .i64 e5.Note, .int .i64 e5.Long.Num, .int .i64 e5.Long.Den, .string e5.Text, .bool e5.Tied]) ty50 rfl rfl rfl rfl rfl rfl rfl (getI_spec he7).2 e5 rfl rfl ?_
          refine lj_nil ?_
          refine cnI _ _ (sof2 rfl rfl (fun _ h => h.picks [] rfl)) ?_
          refine at_each (rs := [14]) (by kernel_rfl) (by decide) ?_
          refine (.cons rfl (fun I cnI => ?_) .nil)
          · refine lp rfl (p_idx Tryd.underlying28 ty50 rfl rfl (.row 0 rfl) he8) ?_
            refine lj_nil ?_
            refine cnI _ _ (sof2 rfl rfl (fun _ h => h.picks [] rfl)) ?_
            refine at_each (rs := [15]) (by kernel_rfl) (by decide) ?_
            refine (.cons rfl (fun I cnI => ?_) .nil)
            · refine r_ste (k := 0) (o := 0) (vs := [.int .i64 e6.Note, .int .i64 e6.Long.Num, .int .i64 e6.Long.Den, .string e6.Text, .bool e6.Tied]) ty50 rfl rfl rfl rfl rfl rfl rfl (getI_spec he8).2 e6 rfl rfl ?_
              refine lj_nil ?_
              refine cnI _ _ (sof2 rfl rfl (fun _ h => h.picks [] rfl)) ?_
              refine at_done (by kernel_rfl) ?_
              refine nj_blk ?_
              refine nj_seq ?_
              refine cj_reg ?_
              refine lp rfl (p_mv rfl) ?_
              refine lp rfl (p_add rfl rfl) ?_
              refine lp rfl (p_mv rfl) ?_
              refine lp rfl (p_sub rfl rfl) ?_
              refine lp rfl (p_as rfl) ?_
              refine lp rfl (p_as rfl) ?_
              refine lj_nil ?_
              exact cnk3 _ _ (w64 (u1.1 + 1), w64 (u1.2.1 - 1), ((u1.2.2.set u1.1.toNat e5).set u1.2.1.toNat e6)) () (hJk3 _ (Option.some.inj hm).symm) ⟨rfl, rfl, rfl, trivial⟩ (fun _ h => h.picks [0] rfl)
    · have hm := ifB_f hb hm
      refine cj_exit rfl ?_
      exact (aftk3 (u1.1, u1.2.1, u1.2.2) () (hBk3 _ (Option.some.inj hm).symm)).sub ⟨rfl, rfl, rfl, trivial⟩ (fun _ h => h.picks [0] rfl)
theorem ok_gleeref2_JoinedOf (s0_ : SV) (a0 : (List TTone)) {r : (List TTone)} (hm : m_gleeref2_JoinedOf a0 = some r) :
    Ctr Tryd.prog 19 [s0_.v].toArray ([] : List Ent) [RdS R50 (SV.v s0_) a0] (X := SV) (fun s => s.v) (fun s => [.row R50 (SV.v s) r]) := by
  unfold m_gleeref2_JoinedOf at hm
  refine ctr_mkM (vs := [(0, s0_.v)]) Tryd.func19 rfl Tryd.ntmps19 rfl ⟨rfl, trivial⟩ (fun w0 A => ?_)
  refine cj_seq ?_
  refine cj_reg ?_
  refine lp rfl (p_as rfl) ?_
  refine lj_seq ?_
  refine cj_seq ?_
  refine cj_reg ?_
  refine r_al ty28 rfl (fun b1 => ?_)
  refine lj_seq ?_
  refine cj_seq ?_
  refine cj_seq ?_
  refine cj_reg ?_
  refine lp rfl (p_mv rfl) ?_
  refine r_call [] cf57 rfl rfl (ok_slices_Backward_api_Tone_api_Tone s0_) rfl rfl .nil (fun _ => rfl) rfl (fun b2 => ?_)
  refine r_fzb 0 rfl ?_
  refine lj_seq ?_
  refine cj_nil R50 ?_
  obtain ⟨f13, hf13, hm⟩ := bindS hm
  refine cj_backward (γ := SV) (fn := Tryd.f88) Tryd.func88 rfl rfl rfl Tryd.underlying28 ty50 ty28 cf88 rfl rfl rfl (by kernel_rfl) (by kernel_rfl) hf13 (fun u10 g11 => [.ro (BoxS b2 28 [s0_.v]), .box b1 28 [g11.v], .ro (RdS R50 (SV.v s0_) a0), .row R50 (SV.v g11) u10]) nilS (fun _ h => h.picks [1, 1, 1, 0] rfl) (fun _ _ => (.ro 0 rfl)) (fun _ _ => (.ro 2 rfl)) (fun u10 g11 D30 aftk12 => ?_) (fun i3 x4 u10 g11 k12 hx5 hs o6 o7 o8 I I0 hendk12 hmidk12 => ?_)
  · have hm := Flow.fin_b aftk12 hm
    refine nj_seq ?_
    refine cj_seq ?_
    refine cj_reg ?_
    refine lp rfl (p_lbs ty28 rfl (j := 2) rfl rfl) ?_
    obtain ⟨y31, hy31, hm⟩ := bindS hm
    refine r_call [4] cf59 rfl rfl (ok_slices_Reverse_api_Tone_api_Tone g11 u10 hy31) rfl rfl .nil (fun _ => rfl) rfl (fun _ => ?_)
    refine lj_seq ?_
    refine cj_seq ?_
    refine cj_reg ?_
    refine lp rfl (p_lbs ty28 rfl (j := 3) rfl rfl) ?_
    refine lp rfl (p_as rfl) ?_
    refine lj_seq ?_
    obtain rfl := Option.some.inj hm
    exact cj_rtM 1 g11 [0] Tryd.results19 rfl (.tmp rfl .nil) rfl rfl
  · have hm := hs
    refine cj_reg ?_
    refine r_al ty50 rfl (fun b15 => ?_)
    refine r_sb (vs := [.int .i64 x4.Note, .int .i64 x4.Long.Num, .int .i64 x4.Long.Den, .string x4.Text, .bool x4.Tied]) (j := 0) ty50 rfl rfl rfl rfl rfl rfl rfl ?_
    refine lj_nil ?_
    refine hmidk12 _ _ [.box b15 50 [.int .i64 x4.Note, .int .i64 x4.Long.Num, .int .i64 x4.Long.Den, .string x4.Text, .bool x4.Tied], .ro (BoxS b2 28 [s0_.v]), .box b1 28 [g11.v], .ro (RdS R50 (SV.v s0_) a0), .row R50 (SV.v g11) u10] (fun _ h => h.picks [1, 1, 0, 0, 0, 0, 0] rfl) ?_
    refine cj_blk ?_
    refine cj_seq ?_
    refine cj_seq ?_
    refine cj_reg ?_
    refine lp rfl (p_lbs ty28 rfl (j := 4) rfl rfl) ?_
    refine lp rfl (p_len Tryd.underlying28 rfl (.row 6 rfl)) ?_
    refine lp rfl (p_as rfl) ?_
    refine lj_seq ?_
    refine cj_seq ?_
    refine cj_reg ?_
    refine lp rfl (p_fab fl50_3 rfl) ?_
    refine lp rfl (p_lbs ty4 rfl (j := 2) rfl rfl) ?_
    refine lj_seq ?_
    obtain ⟨k19, hk19, hm⟩ := bindS hm
    have hRk19 : ∀ t, k19 = .inr t → some t = some k12 := fun t e => by rw [e] at hm; exact hm
    refine cj_joinK (σ := (Int × Int × (List TTone))) (γ := SV) (fun u16 => k19 = .inl u16) (fun u16 g17 => [(2, .slice none 0 0), (3, .pointer (some ⟨b1, 0, none⟩)), (5, .pointer (some ⟨b15, 0, none⟩)), (8, .func (.func 88) #[] [.pointer (some ⟨b2, 0, none⟩)].toArray)]) (fun u16 g17 => Sat w0 (keys ([] : List Ent)) A [.obj o6, .obj o8, .box b15 50 [.int .i64 x4.Note, .int .i64 u16.1, .int .i64 u16.2.1, .string x4.Text, .bool x4.Tied], .ro (BoxS b2 28 [s0_.v]), .box b1 28 [g17.v], .ro (RdS R50 (SV.v s0_) a0), .row R50 (SV.v g17) u16.2.2]) (fun u16 g17 hq => ?_) (fun J cnk19 => ?_)
    · have hm := Sum.fin_l hq hm
      refine cj_seq ?_
      refine cj_reg ?_
      refine lp rfl (p_fab fl50_3 rfl) ?_
      refine r_sb (vs := [.bool false]) (j := 2) ty4 rfl rfl rfl rfl rfl rfl rfl ?_
      refine lj_seq ?_
      refine cj_reg ?_
      refine lp rfl (p_lbs ty28 rfl (j := 4) rfl rfl) ?_
      refine lp rfl (p_lbw ty50 rfl (j := 2) rfl rfl) ?_
      refine r_bs R50 [(TTone.mk x4.Note (TFraction.mk u16.1 u16.2.1) x4.Text false)] rfl rfl rfl (fun _ => by kernel_rfl) rfl (fun s26 => ?_)
      obtain ⟨q27, hq27, hm⟩ := bindS hm
      refine r_app (k := 7) Tryd.underlying28 ty50 rfl rfl rfl rfl (.row 0 rfl) hq27 rfl (fun s28 => ?_)
      refine r_sb (vs := [s28.v]) (j := 5) ty28 rfl rfl rfl rfl rfl rfl rfl ?_
      refine lj_nil ?_
      refine nj_blk ?_
      exact hendk12 _ _ q27 s28 (Option.some.inj hm).symm (fun _ h => h.picks [1, 1, 2, 2, 2, 2] rfl)
    · have hm := hk19
      refine cj_if (b := x4.Tied) rfl (fun hb => ?_) (fun hb => ?_)
      · have hm := ifB_t hb hm
        refine cj_seq ?_
        obtain ⟨y20, hy20, hm⟩ := bindS hm
        obtain ⟨e21, he21, hm⟩ := bindS hm
        obtain ⟨y22, hy22, hm⟩ := bindS hm
        obtain ⟨y23, hy23, hm⟩ := bindS hm
        refine cj_anyT [0, 1, 3, 4, 5, 6, 7, 8, 10, 12] [13] (Sat w0 (keys ([] : List Ent)) A [.obj o6, .obj o8, .box b15 50 [.int .i64 x4.Note, .int .i64 x4.Long.Num, .int .i64 x4.Long.Den, .string x4.Text, .bool x4.Tied], .ro (BoxS b2 28 [s0_.v]), .box b1 28 [g11.v], .ro (RdS R50 (SV.v s0_) a0), .row R50 (SV.v g11) u10]) (Sat w0 (keys ([] : List Ent)) A [.obj o6, .obj o8, .ro (BoxS b2 28 [s0_.v]), .box b1 28 [g11.v], .ro (RdS R50 (SV.v s0_) a0), .row R50 (SV.v g11) u10]) (by kernel_rfl) ?_
        refine at_take2 0 rfl (by kernel_rfl) (by kernel_rfl) (by kernel_rfl) (fun _ h => h.picks [0, 0, 1, 1, 1, 1] rfl) rfl rfl (p_fab fl50_1 rfl) (fun _ h => h.picks [0, 0, 1, 1, 1, 1] rfl) ?_
        refine at_take1 1 rfl (by kernel_rfl) (by kernel_rfl) (by kernel_rfl) (by kernel_rfl) rfl rfl (p_lba ty48 rfl (j := 2) rfl rfl) (fun _ h => h.picks [0, 0, 0, 0, 0, 0, 0] rfl) ?_
        refine at_take2 3 rfl (by kernel_rfl) (by kernel_rfl) (by kernel_rfl) (fun _ h => h.picks [0, 0, 1, 1, 1, 1] rfl) rfl rfl (p_lbs ty28 rfl (j := 3) rfl rfl) (fun _ h => h.picks [0, 0, 1, 1, 1, 1] rfl) ?_
        refine at_take2 4 rfl (by kernel_rfl) (by kernel_rfl) (by kernel_rfl) (fun _ h => h.picks [0, 0, 1, 1, 1, 1] rfl) rfl rfl (p_mv rfl) (fun _ h => h.picks [0, 0, 1, 1, 1, 1] rfl) ?_
        refine at_take2 5 rfl (by kernel_rfl) (by kernel_rfl) (by kernel_rfl) (fun _ h => h.picks [0, 0, 1, 1, 1, 1] rfl) rfl rfl (p_sub rfl rfl) (fun _ h => h.picks [0, 0, 1, 1, 1, 1] rfl) ?_
        refine at_take2 6 rfl (by kernel_rfl) (by kernel_rfl) (by kernel_rfl) (fun _ h => h.picks [0, 0, 1, 1, 1, 1] rfl) rfl rfl (p_idx Tryd.underlying28 ty50 rfl rfl (.row 5 rfl) he21) (fun _ h => h.picks [0, 0, 1, 1, 1, 1] rfl) ?_
        refine at_take2 7 rfl (by kernel_rfl) (by kernel_rfl) (by kernel_rfl) (fun _ h => h.picks [0, 0, 1, 1, 1, 1] rfl) rfl rfl (p_fae fl50_1 rfl (.row 5 rfl) (getI_spec he21).2) (fun _ h => h.picks [0, 0, 1, 1, 1, 1] rfl) ?_
        refine at_take2 8 rfl (by kernel_rfl) (by kernel_rfl) (by kernel_rfl) (fun _ h => h.picks [0, 0, 1, 1, 1, 1] rfl) rfl rfl (p_lep (o := 1) ty48 rfl rfl (.row 5 rfl) (getI_spec he21).2 (vs := [.int .i64 e21.Long.Num, .int .i64 e21.Long.Den]) rfl rfl) (fun _ h => h.picks [0, 0, 1, 1, 1, 1] rfl) ?_
        refine at_each (rs := [2]) (by kernel_rfl) (by decide) ?_
        refine (.cons rfl (fun I cnI => ?_) .nil)
        · refine r_call [] cf53 rfl rfl (ok_gleeref2_units x4.Long hy20) rfl rfl .nil (fun _ => rfl) rfl (fun _ => ?_)
          refine lj_nil ?_
          refine cnI _ _ (sof1 rfl rfl (fun _ h => h.picks [0, 0, 0, 0, 0, 0, 0] rfl)) ?_
          refine at_each (rs := [9]) (by kernel_rfl) (by decide) ?_
          refine (.cons rfl (fun I cnI => ?_) .nil)
          · refine r_call [] cf53 rfl rfl (ok_gleeref2_units e21.Long hy22) rfl rfl .nil (fun _ => rfl) rfl (fun _ => ?_)
            refine lj_nil ?_
            refine cnI _ _ (sof1 rfl rfl (fun _ h => h.picks [0, 0, 0, 0, 0, 0, 0] rfl)) ?_
            refine at_take2 10 rfl (by kernel_rfl) (by kernel_rfl) (by kernel_rfl) (fun _ h => h.picks [0, 0, 1, 1, 1, 1] rfl) rfl rfl (p_add rfl rfl) (fun _ h => h.picks [0, 0, 1, 1, 1, 1] rfl) ?_
            refine at_each (rs := [11]) (by kernel_rfl) (by decide) ?_
            refine (.cons rfl (fun I cnI => ?_) .nil)
            · refine r_call [] cf58 rfl rfl (ok_gleeref2_Lowest (w64 (y20 + y22)) 192 hy23) rfl rfl .nil (fun _ => rfl) rfl (fun _ => ?_)
              refine lj_nil ?_
              refine cnI _ _ (sof1 rfl rfl (fun _ h => h.picks [0, 0, 0, 0, 0, 0, 0] rfl)) ?_
              refine at_take2 12 rfl (by kernel_rfl) (by kernel_rfl) (by kernel_rfl) (fun _ h => h.picks [0, 0, 1, 1, 1, 1] rfl) rfl rfl (p_fab fl50_1 rfl) (fun _ h => h.picks [0, 0, 1, 1, 1, 1] rfl) ?_
              refine at_each (rs := [13]) (by kernel_rfl) (by decide) ?_
              refine (.cons rfl (fun I cnI => ?_) .nil)
              · refine r_sb (vs := [.int .i64 y23.Num, .int .i64 y23.Den]) (j := 2) ty48 rfl rfl rfl rfl rfl rfl rfl ?_
                refine lj_nil ?_
                refine cnI _ _ (sof2 rfl rfl (fun _ h => h.picks [0, 0, 1, 1, 1, 1] rfl)) ?_
                refine at_done (by kernel_rfl) ?_
                refine nj_seq ?_
                refine cj_reg ?_
                refine lp rfl (p_lbs ty28 rfl (j := 4) rfl rfl) ?_
                refine lp rfl (p_mv rfl) ?_
                refine lp rfl (p_sub rfl rfl) ?_
                obtain ⟨q25, hq25, hm⟩ := bindS hm
                refine lp rfl (p_cut Tryd.underlying28 ty50 rfl rfl rfl rfl rfl (.row 6 rfl) rfl rfl hq25) ?_
                refine r_sb (vs := [(g11.sub R50.sz (0 : Int).toNat (w64 ((u10.length : Int) - 1)).toNat).v]) (j := 4) ty28 rfl rfl rfl rfl rfl rfl rfl ?_
                refine lj_nil ?_
                refine nj_pre 6 rfl rfl hq25 ?_
                exact cnk19 _ _ (y23.Num, y23.Den, q25) (g11.sub R50.sz (0 : Int).toNat (w64 ((u10.length : Int) - 1)).toNat) (Option.some.inj hm).symm ⟨rfl, rfl, rfl, rfl, trivial⟩ (fun _ h => h.picks [0, 0, 0, 0, 0, 0, 0] rfl)
      · have hm := ifB_f hb hm
        refine cj_skip ?_
        exact cnk19 _ _ (x4.Long.Num, x4.Long.Den, u10) g11 (Option.some.inj hm).symm ⟨rfl, rfl, rfl, rfl, trivial⟩ (fun _ h => h.picks [0, 0, 0, 0, 0, 0, 0] rfl)
theorem ok_gleelaw2_TonesFill (s0_ : SV) (a0 : (List Int)) {r : Bool} (hm : m_gleelaw2_TonesFill a0 = some r) :
    Ctr Tryd.prog 3 [s0_.v].toArray ([] : List Ent) [RdS R3 (SV.v s0_) a0, UtfT] (X := Unit) (fun _ => .bool r) (fun _ => []) := by
  unfold m_gleelaw2_TonesFill at hm
  refine ctr_mk (vs := [(0, s0_.v)]) Tryd.func3 rfl Tryd.ntmps3 rfl ⟨rfl, trivial⟩ (fun w0 A => ?_)
  refine cj_seq ?_
  refine cj_reg ?_
  refine lp rfl (p_as rfl) ?_
  refine lj_seq ?_
  refine cj_seq ?_
  refine cj_reg ?_
  refine lp rfl (p_mv rfl) ?_
  refine lp rfl (p_bld [s0_.v, .int .i64 0] rfl (fun _ => by kernel_rfl)) ?_
  refine r_bx (cs := [s0_.v, .int .i64 0]) rfl rfl rfl (fun b1 => ?_)
  refine lp rfl (p_as rfl) ?_
  refine lj_seq ?_
  refine cj_seq ?_
  refine cj_reg ?_
  refine lp rfl (p_mv rfl) ?_
  obtain ⟨y2, hy2, hm⟩ := bindS hm
  refine r_call [0] cf5 rfl rfl (ok_gleemake_Stream_Bars b1 s0_ a0 0 hy2) rfl rfl (.cons (.ro 0 rfl) .nil) (fun _ => rfl) rfl (fun s3 => ?_)
  refine lp rfl (p_as rfl) ?_
  refine lj_seq ?_
  refine cj_seq ?_
  refine cj_reg ?_
  refine lp rfl (p_mv rfl) ?_
  refine lp rfl (p_mv rfl) ?_
  obtain ⟨y4, hy4, hm⟩ := bindS hm
  refine r_call [1] cf6 rfl rfl (ok_gleemake_Stream_Tones b1 s0_ a0 y2.2 s3 y2.1 hy4) rfl rfl (.cons (.ro 1 rfl) (.cons (.row 0 rfl) .nil)) (fun _ => rfl) rfl (fun s5 => ?_)
  refine lp rfl (p_as rfl) ?_
  refine lj_seq ?_
  refine cj_seq ?_
  refine cj_reg ?_
  refine lp rfl (p_mv rfl) ?_
  refine lp rfl (p_mv rfl) ?_
  refine r_fz 2 rfl ?_
  refine r_fz 1 rfl ?_
  obtain ⟨y6, hy6, hm⟩ := bindS hm
  refine r_callN [] cf7 rfl rfl (ok_piece_InBars s3 y2.1 s5 y4.1 hy6) rfl rfl (.cons (.ro 1 rfl) (.cons (.ro 0 rfl) (.cons (.ro 4 rfl) .nil))) rfl (fun ⟨s7, xg8⟩ => ?_)
  refine r_pure (F := Lk N28 y6.1 xg8) (.ro 1 rfl) (fun _ h => h.1) (fun hLs7 => ?_)
  refine lp rfl (p_mv rfl) ?_
  refine lp rfl (p_ext rfl rfl) ?_
  refine lp rfl (p_ext rfl rfl) ?_
  refine lp rfl (p_as rfl) ?_
  refine lp rfl (p_as rfl) ?_
  refine lj_seq ?_
  refine cj_seq ?_
  refine cj_reg ?_
  refine lp rfl (p_mv rfl) ?_
  refine lp rfl (p_mv rfl) ?_
  obtain ⟨y9, hy9, hm⟩ := bindS hm
  refine r_call [] cf8 rfl rfl (ok_piece_Played s3 y2.1 s5 y4.1 hy9) rfl rfl (.cons (.ro 3 rfl) (.cons (.ro 2 rfl) (.cons (.ro 6 rfl) .nil))) (fun _ => rfl) rfl (fun s10 => ?_)
  refine lp rfl (p_mv rfl) ?_
  refine lp rfl (p_ext rfl rfl) ?_
  refine lp rfl (p_ext rfl rfl) ?_
  refine lp rfl (p_as rfl) ?_
  refine lp rfl (p_as rfl) ?_
  refine lj_seq ?_
  refine cj_seq ?_
  refine cj_reg ?_
  refine lp rfl (p_mv rfl) ?_
  refine lp rfl (p_mv rfl) ?_
  obtain ⟨y11, hy11, hm⟩ := bindS hm
  refine r_call [] cf9 rfl rfl (ok_piece_Joined s3 y2.1 s5 y4.1 hy11) rfl rfl (.cons (.ro 4 rfl) (.cons (.ro 3 rfl) (.cons (.ro 7 rfl) .nil))) (fun _ => rfl) rfl (fun s12 => ?_)
  refine lp rfl (p_mv rfl) ?_
  refine lp rfl (p_ext rfl rfl) ?_
  refine lp rfl (p_ext rfl rfl) ?_
  refine lp rfl (p_as rfl) ?_
  refine lp rfl (p_as rfl) ?_
  refine lj_seq ?_
  refine cj_seq ?_
  refine cj_reg ?_
  refine lp rfl (p_mv rfl) ?_
  refine lp rfl (p_mv rfl) ?_
  obtain ⟨y13, hy13, hm⟩ := bindS hm
  refine r_call [] cf10 rfl rfl (ok_piece_RangeOf s3 y2.1 s5 y4.1 hy13) rfl rfl (.cons (.ro 5 rfl) (.cons (.ro 4 rfl) (.cons (.ro 8 rfl) .nil))) (fun _ => rfl) rfl (fun _ => ?_)
  refine lp rfl (p_mv rfl) ?_
  refine lp rfl (p_ext rfl rfl) ?_
  refine lp rfl (p_ext rfl rfl) ?_
  refine lp rfl (p_ext rfl rfl) ?_
  refine r_al ty37 rfl (fun b14 => ?_)
  refine r_sb (vs := [.int .i64 y13.1.Low, .int .i64 y13.1.High]) (j := 0) ty37 rfl rfl rfl rfl rfl rfl rfl ?_
  refine lp rfl (p_as rfl) ?_
  refine lp rfl (p_as rfl) ?_
  refine lj_seq ?_
  refine cj_seq ?_
  refine cj_reg ?_
  refine lp rfl (p_mv rfl) ?_
  refine lp rfl (p_mv rfl) ?_
  obtain ⟨y15, hy15, hm⟩ := bindS hm
  refine r_call [] cf11 rfl rfl (ok_gleeref2_TonesFault s3 y2.1 s5 y4.1 hy15) rfl rfl (.cons (.ro 6 rfl) (.cons (.ro 5 rfl) (.cons (.ro 9 rfl) .nil))) (fun _ => rfl) rfl (fun _ => ?_)
  refine lp rfl (p_as rfl) ?_
  refine lj_seq ?_
  refine cj_seq ?_
  refine cj_seq ?_
  refine cj_reg ?_
  obtain ⟨k18, hk18, hm⟩ := bindS hm
  have hRk18 : ∀ t, k18 = .inr t → some t = some r := fun t e => by rw [e] at hm; exact hm
  refine lj_join (σ := Bool) (γ := Unit) (fun u16 => k18 = .inl u16) (fun u16 g17 => [(2, .bool false), (4, s3.v), (5, s5.v), (6, s7.v), (8, s10.v), (10, s12.v), (12, .pointer (some ⟨b14, 0, none⟩)), (13, .bool y13.2.1), (15, .int .i64 y15), (78, .bool u16)]) (fun u16 g17 => Sat w0 (keys ([] : List Ent)) A [.box b14 37 [.int .i64 y13.1.Low, .int .i64 y13.1.High], .row R50 (SV.v s12) y11.1, .row R50 (SV.v s10) y9.1, .row N28.R (SV.v s7) xg8, .ro (Lk N28 y6.1 xg8), .ro (RdS R50 (SV.v s5) y4.1), .ro (RdS R75 (SV.v s3) y2.1), .ro UtfT]) (fun u16 g17 hq => ?_) (fun J cnk18 => ?_)
  · have hm := Sum.fin_l hq hm
    refine cj_if (b := u16) rfl (fun hb => ?_) (fun hb => ?_)
    · have hm := ifB_t hb hm
      refine cj_seq ?_
      refine cj_reg ?_
      refine lp rfl (p_as rfl) ?_
      refine lj_seq ?_
      obtain rfl := Option.some.inj hm
      exact cj_rt () [] Tryd.results3 (.tmp rfl .nil) rfl rfl
    · have hm := ifB_f hb hm
      refine cj_skip ?_
      refine nj_seq ?_
      refine cj_seq ?_
      refine cj_seq ?_
      refine cj_reg ?_
      refine lp rfl (p_mv rfl) ?_
      refine lp rfl (p_neq rfl rfl) ?_
      refine lj_seq ?_
      refine cj_if (b := y15 != 0) rfl (fun hb => ?_) (fun hb => ?_)
      · have hm := ifB_t hb hm
        refine cj_seq ?_
        refine cj_reg ?_
        obtain ⟨k22, hk22, hm⟩ := bindS hm
        have hRk22 : ∀ t, k22 = .inr t → some t = some r := fun t e => by rw [e] at hm; exact hm
        refine lj_join (σ := Bool) (γ := Unit) (fun u20 => k22 = .inl u20) (fun u20 g21 => [(2, .bool u20), (4, s3.v), (5, s5.v), (6, s7.v), (8, s10.v), (10, s12.v), (12, .pointer (some ⟨b14, 0, none⟩)), (13, .bool y13.2.1)]) (fun u20 g21 => Sat w0 (keys ([] : List Ent)) A [.box b14 37 [.int .i64 y13.1.Low, .int .i64 y13.1.High], .row R50 (SV.v s12) y11.1, .row R50 (SV.v s10) y9.1, .row N28.R (SV.v s7) xg8, .ro (Lk N28 y6.1 xg8), .ro (RdS R50 (SV.v s5) y4.1), .ro (RdS R75 (SV.v s3) y2.1), .ro UtfT]) (fun u20 g21 hq => ?_) (fun J cnk22 => ?_)
        · have hm := Sum.fin_l hq hm
          obtain rfl := Option.some.inj hm
          exact cj_rt () [] Tryd.results3 (.tmp rfl .nil) rfl rfl
        · have hm := hk22
          refine lp rfl (p_mv rfl) ?_
          refine lp rfl (p_lenG hLs7 Tryd.underlying30 rfl (.row 3 rfl)) ?_
          refine lp rfl (p_mv rfl) ?_
          refine lp rfl (p_len Tryd.underlying28 rfl (.row 2 rfl)) ?_
          refine lp rfl (p_add rfl rfl) ?_
          refine lp rfl (p_mv rfl) ?_
          refine lp rfl (p_len Tryd.underlying28 rfl (.row 1 rfl)) ?_
          refine lp rfl (p_add rfl rfl) ?_
          refine lp rfl (p_eql rfl rfl) ?_
          refine lp rfl (p_mv rfl) ?_
          refine lcase (i := 90) ((w64 ((w64 ((y6.1.length : Int) + (y9.1.length : Int))) + (y11.1.length : Int))) == 0) rfl (fun hb => ?_) (fun hb => ?_)
          · have hm := ifB_t hb hm
            refine lg true rfl rfl rfl ?_
            refine lp rfl (p_lbw ty37 rfl (j := 0) rfl rfl) ?_
            refine lg true rfl rfl rfl ?_
            refine lp rfl (p_bld [.int .i64 0, .int .i64 0] rfl (fun _ => by kernel_rfl)) ?_
            refine lg true rfl rfl rfl ?_
            refine lp rfl (p_eqst (by kernel_rfl) rfl rfl (eqst37 y13.1 (TRange.mk 0 0))) ?_
            refine lp rfl (p_pkt rfl rfl) ?_
            refine lp rfl (p_mv rfl) ?_
            refine lcase (i := 95) (decide (y13.1 = (TRange.mk 0 0))) rfl (fun hb => ?_) (fun hb => ?_)
            · have hm := ifB_t hb hm
              refine lg true rfl rfl rfl ?_
              refine lp rfl (p_mv rfl) ?_
              refine lg true rfl rfl rfl ?_
              refine lp rfl (p_not rfl) ?_
              refine lp rfl (p_pkt rfl rfl) ?_
              refine lp rfl (p_mv rfl) ?_
              refine lcase (i := 99) (!y13.2.1) rfl (fun hb => ?_) (fun hb => ?_)
              · have hm := ifB_t hb hm
                refine lg true rfl rfl rfl ?_
                obtain ⟨y23, hy23, hm⟩ := bindS hm
                refine r_call [] cf13 rfl rfl (ok_gleelaw2_written  hy23) rfl rfl .nil (fun _ => rfl) rfl (fun _ => ?_)
                refine lp rfl (p_pkt rfl rfl) ?_
                refine lp rfl (p_as rfl) ?_
                refine lj_nil ?_
                exact cnk22 _ _ y23 () (Option.some.inj hm).symm ⟨rfl, rfl, rfl, rfl, rfl, rfl, rfl, rfl, trivial⟩ (fun _ h => h.picks [0, 0, 0, 0, 0, 0, 0, 0] rfl)
              · have hm := ifB_f hb hm
                refine ls true rfl rfl rfl rfl ?_
                refine lp rfl (p_pkf rfl rfl) ?_
                refine lp rfl (p_as rfl) ?_
                refine lj_nil ?_
                exact cnk22 _ _ false () (Option.some.inj hm).symm ⟨rfl, rfl, rfl, rfl, rfl, rfl, rfl, rfl, trivial⟩ (fun _ h => h.picks [0, 0, 0, 0, 0, 0, 0, 0] rfl)
            · have hm := ifB_f hb hm
              refine ls true rfl rfl rfl rfl ?_
              refine ls true rfl rfl rfl rfl ?_
              refine lp rfl (p_pkf rfl rfl) ?_
              refine lp rfl (p_mv rfl) ?_
              refine ls true rfl rfl rfl rfl ?_
              refine lp rfl (p_pkf rfl rfl) ?_
              refine lp rfl (p_as rfl) ?_
              refine lj_nil ?_
              exact cnk22 _ _ false () (Option.some.inj hm).symm ⟨rfl, rfl, rfl, rfl, rfl, rfl, rfl, rfl, trivial⟩ (fun _ h => h.picks [0, 0, 0, 0, 0, 0, 0, 0] rfl)
          · have hm := ifB_f hb hm
            refine ls true rfl rfl rfl rfl ?_
            refine ls true rfl rfl rfl rfl ?_
            refine ls true rfl rfl rfl rfl ?_
            refine lp rfl (p_pkf rfl rfl) ?_
            refine lp rfl (p_mv rfl) ?_
            refine ls true rfl rfl rfl rfl ?_
            refine ls true rfl rfl rfl rfl ?_
            refine lp rfl (p_pkf rfl rfl) ?_
            refine lp rfl (p_mv rfl) ?_
            refine ls true rfl rfl rfl rfl ?_
            refine lp rfl (p_pkf rfl rfl) ?_
            refine lp rfl (p_as rfl) ?_
            refine lj_nil ?_
            exact cnk22 _ _ false () (Option.some.inj hm).symm ⟨rfl, rfl, rfl, rfl, rfl, rfl, rfl, rfl, trivial⟩ (fun _ h => h.picks [0, 0, 0, 0, 0, 0, 0, 0] rfl)
      · have hm := ifB_f hb hm
        refine cj_skip ?_
        refine nj_seq ?_
        refine cj_seq ?_
        refine cj_reg ?_
        refine lp rfl (p_mv rfl) ?_
        obtain ⟨y24, hy24, hm⟩ := bindS hm
        refine r_call [] cf14 rfl rfl (ok_gleeref2_RangeFor s5 y4.1 hy24) rfl rfl (.cons (.ro 5 rfl) .nil) (fun _ => rfl) rfl (fun _ => ?_)
        refine lp rfl (p_mv rfl) ?_
        refine lp rfl (p_ext rfl rfl) ?_
        refine lp rfl (p_ext rfl rfl) ?_
        refine r_al ty37 rfl (fun b25 => ?_)
        refine r_sb (vs := [.int .i64 y24.1.Low, .int .i64 y24.1.High]) (j := 0) ty37 rfl rfl rfl rfl rfl rfl rfl ?_
        refine lp rfl (p_as rfl) ?_
        refine lj_seq ?_
        refine cj_seq ?_
        refine cj_reg ?_
        refine lp rfl (p_mv rfl) ?_
        refine lp rfl (p_mv rfl) ?_
        refine lp rfl (p_mv rfl) ?_
        obtain ⟨y26, hy26, hm⟩ := bindS hm
        refine r_callN [] cf16 rfl rfl (ok_gleeref2_InBarsOf s3 y2.1 s5 y4.1 hy26) rfl rfl (.cons (.ro 7 rfl) (.cons (.ro 6 rfl) .nil)) rfl (fun ⟨s27, xg28⟩ => ?_)
        refine r_pure (F := Lk N28 y26 xg28) (.ro 1 rfl) (fun _ h => h.1) (fun hLs27 => ?_)
        obtain ⟨y29, hy29, hm⟩ := bindS hm
        refine r_call [] cf15 rfl rfl (ok_slices_EqualFunc_api_Tone_api_Tone_api_Tone_api_Tone__slices_Equal_api_Tone_api_Tone s7 xg8 y6.1 s27 xg28 y26 hy29) rfl rfl (.cons (.ro 7 rfl) (.cons (.row 6 rfl) (.cons (.ro 1 rfl) (.cons (.row 0 rfl) .nil)))) (fun _ => rfl) rfl (fun _ => ?_)
        refine lp rfl (p_mv rfl) ?_
        refine lcase (i := 112) y29 rfl (fun hb => ?_) (fun hb => ?_)
        · have hm := ifB_t hb hm
          refine lg true rfl rfl rfl ?_
          refine lp rfl (p_mv rfl) ?_
          refine lg true rfl rfl rfl ?_
          refine lp rfl (p_mv rfl) ?_
          refine lg true rfl rfl rfl ?_
          refine lp rfl (p_mv rfl) ?_
          refine lg true rfl rfl rfl ?_
          obtain ⟨y30, hy30, hm⟩ := bindS hm
          refine r_call [] cf18 rfl rfl (ok_gleeref2_PlayedOf s3 y2.1 s5 y4.1 hy30) rfl rfl (.cons (.ro 9 rfl) (.cons (.ro 8 rfl) .nil)) (fun _ => rfl) rfl (fun s31 => ?_)
          refine lg true rfl rfl rfl ?_
          obtain ⟨y32, hy32, hm⟩ := bindS hm
          refine r_call [] cf17 rfl rfl (ok_slices_Equal_api_Tone_api_Tone s10 y9.1 s31 y30 hy32) rfl rfl (.cons (.row 6 rfl) (.cons (.row 0 rfl) .nil)) (fun _ => rfl) rfl (fun _ => ?_)
          refine lp rfl (p_pkt rfl rfl) ?_
          refine lp rfl (p_mv rfl) ?_
          refine lcase (i := 119) y32 rfl (fun hb => ?_) (fun hb => ?_)
          · have hm := ifB_t hb hm
            refine lg true rfl rfl rfl ?_
            refine lp rfl (p_mv rfl) ?_
            refine lg true rfl rfl rfl ?_
            refine lp rfl (p_mv rfl) ?_
            refine lg true rfl rfl rfl ?_
            obtain ⟨y33, hy33, hm⟩ := bindS hm
            refine r_call [] cf19 rfl rfl (ok_gleeref2_JoinedOf s5 y4.1 hy33) rfl rfl (.cons (.ro 9 rfl) .nil) (fun _ => rfl) rfl (fun s34 => ?_)
            refine lg true rfl rfl rfl ?_
            obtain ⟨y35, hy35, hm⟩ := bindS hm
            refine r_call [] cf17 rfl rfl (ok_slices_Equal_api_Tone_api_Tone s12 y11.1 s34 y33 hy35) rfl rfl (.cons (.row 6 rfl) (.cons (.row 0 rfl) .nil)) (fun _ => rfl) rfl (fun _ => ?_)
            refine lp rfl (p_pkt rfl rfl) ?_
            refine lp rfl (p_mv rfl) ?_
            refine lcase (i := 125) y35 rfl (fun hb => ?_) (fun hb => ?_)
            · have hm := ifB_t hb hm
              refine lg true rfl rfl rfl ?_
              refine lp rfl (p_lbw ty37 rfl (j := 5) rfl rfl) ?_
              refine lg true rfl rfl rfl ?_
              refine lp rfl (p_lbw ty37 rfl (j := 4) rfl rfl) ?_
              refine lg true rfl rfl rfl ?_
              refine lp rfl (p_eqst (by kernel_rfl) rfl rfl (eqst37 y13.1 y24.1)) ?_
              refine lp rfl (p_pkt rfl rfl) ?_
              refine lp rfl (p_mv rfl) ?_
              refine lcase (i := 130) (decide (y13.1 = y24.1)) rfl (fun hb => ?_) (fun hb => ?_)
              · have hm := ifB_t hb hm
                refine lg true rfl rfl rfl ?_
                refine lp rfl (p_mv rfl) ?_
                refine lg true rfl rfl rfl ?_
                refine lp rfl (p_mv rfl) ?_
                refine lg true rfl rfl rfl ?_
                refine lp rfl (p_eqb Tryd.underlying4 rfl rfl) ?_
                refine lp rfl (p_pkt rfl rfl) ?_
                refine lp rfl (p_mv rfl) ?_
                refine lcase (i := 135) (y13.2.1 == y24.2) rfl (fun hb => ?_) (fun hb => ?_)
                · have hm := ifB_t hb hm
                  refine lg true rfl rfl rfl ?_
                  obtain ⟨y36, hy36, hm⟩ := bindS hm
                  refine r_call [] cf13 rfl rfl (ok_gleelaw2_written  hy36) rfl rfl .nil (fun _ => rfl) rfl (fun _ => ?_)
                  refine lp rfl (p_pkt rfl rfl) ?_
                  refine lp rfl (p_as rfl) ?_
                  refine lj_seq ?_
                  obtain rfl := Option.some.inj hm
                  exact cj_rt () [] Tryd.results3 (.tmp rfl .nil) rfl rfl
                · have hm := ifB_f hb hm
                  refine ls true rfl rfl rfl rfl ?_
                  refine lp rfl (p_pkf rfl rfl) ?_
                  refine lp rfl (p_as rfl) ?_
                  refine lj_seq ?_
                  obtain rfl := Option.some.inj hm
                  exact cj_rt () [] Tryd.results3 (.tmp rfl .nil) rfl rfl
              · have hm := ifB_f hb hm
                refine ls true rfl rfl rfl rfl ?_
                refine ls true rfl rfl rfl rfl ?_
                refine ls true rfl rfl rfl rfl ?_
                refine lp rfl (p_pkf rfl rfl) ?_
                refine lp rfl (p_mv rfl) ?_
                refine ls true rfl rfl rfl rfl ?_
                refine lp rfl (p_pkf rfl rfl) ?_
                refine lp rfl (p_as rfl) ?_
                refine lj_seq ?_
                obtain rfl := Option.some.inj hm
                exact cj_rt () [] Tryd.results3 (.tmp rfl .nil) rfl rfl
            · have hm := ifB_f hb hm
              refine ls true rfl rfl rfl rfl ?_
              refine ls true rfl rfl rfl rfl ?_
              refine ls true rfl rfl rfl rfl ?_
              refine lp rfl (p_pkf rfl rfl) ?_
              refine lp rfl (p_mv rfl) ?_
              refine ls true rfl rfl rfl rfl ?_
              refine ls true rfl rfl rfl rfl ?_
              refine ls true rfl rfl rfl rfl ?_
              refine lp rfl (p_pkf rfl rfl) ?_
              refine lp rfl (p_mv rfl) ?_
              refine ls true rfl rfl rfl rfl ?_
              refine lp rfl (p_pkf rfl rfl) ?_
              refine lp rfl (p_as rfl) ?_
              refine lj_seq ?_
              obtain rfl := Option.some.inj hm
              exact cj_rt () [] Tryd.results3 (.tmp rfl .nil) rfl rfl
          · have hm := ifB_f hb hm
            refine ls true rfl rfl rfl rfl ?_
            refine ls true rfl rfl rfl rfl ?_
            refine ls true rfl rfl rfl rfl ?_
            refine ls true rfl rfl rfl rfl ?_
            refine lp rfl (p_pkf rfl rfl) ?_
            refine lp rfl (p_mv rfl) ?_
            refine ls true rfl rfl rfl rfl ?_
            refine ls true rfl rfl rfl rfl ?_
            refine ls true rfl rfl rfl rfl ?_
            refine lp rfl (p_pkf rfl rfl) ?_
            refine lp rfl (p_mv rfl) ?_
            refine ls true rfl rfl rfl rfl ?_
            refine ls true rfl rfl rfl rfl ?_
            refine ls true rfl rfl rfl rfl ?_
            refine lp rfl (p_pkf rfl rfl) ?_
            refine lp rfl (p_mv rfl) ?_
            refine ls true rfl rfl rfl rfl ?_
            refine lp rfl (p_pkf rfl rfl) ?_
            refine lp rfl (p_as rfl) ?_
            refine lj_seq ?_
            obtain rfl := Option.some.inj hm
            exact cj_rt () [] Tryd.results3 (.tmp rfl .nil) rfl rfl
        · have hm := ifB_f hb hm
          refine ls true rfl rfl rfl rfl ?_
          refine ls true rfl rfl rfl rfl ?_
          refine ls true rfl rfl rfl rfl ?_
          refine ls true rfl rfl rfl rfl ?_
          refine ls true rfl rfl rfl rfl ?_
          refine lp rfl (p_pkf rfl rfl) ?_
          refine lp rfl (p_mv rfl) ?_
          refine ls true rfl rfl rfl rfl ?_
          refine ls true rfl rfl rfl rfl ?_
          refine ls true rfl rfl rfl rfl ?_
          refine ls true rfl rfl rfl rfl ?_
          refine lp rfl (p_pkf rfl rfl) ?_
          refine lp rfl (p_mv rfl) ?_
          refine ls true rfl rfl rfl rfl ?_
          refine ls true rfl rfl rfl rfl ?_
          refine ls true rfl rfl rfl rfl ?_
          refine lp rfl (p_pkf rfl rfl) ?_
          refine lp rfl (p_mv rfl) ?_
          refine ls true rfl rfl rfl rfl ?_
          refine ls true rfl rfl rfl rfl ?_
          refine ls true rfl rfl rfl rfl ?_
          refine lp rfl (p_pkf rfl rfl) ?_
          refine lp rfl (p_mv rfl) ?_
          refine ls true rfl rfl rfl rfl ?_
          refine lp rfl (p_pkf rfl rfl) ?_
          refine lp rfl (p_as rfl) ?_
          refine lj_seq ?_
          obtain rfl := Option.some.inj hm
          exact cj_rt () [] Tryd.results3 (.tmp rfl .nil) rfl rfl
  · have hm := hk18
    refine lp rfl (p_mv rfl) ?_
    refine lp rfl (p_mv rfl) ?_
    obtain ⟨y19, hy19, hm⟩ := bindS hm
    refine r_call [] cf12 rfl rfl (ok_piece_CheckTones s3 y2.1 s5 y4.1 hy19) rfl rfl (.cons (.ro 6 rfl) (.cons (.ro 5 rfl) (.cons (.ro 9 rfl) .nil))) (fun _ => rfl) rfl (fun _ => ?_)
    refine lp rfl (p_mv rfl) ?_
    refine lp rfl (p_neq rfl rfl) ?_
    refine lp rfl (p_mv rfl) ?_
    refine lcase (i := 59) (y19 != y15) rfl (fun hb => ?_) (fun hb => ?_)
    · have hm := ifB_t hb hm
      refine ls false rfl rfl rfl rfl ?_
      refine ls false rfl rfl rfl rfl ?_
      refine ls false rfl rfl rfl rfl ?_
      refine lp rfl (p_pkt rfl rfl) ?_
      refine lp rfl (p_mv rfl) ?_
      refine ls false rfl rfl rfl rfl ?_
      refine ls false rfl rfl rfl rfl ?_
      refine ls false rfl rfl rfl rfl ?_
      refine lp rfl (p_pkt rfl rfl) ?_
      refine lp rfl (p_mv rfl) ?_
      refine ls false rfl rfl rfl rfl ?_
      refine ls false rfl rfl rfl rfl ?_
      refine ls false rfl rfl rfl rfl ?_
      refine lp rfl (p_pkt rfl rfl) ?_
      refine lp rfl (p_mv rfl) ?_
      refine ls false rfl rfl rfl rfl ?_
      refine ls false rfl rfl rfl rfl ?_
      refine ls false rfl rfl rfl rfl ?_
      refine lp rfl (p_pkt rfl rfl) ?_
      refine lj_nil ?_
      exact cnk18 _ _ true () (Option.some.inj hm).symm ⟨rfl, rfl, rfl, rfl, rfl, rfl, rfl, rfl, rfl, rfl, trivial⟩ (fun _ h => h.picks [0, 0, 0, 0, 0, 0, 0, 2] rfl)
    · have hm := ifB_f hb hm
      refine lg false rfl rfl rfl ?_
      refine lp rfl (p_mv rfl) ?_
      refine lg false rfl rfl rfl ?_
      refine lp rfl (p_mv rfl) ?_
      refine lg false rfl rfl rfl ?_
      refine lp rfl (p_neq rfl rfl) ?_
      refine lp rfl (p_pkf rfl rfl) ?_
      refine lp rfl (p_mv rfl) ?_
      refine lcase (i := 64) (y6.2 != y15) rfl (fun hb => ?_) (fun hb => ?_)
      · have hm := ifB_t hb hm
        refine ls false rfl rfl rfl rfl ?_
        refine ls false rfl rfl rfl rfl ?_
        refine ls false rfl rfl rfl rfl ?_
        refine lp rfl (p_pkt rfl rfl) ?_
        refine lp rfl (p_mv rfl) ?_
        refine ls false rfl rfl rfl rfl ?_
        refine ls false rfl rfl rfl rfl ?_
        refine ls false rfl rfl rfl rfl ?_
        refine lp rfl (p_pkt rfl rfl) ?_
        refine lp rfl (p_mv rfl) ?_
        refine ls false rfl rfl rfl rfl ?_
        refine ls false rfl rfl rfl rfl ?_
        refine ls false rfl rfl rfl rfl ?_
        refine lp rfl (p_pkt rfl rfl) ?_
        refine lj_nil ?_
        exact cnk18 _ _ true () (Option.some.inj hm).symm ⟨rfl, rfl, rfl, rfl, rfl, rfl, rfl, rfl, rfl, rfl, trivial⟩ (fun _ h => h.picks [0, 0, 0, 0, 0, 0, 0, 2] rfl)
      · have hm := ifB_f hb hm
        refine lg false rfl rfl rfl ?_
        refine lp rfl (p_mv rfl) ?_
        refine lg false rfl rfl rfl ?_
        refine lp rfl (p_mv rfl) ?_
        refine lg false rfl rfl rfl ?_
        refine lp rfl (p_neq rfl rfl) ?_
        refine lp rfl (p_pkf rfl rfl) ?_
        refine lp rfl (p_mv rfl) ?_
        refine lcase (i := 69) (y9.2 != y15) rfl (fun hb => ?_) (fun hb => ?_)
        · have hm := ifB_t hb hm
          refine ls false rfl rfl rfl rfl ?_
          refine ls false rfl rfl rfl rfl ?_
          refine ls false rfl rfl rfl rfl ?_
          refine lp rfl (p_pkt rfl rfl) ?_
          refine lp rfl (p_mv rfl) ?_
          refine ls false rfl rfl rfl rfl ?_
          refine ls false rfl rfl rfl rfl ?_
          refine ls false rfl rfl rfl rfl ?_
          refine lp rfl (p_pkt rfl rfl) ?_
          refine lj_nil ?_
          exact cnk18 _ _ true () (Option.some.inj hm).symm ⟨rfl, rfl, rfl, rfl, rfl, rfl, rfl, rfl, rfl, rfl, trivial⟩ (fun _ h => h.picks [0, 0, 0, 0, 0, 0, 0, 2] rfl)
        · have hm := ifB_f hb hm
          refine lg false rfl rfl rfl ?_
          refine lp rfl (p_mv rfl) ?_
          refine lg false rfl rfl rfl ?_
          refine lp rfl (p_mv rfl) ?_
          refine lg false rfl rfl rfl ?_
          refine lp rfl (p_neq rfl rfl) ?_
          refine lp rfl (p_pkf rfl rfl) ?_
          refine lp rfl (p_mv rfl) ?_
          refine lcase (i := 74) (y11.2 != y15) rfl (fun hb => ?_) (fun hb => ?_)
          · have hm := ifB_t hb hm
            refine ls false rfl rfl rfl rfl ?_
            refine ls false rfl rfl rfl rfl ?_
            refine ls false rfl rfl rfl rfl ?_
            refine lp rfl (p_pkt rfl rfl) ?_
            refine lj_nil ?_
            exact cnk18 _ _ true () (Option.some.inj hm).symm ⟨rfl, rfl, rfl, rfl, rfl, rfl, rfl, rfl, rfl, rfl, trivial⟩ (fun _ h => h.picks [0, 0, 0, 0, 0, 0, 0, 2] rfl)
          · have hm := ifB_f hb hm
            refine lg false rfl rfl rfl ?_
            refine lp rfl (p_mv rfl) ?_
            refine lg false rfl rfl rfl ?_
            refine lp rfl (p_mv rfl) ?_
            refine lg false rfl rfl rfl ?_
            refine lp rfl (p_neq rfl rfl) ?_
            refine lp rfl (p_pkf rfl rfl) ?_
            refine lj_nil ?_
            exact cnk18 _ _ (y13.2.2 != y15) () (Option.some.inj hm).symm ⟨rfl, rfl, rfl, rfl, rfl, rfl, rfl, rfl, rfl, rfl, trivial⟩ (fun _ h => h.picks [0, 0, 0, 0, 0, 0, 0, 2] rfl)
theorem ok_gleemake_Stream_ATime (b0_ : Nat) (s0_0_ : SV) (a0_0 : (List Int)) (a0_1 : Int) {r : TFraction × Int} (hm : m_gleemake_Stream_ATime a0_0 a0_1 = some r) :
    Ctr Tryd.prog 21 [.pointer (some ⟨b0_, 0, none⟩)].toArray [.box b0_ 25 [s0_0_.v, .int .i64 a0_1]] [RdS R3 (SV.v s0_0_) a0_0] (X := Unit) (fun _ => .agg (R48.enc r.1).toArray) (fun _ => [.box b0_ 25 [s0_0_.v, .int .i64 r.2]]) := by
  unfold m_gleemake_Stream_ATime at hm
  refine ctr_mk (vs := [(0, .pointer (some ⟨b0_, 0, none⟩))]) Tryd.func21 rfl Tryd.ntmps21 rfl ⟨rfl, trivial⟩ (fun w0 A => ?_)
  refine cj_seq ?_
  refine cj_reg ?_
  refine r_al ty48 rfl (fun b1 => ?_)
  refine lj_seq ?_
  refine cj_seq ?_
  refine cj_seq ?_
  refine cj_reg ?_
  refine lp rfl (p_mv rfl) ?_
  obtain ⟨y2, hy2, hm⟩ := bindS hm
  refine r_call [1] cf35 rfl rfl (ok_gleemake_Stream_Flip b0_ s0_0_ a0_0 a0_1 12 hy2) rfl rfl (.cons (.ro 1 rfl) .nil) (fun _ => rfl) rfl (fun _ => ?_)
  refine lj_seq ?_
  refine cj_if (b := y2.1) rfl (fun hb => ?_) (fun hb => ?_)
  · have hm := ifB_t hb hm
    refine cj_seq ?_
    refine cj_reg ?_
    refine lp rfl (p_bld [.int .i64 2, .int .i64 4] rfl (fun _ => by kernel_rfl)) ?_
    refine lp rfl (p_bld [.int .i64 (-1), .int .i64 4] rfl (fun _ => by kernel_rfl)) ?_
    refine lp rfl (p_bld [.int .i64 1, .int .i64 5] rfl (fun _ => by kernel_rfl)) ?_
    refine lp rfl (p_bld [.int .i64 100, .int .i64 1] rfl (fun _ => by kernel_rfl)) ?_
    refine lp rfl (p_bld [.int .i64 1, .int .i64 0] rfl (fun _ => by kernel_rfl)) ?_
    refine lp rfl (p_bld [.int .i64 4611686018427387904, .int .i64 1] rfl (fun _ => by kernel_rfl)) ?_
    refine lp rfl (p_bld [.int .i64 (-9223372036854775808), .int .i64 3] rfl (fun _ => by kernel_rfl)) ?_
    refine r_bs R48 [(TFraction.mk 2 4), (TFraction.mk (-1) 4), (TFraction.mk 1 5), (TFraction.mk 100 1), (TFraction.mk 1 0), (TFraction.mk 4611686018427387904 1), (TFraction.mk (-9223372036854775808) 3)] rfl rfl rfl (fun _ => by kernel_rfl) rfl (fun s3 => ?_)
    refine lp rfl (p_mv rfl) ?_
    obtain ⟨y4, hy4, hm⟩ := bindS hm
    refine r_call [1] cf36 rfl rfl (ok_gleemake_Stream_Next b0_ s0_0_ a0_0 y2.2 7 hy4) rfl rfl (.cons (.ro 2 rfl) .nil) (fun _ => rfl) rfl (fun _ => ?_)
    obtain ⟨e5, he5, hm⟩ := bindS hm
    refine lp rfl (p_idx Tryd.underlying79 ty48 rfl rfl (.row 1 rfl) he5) ?_
    refine lp rfl (p_lea ty48 rfl (.row 1 rfl) (getI_spec he5).2) ?_
    refine r_sb (vs := [.int .i64 e5.Num, .int .i64 e5.Den]) (j := 2) ty48 rfl rfl rfl rfl rfl rfl rfl ?_
    refine lj_seq ?_
    obtain rfl := Option.some.inj hm
    exact cj_rt () [0] Tryd.results21 (.agg (k := 2) ty48 rfl rfl rfl .nil) rfl rfl
  · have hm := ifB_f hb hm
    refine cj_skip ?_
    refine nj_seq ?_
    refine cj_seq ?_
    refine cj_reg ?_
    refine lp rfl (p_mv rfl) ?_
    refine r_bs R3 [0, 24, 48, 96, 100, 192, 250, 384, 700] rfl rfl rfl (fun _ => by kernel_rfl) rfl (fun s6 => ?_)
    obtain ⟨y7, hy7, hm⟩ := bindS hm
    refine r_call [1] cf20 rfl rfl (ok_gleemake_Stream_Pick b0_ s0_0_ a0_0 y2.2 s6 [0, 24, 48, 96, 100, 192, 250, 384, 700] hy7) rfl rfl (.cons (.ro 2 rfl) (.cons (.row 0 rfl) .nil)) (fun _ => rfl) rfl (fun _ => ?_)
    obtain ⟨y8, hy8, hm⟩ := bindS hm
    refine r_call [] cf58 rfl rfl (ok_gleeref2_Lowest y7.1 192 hy8) rfl rfl .nil (fun _ => rfl) rfl (fun _ => ?_)
    refine r_sb (vs := [.int .i64 y8.Num, .int .i64 y8.Den]) (j := 2) ty48 rfl rfl rfl rfl rfl rfl rfl ?_
    refine lj_seq ?_
    obtain rfl := Option.some.inj hm
    exact cj_rt () [0] Tryd.results21 (.agg (k := 2) ty48 rfl rfl rfl .nil) rfl rfl
theorem ok_piece_Shift (s0_ : SV) (a0 : (List TBar)) (s1_ : SV) (a1 : (List TTone)) (a2 : Int) {r : (List TTone) × Int} (hm : m_piece_Shift a0 a1 a2 = some r) :
    Ctr Tryd.prog 22 [s0_.v, s1_.v, .int .i64 a2].toArray ([] : List Ent) [RdS R75 (SV.v s0_) a0, RdS R50 (SV.v s1_) a1, UtfT] (X := SV) (fun s => .tuple [s.v, .int .i64 r.2].toArray) (fun s => [.row R50 (SV.v s) r.1]) := by
  unfold m_piece_Shift at hm
  refine ctr_mk (vs := [(0, s0_.v), (1, s1_.v), (2, .int .i64 a2)]) Tryd.func22 rfl Tryd.ntmps22 rfl ⟨rfl, rfl, rfl, trivial⟩ (fun w0 A => ?_)
  refine cj_seq ?_
  refine cj_reg ?_
  refine lp rfl (p_as rfl) ?_
  refine lp rfl (p_as rfl) ?_
  refine lj_seq ?_
  refine cj_seq ?_
  refine cj_seq ?_
  refine cj_reg ?_
  refine lp rfl (p_mv rfl) ?_
  refine lp rfl (p_mv rfl) ?_
  obtain ⟨y1, hy1, hm⟩ := bindS hm
  refine r_call [] cf12 rfl rfl (ok_piece_CheckTones s0_ a0 s1_ a1 hy1) rfl rfl (.cons (.ro 0 rfl) (.cons (.ro 1 rfl) (.cons (.ro 2 rfl) .nil))) (fun _ => rfl) rfl (fun _ => ?_)
  refine lp rfl (p_as rfl) ?_
  refine lj_seq ?_
  refine cj_seq ?_
  refine cj_reg ?_
  refine lp rfl (p_mv rfl) ?_
  refine lp rfl (p_neq rfl rfl) ?_
  refine lj_seq ?_
  refine cj_if (b := y1 != 0) rfl (fun hb => ?_) (fun hb => ?_)
  · have hm := ifB_t hb hm
    refine cj_seq ?_
    refine cj_reg ?_
    refine lp rfl (p_mv rfl) ?_
    refine lp rfl (p_as rfl) ?_
    refine lp rfl (p_as rfl) ?_
    refine lj_seq ?_
    obtain rfl := Option.some.inj hm
    refine cj_nil R50 ?_
    exact cj_rt nilS [0] Tryd.results22 (.tmp rfl (.tmp rfl .nil)) rfl rfl
  · have hm := ifB_f hb hm
    refine cj_skip ?_
    refine nj_seq ?_
    refine cj_seq ?_
    refine cj_seq ?_
    refine cj_reg ?_
    refine lp rfl (p_mv rfl) ?_
    obtain ⟨y3, hy3, hm⟩ := bindS hm
    refine r_call [] cf60 rfl rfl (ok_kit_Outside a2 (-127) 127 hy3) rfl rfl .nil (fun _ => rfl) rfl (fun _ => ?_)
    refine lj_seq ?_
    refine cj_if (b := y3) rfl (fun hb => ?_) (fun hb => ?_)
    · have hm := ifB_t hb hm
      refine cj_seq ?_
      refine cj_reg ?_
      refine lp rfl (p_as rfl) ?_
      refine lp rfl (p_as rfl) ?_
      refine lj_seq ?_
      obtain rfl := Option.some.inj hm
      refine cj_nil R50 ?_
      exact cj_rt nilS [0] Tryd.results22 (.tmp rfl (.tmp rfl .nil)) rfl rfl
    · have hm := ifB_f hb hm
      refine cj_skip ?_
      refine nj_seq ?_
      refine cj_seq ?_
      refine cj_reg ?_
      refine lp rfl (p_mv rfl) ?_
      obtain ⟨y5, hy5, hm⟩ := bindS hm
      refine r_call [] cf54 rfl rfl (ok_slices_Clone_api_Tone_api_Tone s1_ a1 hy5) rfl rfl (.cons (.ro 1 rfl) .nil) (fun _ => rfl) rfl (fun s6 => ?_)
      refine lp rfl (p_as rfl) ?_
      refine lj_seq ?_
      refine cj_seq ?_
      refine cj_seq ?_
      refine cj_reg ?_
      refine lp rfl (p_mv rfl) ?_
      refine lp rfl (p_len Tryd.underlying28 rfl (.row 0 rfl)) ?_
      refine lp rfl (p_mv rfl) ?_
      refine lj_seq ?_
      obtain ⟨f13, hf13, hm⟩ := bindS hm
      refine cj_range (γ := SV) (m := (y5.length : Int)) hf13 s6 (fun u10 g11 => [(2, .int .i64 a2), (6, .slice none 0 0), (7, .int .i64 0), (9, g11.v)]) (fun u10 g11 => Sat w0 (keys ([] : List Ent)) A [.ro UtfT, .row R50 (SV.v g11) u10]) ⟨rfl, rfl, rfl, rfl, rfl, rfl, trivial⟩ (fun _ h => h.picks [3, 0] rfl) (nat_lt _) (fun _ h => (FactAt.get (F := RdS R50 (SV.v s6) y5) (.row 0 rfl) h).1) (fun _ _ => ⟨rfl, rfl, rfl, rfl⟩) ⟨rfl, rfl, rfl, rfl, rfl⟩ rfl rfl rfl (fun u10 g11 e => ?_) (fun aftk12 i7 x8 u10 g11 k12 hx9 hs J hJk12 hBk12 hX I cnk12 => ?_)
      · have hm := Flow.fin_b e hm
        refine nj_seq ?_
        refine cj_seq ?_
        refine cj_reg ?_
        refine lp rfl (p_mv rfl) ?_
        refine lp rfl (p_as rfl) ?_
        refine lp rfl (p_as rfl) ?_
        refine lj_seq ?_
        obtain rfl := Option.some.inj hm
        exact cj_rt g11 [1] Tryd.results22 (.tmp rfl (.tmp rfl .nil)) rfl rfl
      · have hRk12 : ∀ t, k12 = .ret t → some t = some r := fun t e => by rw [hX t e] at hm; exact hm
        have hm := hs
        refine cj_seq ?_
        refine cj_reg ?_
        refine lp rfl (p_mv rfl) ?_
        refine lp rfl (p_as rfl) ?_
        refine lj_seq ?_
        refine cj_seq ?_
        refine cj_seq ?_
        refine cj_reg ?_
        refine lp rfl (p_mv rfl) ?_
        refine lp rfl (p_mv rfl) ?_
        obtain ⟨e15, he15, hm⟩ := bindS hm
        refine lp rfl (p_idx Tryd.underlying28 ty50 rfl rfl (.row 1 rfl) he15) ?_
        refine lp rfl (p_fae fl50_0 rfl (.row 1 rfl) (getI_spec he15).2) ?_
        refine lp rfl (p_lde (o := 0) ty3 rfl rfl (.row 1 rfl) (getI_spec he15).2 rfl) ?_
        refine lp rfl (p_eql rfl rfl) ?_
        refine lj_seq ?_
        refine cj_if (b := e15.Note == (-1)) rfl (fun hb => ?_) (fun hb => ?_)
        · have hm := ifB_t hb hm
          refine cj_exit rfl ?_
          exact cnk12 _ _ u10 g11 (hJk12 _ (Option.some.inj hm).symm) ⟨rfl, rfl, rfl, rfl, rfl, rfl, trivial⟩ (fun _ h => h.picks [0, 0] rfl)
        · have hm := ifB_f hb hm
          refine cj_skip ?_
          refine nj_seq ?_
          refine cj_seq ?_
          refine cj_reg ?_
          refine lp rfl (p_mv rfl) ?_
          refine lp rfl (p_mv rfl) ?_
          obtain ⟨e16, he16, hm⟩ := bindS hm
          refine lp rfl (p_idx Tryd.underlying28 ty50 rfl rfl (.row 1 rfl) he16) ?_
          refine lp rfl (p_fae fl50_0 rfl (.row 1 rfl) (getI_spec he16).2) ?_
          refine lp rfl (p_lde (o := 0) ty3 rfl rfl (.row 1 rfl) (getI_spec he16).2 rfl) ?_
          refine lp rfl (p_mv rfl) ?_
          refine lp rfl (p_add rfl rfl) ?_
          obtain ⟨e17, he17, hm⟩ := bindS hm
          refine lp rfl (p_idx Tryd.underlying28 ty50 rfl rfl (.row 1 rfl) he17) ?_
          refine lp rfl (p_fae fl50_0 rfl (.row 1 rfl) (getI_spec he17).2) ?_
          refine r_ste (k := 1) (o := 0) (vs := [.int .i64 (w64 (e16.Note + a2))]) ty3 rfl rfl rfl rfl rfl rfl rfl (getI_spec he17).2 (TTone.mk (w64 (e16.Note + a2)) e17.Long e17.Text e17.Tied) rfl rfl ?_
          refine lj_seq ?_
          refine cj_seq ?_
          refine cj_reg ?_
          refine lp rfl (p_mv rfl) ?_
          refine lp rfl (p_mv rfl) ?_
          obtain ⟨e18, he18, hm⟩ := bindS hm
          refine lp rfl (p_idx Tryd.underlying28 ty50 rfl rfl (.row 1 rfl) he18) ?_
          refine lp rfl (p_fae fl50_0 rfl (.row 1 rfl) (getI_spec he18).2) ?_
          refine lp rfl (p_lde (o := 0) ty3 rfl rfl (.row 1 rfl) (getI_spec he18).2 rfl) ?_
          obtain ⟨y19, hy19, hm⟩ := bindS hm
          refine r_call [] cf60 rfl rfl (ok_kit_Outside e18.Note 0 127 hy19) rfl rfl .nil (fun _ => rfl) rfl (fun _ => ?_)
          refine lj_seq ?_
          refine cj_if (b := y19) rfl (fun hb => ?_) (fun hb => ?_)
          · have hm := ifB_t hb hm
            refine cj_seq ?_
            refine cj_reg ?_
            refine lp rfl (p_as rfl) ?_
            refine lp rfl (p_as rfl) ?_
            refine lj_seq ?_
            have hm := hRk12 _ (Option.some.inj hm).symm
            obtain rfl := Option.some.inj hm
            refine cj_nil R50 ?_
            exact cj_rt nilS [0] Tryd.results22 (.tmp rfl (.tmp rfl .nil)) rfl rfl
          · have hm := ifB_f hb hm
            refine cj_skip ?_
            refine nj_blk ?_
            exact cnk12 _ _ (u10.set ((i7 : Int).toNat) (TTone.mk (w64 (e16.Note + a2)) e17.Long e17.Text e17.Tied)) g11 (hJk12 _ (Option.some.inj hm).symm) ⟨rfl, rfl, rfl, rfl, rfl, rfl, trivial⟩ (fun _ h => h.picks [0, 0] rfl)
theorem ok_piece_Sounds (s0_ : SV) (a0 : (List TBar)) (s1_ : SV) (a1 : (List TTone)) (a2 : TFraction) {r : Int × Bool × Int} (hm : m_piece_Sounds a0 a1 a2 = some r) :
    Ctr Tryd.prog 23 [s0_.v, s1_.v, .agg (R48.enc a2).toArray].toArray ([] : List Ent) [RdS R75 (SV.v s0_) a0, RdS R50 (SV.v s1_) a1, UtfT] (X := Unit) (fun _ => .tuple [.int .i64 r.1, .bool r.2.1, .int .i64 r.2.2].toArray) (fun _ => []) := by
  unfold m_piece_Sounds at hm
  refine ctr_mk (vs := [(0, s0_.v), (1, s1_.v), (2, .agg (R48.enc a2).toArray)]) Tryd.func23 rfl Tryd.ntmps23 rfl ⟨rfl, rfl, rfl, trivial⟩ (fun w0 A => ?_)
  refine cj_seq ?_
  refine cj_reg ?_
  refine r_bx (cs := [.int .i64 a2.Num, .int .i64 a2.Den]) rfl rfl rfl (fun b1 => ?_)
  refine lp rfl (p_as rfl) ?_
  refine lp rfl (p_as rfl) ?_
  refine lp rfl (p_as rfl) ?_
  refine lj_seq ?_
  refine cj_seq ?_
  refine cj_seq ?_
  refine cj_reg ?_
  refine lp rfl (p_mv rfl) ?_
  refine lp rfl (p_mv rfl) ?_
  obtain ⟨y2, hy2, hm⟩ := bindS hm
  refine r_call [] cf12 rfl rfl (ok_piece_CheckTones s0_ a0 s1_ a1 hy2) rfl rfl (.cons (.ro 1 rfl) (.cons (.ro 2 rfl) (.cons (.ro 3 rfl) .nil))) (fun _ => rfl) rfl (fun _ => ?_)
  refine lp rfl (p_as rfl) ?_
  refine lj_seq ?_
  refine cj_seq ?_
  refine cj_reg ?_
  refine lp rfl (p_mv rfl) ?_
  refine lp rfl (p_neq rfl rfl) ?_
  refine lj_seq ?_
  refine cj_if (b := y2 != 0) rfl (fun hb => ?_) (fun hb => ?_)
  · have hm := ifB_t hb hm
    refine cj_seq ?_
    refine cj_reg ?_
    refine lp rfl (p_mv rfl) ?_
    refine lp rfl (p_as rfl) ?_
    refine lp rfl (p_as rfl) ?_
    refine lp rfl (p_as rfl) ?_
    refine lj_seq ?_
    obtain rfl := Option.some.inj hm
    exact cj_rt () [] Tryd.results23 (.tmp rfl (.tmp rfl (.tmp rfl .nil))) rfl rfl
  · have hm := ifB_f hb hm
    refine cj_skip ?_
    refine nj_seq ?_
    refine cj_seq ?_
    refine cj_seq ?_
    refine cj_reg ?_
    refine lp rfl (p_lbw ty48 rfl (j := 0) rfl rfl) ?_
    obtain ⟨y3, hy3, hm⟩ := bindS hm
    refine r_call [] cf61 rfl rfl (ok_piece_isLowest a2 hy3) rfl rfl .nil (fun _ => rfl) rfl (fun _ => ?_)
    refine lp rfl (p_not rfl) ?_
    refine lj_seq ?_
    refine cj_if (b := !y3) rfl (fun hb => ?_) (fun hb => ?_)
    · have hm := ifB_t hb hm
      refine cj_seq ?_
      refine cj_reg ?_
      refine lp rfl (p_as rfl) ?_
      refine lp rfl (p_as rfl) ?_
      refine lp rfl (p_as rfl) ?_
      refine lj_seq ?_
      obtain rfl := Option.some.inj hm
      exact cj_rt () [] Tryd.results23 (.tmp rfl (.tmp rfl (.tmp rfl .nil))) rfl rfl
    · have hm := ifB_f hb hm
      refine cj_skip ?_
      refine nj_seq ?_
      refine cj_seq ?_
      refine cj_reg ?_
      refine lp rfl (p_as rfl) ?_
      refine lj_seq ?_
      refine cj_seq ?_
      refine cj_seq ?_
      refine cj_reg ?_
      refine lp rfl (p_mv rfl) ?_
      refine lp rfl (p_len Tryd.underlying26 rfl (.ro 1 rfl)) ?_
      refine lp rfl (p_mv rfl) ?_
      refine lj_seq ?_
      obtain ⟨f10, hf10, hm⟩ := bindS hm
      refine cj_range (γ := Unit) (m := (a0.length : Int)) hf10 () (fun u7 g8 => [(1, s1_.v), (5, .pointer (some ⟨b1, 0, none⟩)), (6, .int .i64 0), (7, .bool false), (8, .int .i64 0), (10, .int .i64 u7), (25, s0_.v)]) (fun u7 g8 => Sat w0 (keys ([] : List Ent)) A [.box b1 48 [.int .i64 a2.Num, .int .i64 a2.Den], .ro (RdS R75 (SV.v s0_) a0), .ro (RdS R50 (SV.v s1_) a1), .ro UtfT]) ⟨rfl, rfl, rfl, rfl, rfl, rfl, rfl, rfl, rfl, trivial⟩ (fun _ h => h.picks [0, 0, 0, 0] rfl) (nat_lt _) (fun _ h => (FactAt.get (F := RdS R75 (SV.v s0_) a0) (.ro 1 rfl) h).1) (fun _ _ => ⟨rfl, rfl, rfl, rfl⟩) ⟨rfl, rfl, rfl, rfl, rfl⟩ rfl rfl rfl (fun u7 g8 e => ?_) (fun aftk9 i4 x5 u7 g8 k9 hx6 hs J hJk9 hBk9 hX I cnk9 => ?_)
      · have hm := Flow.fin_b e hm
        refine nj_seq ?_
        refine cj_seq ?_
        refine cj_seq ?_
        refine cj_reg ?_
        obtain ⟨k15, hk15, hm⟩ := bindS hm
        have hRk15 : ∀ t, k15 = .inr t → some t = some r := fun t e => by rw [e] at hm; exact hm
        refine lj_join (σ := Bool) (γ := Unit) (fun u13 => k15 = .inl u13) (fun u13 g14 => [(1, s1_.v), (5, .pointer (some ⟨b1, 0, none⟩)), (6, .int .i64 0), (7, .bool false), (8, .int .i64 0), (56, .bool u13)]) (fun u13 g14 => Sat w0 (keys ([] : List Ent)) A [.box b1 48 [.int .i64 a2.Num, .int .i64 a2.Den], .ro (RdS R50 (SV.v s1_) a1), .ro UtfT]) (fun u13 g14 hq => ?_) (fun J cnk15 => ?_)
        · have hm := Sum.fin_l hq hm
          refine cj_if (b := u13) rfl (fun hb => ?_) (fun hb => ?_)
          · have hm := ifB_t hb hm
            refine cj_seq ?_
            refine cj_reg ?_
            refine lp rfl (p_as rfl) ?_
            refine lp rfl (p_as rfl) ?_
            refine lp rfl (p_as rfl) ?_
            refine lj_seq ?_
            obtain rfl := Option.some.inj hm
            exact cj_rt () [] Tryd.results23 (.tmp rfl (.tmp rfl (.tmp rfl .nil))) rfl rfl
          · have hm := ifB_f hb hm
            refine cj_skip ?_
            refine nj_seq ?_
            refine cj_seq ?_
            refine cj_reg ?_
            refine lp rfl (p_as rfl) ?_
            refine lj_seq ?_
            refine cj_seq ?_
            refine cj_seq ?_
            refine cj_reg ?_
            refine lp rfl (p_mv rfl) ?_
            refine lp rfl (p_len Tryd.underlying28 rfl (.ro 1 rfl)) ?_
            refine lp rfl (p_mv rfl) ?_
            refine lj_seq ?_
            obtain ⟨f24, hf24, hm⟩ := bindS hm
            refine cj_range (γ := Unit) (m := (a1.length : Int)) hf24 () (fun u21 g22 => [(5, .pointer (some ⟨b1, 0, none⟩)), (6, .int .i64 0), (7, .bool false), (8, .int .i64 0), (13, .int .i64 u21), (57, s1_.v)]) (fun u21 g22 => Sat w0 (keys ([] : List Ent)) A [.box b1 48 [.int .i64 a2.Num, .int .i64 a2.Den], .ro (RdS R50 (SV.v s1_) a1), .ro UtfT]) ⟨rfl, rfl, rfl, rfl, rfl, rfl, rfl, rfl, trivial⟩ (fun _ h => h.picks [0, 0, 0] rfl) (nat_lt _) (fun _ h => (FactAt.get (F := RdS R50 (SV.v s1_) a1) (.ro 1 rfl) h).1) (fun _ _ => ⟨rfl, rfl, rfl, rfl⟩) ⟨rfl, rfl, rfl, rfl, rfl⟩ rfl rfl rfl (fun u21 g22 e => ?_) (fun aftk23 i18 x19 u21 g22 k23 hx20 hs J hJk23 hBk23 hX I cnk23 => ?_)
            · have hm := Flow.fin_b e hm
              refine nj_seq ?_
              refine cj_seq ?_
              refine cj_reg ?_
              refine lp rfl (p_as rfl) ?_
              refine lp rfl (p_as rfl) ?_
              refine lp rfl (p_as rfl) ?_
              refine lj_seq ?_
              obtain rfl := Option.some.inj hm
              exact cj_rt () [] Tryd.results23 (.tmp rfl (.tmp rfl (.tmp rfl .nil))) rfl rfl
            · have hRk23 : ∀ t, k23 = .ret t → some t = some r := fun t e => by rw [hX t e] at hm; exact hm
              have hm := hs
              refine cj_seq ?_
              refine cj_reg ?_
              refine lp rfl (p_idx Tryd.underlying28 ty50 rfl rfl (.ro 1 rfl) (getI_nat.trans hx20)) ?_
              refine lp rfl (p_lea ty50 rfl (.ro 1 rfl) hx20) ?_
              refine r_al ty50 rfl (fun b25 => ?_)
              refine r_sb (vs := [.int .i64 x19.Note, .int .i64 x19.Long.Num, .int .i64 x19.Long.Den, .string x19.Text, .bool x19.Tied]) (j := 0) ty50 rfl rfl rfl rfl rfl rfl rfl ?_
              refine lj_seq ?_
              refine cj_seq ?_
              refine cj_reg ?_
              refine lp rfl (p_mv rfl) ?_
              refine lp rfl (p_fab fl50_1 rfl) ?_
              refine lp rfl (p_lba ty48 rfl (j := 0) rfl rfl) ?_
              obtain ⟨y26, hy26, hm⟩ := bindS hm
              refine r_call [] cf43 rfl rfl (ok_piece_units x19.Long hy26) rfl rfl .nil (fun _ => rfl) rfl (fun _ => ?_)
              refine lp rfl (p_add rfl rfl) ?_
              refine lp rfl (p_as rfl) ?_
              refine lj_seq ?_
              refine cj_seq ?_
              refine cj_reg ?_
              refine lp rfl (p_lbw ty48 rfl (j := 1) rfl rfl) ?_
              obtain ⟨y27, hy27, hm⟩ := bindS hm
              refine r_call [] cf43 rfl rfl (ok_piece_units a2 hy27) rfl rfl .nil (fun _ => rfl) rfl (fun _ => ?_)
              refine lp rfl (p_mv rfl) ?_
              refine lp rfl (p_lss rfl rfl) ?_
              refine lj_seq ?_
              refine cj_if (b := decide (y27 < (w64 (u21 + y26)))) rfl (fun hb => ?_) (fun hb => ?_)
              · have hm := ifB_t hb hm
                refine cj_seq ?_
                refine cj_quiet (by kernel_rfl) (by kernel_rfl) ?_
                refine q_p rfl (p_fab fl50_0 rfl) ?_
                refine q_p rfl (p_lbs ty3 rfl (j := 0) rfl rfl) ?_
                refine q_p rfl (p_max rfl rfl) ?_
                refine q_p rfl (p_fab fl50_0 rfl) ?_
                refine q_p rfl (p_lbs ty3 rfl (j := 0) rfl rfl) ?_
                refine q_p rfl (p_neq rfl rfl) ?_
                refine q_p rfl (p_as rfl) ?_
                refine q_p rfl (p_as rfl) ?_
                refine q_p rfl (p_as rfl) ?_
                refine q_nil ?_
                refine nj_seq ?_
                have hm := hRk23 _ (Option.some.inj hm).symm
                obtain rfl := Option.some.inj hm
                exact cj_rt () [] Tryd.results23 (.tmp rfl (.tmp rfl (.tmp rfl .nil))) rfl rfl
              · have hm := ifB_f hb hm
                refine cj_skip ?_
                refine nj_blk ?_
                exact cnk23 _ _ (w64 (u21 + y26)) () (hJk23 _ (Option.some.inj hm).symm) ⟨rfl, rfl, rfl, rfl, rfl, rfl, rfl, rfl, trivial⟩ (fun _ h => h.picks [1, 1, 1] rfl)
        · have hm := hk15
          refine lp rfl (p_fab fl48_0 rfl) ?_
          refine lp rfl (p_lbs ty3 rfl (j := 0) rfl rfl) ?_
          refine lp rfl (p_lss rfl rfl) ?_
          refine lp rfl (p_mv rfl) ?_
          refine lcase (i := 39) (decide (a2.Num < 0)) rfl (fun hb => ?_) (fun hb => ?_)
          · have hm := ifB_t hb hm
            refine ls false rfl rfl rfl rfl ?_
            refine ls false rfl rfl rfl rfl ?_
            refine ls false rfl rfl rfl rfl ?_
            refine ls false rfl rfl rfl rfl ?_
            refine lp rfl (p_pkt rfl rfl) ?_
            refine lp rfl (p_mv rfl) ?_
            refine ls false rfl rfl rfl rfl ?_
            refine ls false rfl rfl rfl rfl ?_
            refine ls false rfl rfl rfl rfl ?_
            refine ls false rfl rfl rfl rfl ?_
            refine lp rfl (p_pkt rfl rfl) ?_
            refine lp rfl (p_mv rfl) ?_
            refine ls false rfl rfl rfl rfl ?_
            refine ls false rfl rfl rfl rfl ?_
            refine ls false rfl rfl rfl rfl ?_
            refine ls false rfl rfl rfl rfl ?_
            refine lp rfl (p_pkt rfl rfl) ?_
            refine lj_nil ?_
            exact cnk15 _ _ true () (Option.some.inj hm).symm ⟨rfl, rfl, rfl, rfl, rfl, rfl, trivial⟩ (fun _ h => h.picks [0, 1, 1] rfl)
          · have hm := ifB_f hb hm
            refine lg false rfl rfl rfl ?_
            refine lp rfl (p_fab fl48_1 rfl) ?_
            refine lg false rfl rfl rfl ?_
            refine lp rfl (p_lbs ty3 rfl (j := 0) rfl rfl) ?_
            refine lg false rfl rfl rfl ?_
            obtain ⟨z16, hz16, hm⟩ := bindS hm
            refine lp rfl (p_remM hz16 rfl rfl) ?_
            refine lg false rfl rfl rfl ?_
            refine lp rfl (p_neq rfl rfl) ?_
            refine lp rfl (p_pkf rfl rfl) ?_
            refine lp rfl (p_mv rfl) ?_
            refine lcase (i := 45) (z16 != 0) rfl (fun hb => ?_) (fun hb => ?_)
            · have hm := ifB_t hb hm
              refine ls false rfl rfl rfl rfl ?_
              refine ls false rfl rfl rfl rfl ?_
              refine ls false rfl rfl rfl rfl ?_
              refine ls false rfl rfl rfl rfl ?_
              refine lp rfl (p_pkt rfl rfl) ?_
              refine lp rfl (p_mv rfl) ?_
              refine ls false rfl rfl rfl rfl ?_
              refine ls false rfl rfl rfl rfl ?_
              refine ls false rfl rfl rfl rfl ?_
              refine ls false rfl rfl rfl rfl ?_
              refine lp rfl (p_pkt rfl rfl) ?_
              refine lj_nil ?_
              exact cnk15 _ _ true () (Option.some.inj hm).symm ⟨rfl, rfl, rfl, rfl, rfl, rfl, trivial⟩ (fun _ h => h.picks [0, 1, 1] rfl)
            · have hm := ifB_f hb hm
              refine lg false rfl rfl rfl ?_
              refine lp rfl (p_fab fl48_0 rfl) ?_
              refine lg false rfl rfl rfl ?_
              refine lp rfl (p_lbs ty3 rfl (j := 0) rfl rfl) ?_
              refine lg false rfl rfl rfl ?_
              refine lp rfl (p_mv rfl) ?_
              refine lg false rfl rfl rfl ?_
              refine lp rfl (p_gtr rfl rfl) ?_
              refine lp rfl (p_pkf rfl rfl) ?_
              refine lp rfl (p_mv rfl) ?_
              refine lcase (i := 51) (decide (a2.Num > u7)) rfl (fun hb => ?_) (fun hb => ?_)
              · have hm := ifB_t hb hm
                refine ls false rfl rfl rfl rfl ?_
                refine ls false rfl rfl rfl rfl ?_
                refine ls false rfl rfl rfl rfl ?_
                refine ls false rfl rfl rfl rfl ?_
                refine lp rfl (p_pkt rfl rfl) ?_
                refine lj_nil ?_
                exact cnk15 _ _ true () (Option.some.inj hm).symm ⟨rfl, rfl, rfl, rfl, rfl, rfl, trivial⟩ (fun _ h => h.picks [0, 1, 1] rfl)
              · have hm := ifB_f hb hm
                refine lg false rfl rfl rfl ?_
                refine lp rfl (p_lbw ty48 rfl (j := 0) rfl rfl) ?_
                refine lg false rfl rfl rfl ?_
                obtain ⟨y17, hy17, hm⟩ := bindS hm
                refine r_call [] cf43 rfl rfl (ok_piece_units a2 hy17) rfl rfl .nil (fun _ => rfl) rfl (fun _ => ?_)
                refine lg false rfl rfl rfl ?_
                refine lp rfl (p_mv rfl) ?_
                refine lg false rfl rfl rfl ?_
                refine lp rfl (p_geq rfl rfl) ?_
                refine lp rfl (p_pkf rfl rfl) ?_
                refine lj_nil ?_
                exact cnk15 _ _ (decide (y17 ≥ u7)) () (Option.some.inj hm).symm ⟨rfl, rfl, rfl, rfl, rfl, rfl, trivial⟩ (fun _ h => h.picks [0, 1, 1] rfl)
      · have hRk9 : ∀ t, k9 = .ret t → some t = some r := fun t e => by rw [hX t e] at hm; exact hm
        have hm := hs
        refine cj_seq ?_
        refine cj_reg ?_
        refine lp rfl (p_idx Tryd.underlying26 ty75 rfl rfl (.ro 1 rfl) (getI_nat.trans hx6)) ?_
        refine lp rfl (p_lea ty75 rfl (.ro 1 rfl) hx6) ?_
        refine r_al ty75 rfl (fun b11 => ?_)
        refine r_sb (vs := [.int .i64 x5.Beats, .int .i64 x5.Unit, .int .i64 x5.Close, .int .i64 x5.Ending, .bool x5.Open]) (j := 0) ty75 rfl rfl rfl rfl rfl rfl rfl ?_
        refine lj_seq ?_
        refine cj_reg ?_
        refine lp rfl (p_mv rfl) ?_
        refine lp rfl (p_lbw ty75 rfl (j := 0) rfl rfl) ?_
        obtain ⟨y12, hy12, hm⟩ := bindS hm
        refine r_call [] cf62 rfl rfl (ok_piece_long x5 hy12) rfl rfl .nil (fun _ => rfl) rfl (fun _ => ?_)
        refine lp rfl (p_add rfl rfl) ?_
        refine lp rfl (p_as rfl) ?_
        refine lj_nil ?_
        refine nj_blk ?_
        exact cnk9 _ _ (w64 (u7 + y12)) () (hJk9 _ (Option.some.inj hm).symm) ⟨rfl, rfl, rfl, rfl, rfl, rfl, rfl, rfl, rfl, trivial⟩ (fun _ h => h.picks [1, 1, 1, 1] rfl)
theorem ok_stringslite_HasSuffix (a0 : ByteArray) (a1 : ByteArray) {r : Bool} (hm : m_stringslite_HasSuffix a0 a1 = some r) :
    Ctr Tryd.prog 97 [.string a0, .string a1].toArray ([] : List Ent) [] (X := Unit) (fun _ => .bool r) (fun _ => []) := by
  unfold m_stringslite_HasSuffix at hm
  refine ctr_mk (vs := [(0, .string a0), (1, .string a1)]) Tryd.func97 rfl Tryd.ntmps97 rfl ⟨rfl, rfl, trivial⟩ (fun w0 A => ?_)
  refine cj_seq ?_
  refine cj_reg ?_
  refine lp rfl (p_as rfl) ?_
  refine lj_seq ?_
  refine cj_seq ?_
  refine cj_reg ?_
  refine lp rfl (p_mv rfl) ?_
  refine lp rfl (p_lens Tryd.underlying9 rfl) ?_
  refine lp rfl (p_mv rfl) ?_
  refine lp rfl (p_lens Tryd.underlying9 rfl) ?_
  refine lp rfl (p_geq rfl rfl) ?_
  refine lp rfl (p_mv rfl) ?_
  refine lcase (i := 10) (decide ((a0.size : Int) ≥ (a1.size : Int))) rfl (fun hb => ?_) (fun hb => ?_)
  · have hm := ifB_t hb hm
    refine lg true rfl rfl rfl ?_
    refine lp rfl (p_mv rfl) ?_
    refine lg true rfl rfl rfl ?_
    refine lp rfl (p_mv rfl) ?_
    refine lg true rfl rfl rfl ?_
    refine lp rfl (p_lens Tryd.underlying9 rfl) ?_
    refine lg true rfl rfl rfl ?_
    refine lp rfl (p_mv rfl) ?_
    refine lg true rfl rfl rfl ?_
    refine lp rfl (p_lens Tryd.underlying9 rfl) ?_
    refine lg true rfl rfl rfl ?_
    refine lp rfl (p_sub rfl rfl) ?_
    refine lg true rfl rfl rfl ?_
    obtain ⟨c1, hc1, hm⟩ := bindS hm
    refine lp rfl (p_strs Tryd.underlying9 rfl rfl rfl rfl rfl rfl rfl hc1) ?_
    refine lg true rfl rfl rfl ?_
    refine lp rfl (p_mv rfl) ?_
    refine lg true rfl rfl rfl ?_
    refine lp rfl (p_eqs rfl rfl) ?_
    refine lp rfl (p_pkt rfl rfl) ?_
    refine lp rfl (p_as rfl) ?_
    refine lj_seq ?_
    obtain rfl := Option.some.inj hm
    exact cj_rt () [] Tryd.results97 (.tmp rfl .nil) rfl rfl
  · have hm := ifB_f hb hm
    refine ls true rfl rfl rfl rfl ?_
    refine ls true rfl rfl rfl rfl ?_
    refine ls true rfl rfl rfl rfl ?_
    refine ls true rfl rfl rfl rfl ?_
    refine ls true rfl rfl rfl rfl ?_
    refine ls true rfl rfl rfl rfl ?_
    refine ls true rfl rfl rfl rfl ?_
    refine ls true rfl rfl rfl rfl ?_
    refine ls true rfl rfl rfl rfl ?_
    refine lp rfl (p_pkf rfl rfl) ?_
    refine lp rfl (p_as rfl) ?_
    refine lj_seq ?_
    obtain rfl := Option.some.inj hm
    exact cj_rt () [] Tryd.results97 (.tmp rfl .nil) rfl rfl
theorem ok_stringslite_CutSuffix (a0 : ByteArray) (a1 : ByteArray) {r : ByteArray × Bool} (hm : m_stringslite_CutSuffix a0 a1 = some r) :
    Ctr Tryd.prog 89 [.string a0, .string a1].toArray ([] : List Ent) [] (X := Unit) (fun _ => .tuple [.string r.1, .bool r.2].toArray) (fun _ => []) := by
  unfold m_stringslite_CutSuffix at hm
  refine ctr_mk (vs := [(0, .string a0), (1, .string a1)]) Tryd.func89 rfl Tryd.ntmps89 rfl ⟨rfl, rfl, trivial⟩ (fun w0 A => ?_)
  refine cj_seq ?_
  refine cj_reg ?_
  refine lp rfl (p_as rfl) ?_
  refine lp rfl (p_as rfl) ?_
  refine lj_seq ?_
  refine cj_seq ?_
  refine cj_seq ?_
  refine cj_reg ?_
  refine lp rfl (p_mv rfl) ?_
  refine lp rfl (p_mv rfl) ?_
  obtain ⟨y1, hy1, hm⟩ := bindS hm
  refine r_call [] cf97 rfl rfl (ok_stringslite_HasSuffix a0 a1 hy1) rfl rfl .nil (fun _ => rfl) rfl (fun _ => ?_)
  refine lp rfl (p_not rfl) ?_
  refine lj_seq ?_
  refine cj_if (b := !y1) rfl (fun hb => ?_) (fun hb => ?_)
  · have hm := ifB_t hb hm
    refine cj_seq ?_
    refine cj_reg ?_
    refine lp rfl (p_mv rfl) ?_
    refine lp rfl (p_as rfl) ?_
    refine lp rfl (p_as rfl) ?_
    refine lj_seq ?_
    obtain rfl := Option.some.inj hm
    exact cj_rt () [] Tryd.results89 (.tmp rfl (.tmp rfl .nil)) rfl rfl
  · have hm := ifB_f hb hm
    refine cj_skip ?_
    refine nj_seq ?_
    refine cj_seq ?_
    refine cj_reg ?_
    refine lp rfl (p_mv rfl) ?_
    refine lp rfl (p_mv rfl) ?_
    refine lp rfl (p_lens Tryd.underlying9 rfl) ?_
    refine lp rfl (p_mv rfl) ?_
    refine lp rfl (p_lens Tryd.underlying9 rfl) ?_
    refine lp rfl (p_sub rfl rfl) ?_
    obtain ⟨c2, hc2, hm⟩ := bindS hm
    refine lp rfl (p_strs Tryd.underlying9 rfl rfl rfl rfl rfl rfl rfl hc2) ?_
    refine lp rfl (p_as rfl) ?_
    refine lp rfl (p_as rfl) ?_
    refine lj_seq ?_
    obtain rfl := Option.some.inj hm
    exact cj_rt () [] Tryd.results89 (.tmp rfl (.tmp rfl .nil)) rfl rfl
theorem ok_strings_CutSuffix (a0 : ByteArray) (a1 : ByteArray) {r : ByteArray × Bool} (hm : m_strings_CutSuffix a0 a1 = some r) :
    Ctr Tryd.prog 63 [.string a0, .string a1].toArray ([] : List Ent) [] (X := Unit) (fun _ => .tuple [.string r.1, .bool r.2].toArray) (fun _ => []) := by
  unfold m_strings_CutSuffix at hm
  refine ctr_mk (vs := [(0, .string a0), (1, .string a1)]) Tryd.func63 rfl Tryd.ntmps63 rfl ⟨rfl, rfl, trivial⟩ (fun w0 A => ?_)
  refine cj_seq ?_
  refine cj_reg ?_
  refine lp rfl (p_as rfl) ?_
  refine lp rfl (p_as rfl) ?_
  refine lj_seq ?_
  refine cj_seq ?_
  refine cj_reg ?_
  refine lp rfl (p_mv rfl) ?_
  refine lp rfl (p_mv rfl) ?_
  obtain ⟨y1, hy1, hm⟩ := bindS hm
  refine r_call [] cf89 rfl rfl (ok_stringslite_CutSuffix a0 a1 hy1) rfl rfl .nil (fun _ => rfl) rfl (fun _ => ?_)
  refine lp rfl (p_ext rfl rfl) ?_
  refine lp rfl (p_ext rfl rfl) ?_
  refine lp rfl (p_as rfl) ?_
  refine lp rfl (p_as rfl) ?_
  refine lj_seq ?_
  obtain rfl := Option.some.inj hm
  exact cj_rt () [] Tryd.results63 (.tmp rfl (.tmp rfl .nil)) rfl rfl
theorem ok_piece_Lyrics (s0_ : SV) (a0 : (List TBar)) (s1_ : SV) (a1 : (List TTone)) {r : ByteArray × Int} (hm : m_piece_Lyrics a0 a1 = some r) :
    Ctr Tryd.prog 24 [s0_.v, s1_.v].toArray ([] : List Ent) [RdS R75 (SV.v s0_) a0, RdS R50 (SV.v s1_) a1, UtfT] (X := Unit) (fun _ => .tuple [.string r.1, .int .i64 r.2].toArray) (fun _ => []) := by
  unfold m_piece_Lyrics at hm
  refine ctr_mk (vs := [(0, s0_.v), (1, s1_.v)]) Tryd.func24 rfl Tryd.ntmps24 rfl ⟨rfl, rfl, trivial⟩ (fun w0 A => ?_)
  refine cj_seq ?_
  refine cj_reg ?_
  refine lp rfl (p_as rfl) ?_
  refine lp rfl (p_as rfl) ?_
  refine lj_seq ?_
  refine cj_seq ?_
  refine cj_seq ?_
  refine cj_reg ?_
  refine lp rfl (p_mv rfl) ?_
  refine lp rfl (p_mv rfl) ?_
  obtain ⟨y1, hy1, hm⟩ := bindS hm
  refine r_call [] cf12 rfl rfl (ok_piece_CheckTones s0_ a0 s1_ a1 hy1) rfl rfl (.cons (.ro 0 rfl) (.cons (.ro 1 rfl) (.cons (.ro 2 rfl) .nil))) (fun _ => rfl) rfl (fun _ => ?_)
  refine lp rfl (p_as rfl) ?_
  refine lj_seq ?_
  refine cj_seq ?_
  refine cj_reg ?_
  refine lp rfl (p_mv rfl) ?_
  refine lp rfl (p_neq rfl rfl) ?_
  refine lj_seq ?_
  refine cj_if (b := y1 != 0) rfl (fun hb => ?_) (fun hb => ?_)
  · have hm := ifB_t hb hm
    refine cj_seq ?_
    refine cj_reg ?_
    refine lp rfl (p_mv rfl) ?_
    refine lp rfl (p_as rfl) ?_
    refine lp rfl (p_as rfl) ?_
    refine lj_seq ?_
    obtain rfl := Option.some.inj hm
    exact cj_rt () [] Tryd.results24 (.tmp rfl (.tmp rfl .nil)) rfl rfl
  · have hm := ifB_f hb hm
    refine cj_skip ?_
    refine nj_seq ?_
    refine cj_seq ?_
    refine cj_reg ?_
    refine r_alB ty101 5 rfl (fun b2 => ?_)
    refine lj_seq ?_
    refine cj_seq ?_
    refine cj_reg ?_
    refine lp rfl (p_as rfl) ?_
    refine lj_seq ?_
    refine cj_seq ?_
    refine cj_seq ?_
    refine cj_reg ?_
    refine lp rfl (p_mv rfl) ?_
    refine lp rfl (p_mv rfl) ?_
    obtain ⟨y3, hy3, hm⟩ := bindS hm
    refine r_call [] cf41 rfl rfl (ok_piece_playedTones s0_ a0 s1_ a1 hy3) rfl rfl (.cons (.ro 1 rfl) (.cons (.ro 2 rfl) .nil)) (fun _ => rfl) rfl (fun s4 => ?_)
    refine lp rfl (p_len Tryd.underlying28 rfl (.row 0 rfl)) ?_
    refine lp rfl (p_mv rfl) ?_
    refine lj_seq ?_
    obtain ⟨f11, hf11, hm⟩ := bindS hm
    refine cj_range (γ := SV) (m := (y3.length : Int)) hf11 nilS (fun u8 g9 => [(4, .string ByteArray.empty), (5, .int .i64 0), (7, .pointer (some ⟨b2, 0, none⟩)), (8, .string u8.1), (21, s4.v)]) (fun u8 g9 => Sat w0 (keys ([] : List Ent)) A [.row R50 (SV.v s4) y3, .obj (bldO 101 5 b2 g9 u8.2.data.toList), .ro UtfT]) ⟨rfl, rfl, rfl, rfl, rfl, rfl, rfl, trivial⟩ (fun _ h => h.picks [0, 0, 2] rfl) (nat_lt _) (fun _ h => (FactAt.get (F := RdS R50 (SV.v s4) y3) (.row 0 rfl) h).1) (fun _ _ => ⟨rfl, rfl, rfl, rfl⟩) ⟨rfl, rfl, rfl, rfl, rfl⟩ rfl rfl rfl (fun u8 g9 e => ?_) (fun aftk10 i5 x6 u8 g9 k10 hx7 hs J hJk10 hBk10 hX I cnk10 => ?_)
    · have hm := Flow.fin_b e hm
      refine nj_seq ?_
      refine cj_seq ?_
      refine cj_seq ?_
      refine cj_reg ?_
      refine r_call [1] cf65 rfl rfl (ok_bLen b2 g9 u8.2) rfl rfl .nil (fun _ => rfl) rfl (fun _ => ?_)
      refine lp rfl (p_gtr rfl rfl) ?_
      refine lj_seq ?_
      refine cj_if (b := decide ((u8.2.size : Int) > 200000)) rfl (fun hb => ?_) (fun hb => ?_)
      · have hm := ifB_t hb hm
        refine cj_seq ?_
        refine cj_reg ?_
        refine lp rfl (p_as rfl) ?_
        refine lp rfl (p_as rfl) ?_
        refine lj_seq ?_
        obtain rfl := Option.some.inj hm
        exact cj_rt () [] Tryd.results24 (.tmp rfl (.tmp rfl .nil)) rfl rfl
      · have hm := ifB_f hb hm
        refine cj_skip ?_
        refine nj_seq ?_
        refine cj_seq ?_
        refine cj_reg ?_
        refine r_call [0] cf66 rfl rfl (ok_bString b2 g9 u8.2) rfl rfl .nil (fun _ => rfl) rfl (fun _ => ?_)
        refine lp rfl (p_as rfl) ?_
        refine lp rfl (p_as rfl) ?_
        refine lj_seq ?_
        obtain rfl := Option.some.inj hm
        exact cj_rt () [] Tryd.results24 (.tmp rfl (.tmp rfl .nil)) rfl rfl
    · have hRk10 : ∀ t, k10 = .ret t → some t = some r := fun t e => by rw [hX t e] at hm; exact hm
      have hm := hs
      refine cj_seq ?_
      refine cj_reg ?_
      refine lp rfl (p_idx Tryd.underlying28 ty50 rfl rfl (.row 0 rfl) (getI_nat.trans hx7)) ?_
      refine lp rfl (p_lea ty50 rfl (.row 0 rfl) hx7) ?_
      refine r_al ty50 rfl (fun b12 => ?_)
      refine r_sb (vs := [.int .i64 x6.Note, .int .i64 x6.Long.Num, .int .i64 x6.Long.Den, .string x6.Text, .bool x6.Tied]) (j := 0) ty50 rfl rfl rfl rfl rfl rfl rfl ?_
      refine lj_seq ?_
      refine cj_seq ?_
      refine cj_seq ?_
      refine cj_reg ?_
      refine lp rfl (p_fab fl50_2 rfl) ?_
      refine lp rfl (p_lbs ty9 rfl (j := 0) rfl rfl) ?_
      refine lp rfl (p_eqs rfl rfl) ?_
      refine lj_seq ?_
      refine cj_if (b := x6.Text.toList == ByteArray.empty.toList) rfl (fun hb => ?_) (fun hb => ?_)
      · have hm := ifB_t hb hm
        refine cj_exit rfl ?_
        exact cnk10 _ _ (u8.1, u8.2) g9 (hJk10 _ (Option.some.inj hm).symm) ⟨rfl, rfl, rfl, rfl, rfl, rfl, rfl, trivial⟩ (fun _ h => h.picks [1, 1, 1] rfl)
      · have hm := ifB_f hb hm
        refine cj_skip ?_
        refine nj_seq ?_
        refine cj_seq ?_
        refine cj_reg ?_
        refine lp rfl (p_fab fl50_2 rfl) ?_
        refine lp rfl (p_lbs ty9 rfl (j := 0) rfl rfl) ?_
        obtain ⟨y13, hy13, hm⟩ := bindS hm
        refine r_call [] cf63 rfl rfl (ok_strings_CutSuffix x6.Text (ByteArray.mk [45].toArray) hy13) rfl rfl .nil (fun _ => rfl) rfl (fun _ => ?_)
        refine lp rfl (p_mv rfl) ?_
        refine lp rfl (p_ext rfl rfl) ?_
        refine lp rfl (p_ext rfl rfl) ?_
        refine lp rfl (p_as rfl) ?_
        refine lp rfl (p_as rfl) ?_
        refine lj_seq ?_
        refine cj_seq ?_
        refine cj_reg ?_
        refine lp rfl (p_mv rfl) ?_
        refine lp rfl (p_mv rfl) ?_
        obtain ⟨c14, hc14, hm⟩ := bindS hm
        refine lp rfl (p_catM hc14 rfl rfl) ?_
        obtain ⟨y15, hy15, hm⟩ := bindS hm
        refine r_call [2] cf64 rfl rfl (ok_bWriteString b2 g9 u8.2 c14 hy15) rfl rfl .nil (fun _ => rfl) rfl (fun s16 => ?_)
        refine lj_seq ?_
        refine cj_seq ?_
        refine cj_reg ?_
        refine lp rfl (p_as rfl) ?_
        refine lj_seq ?_
        refine cj_seq ?_
        refine cj_reg ?_
        refine lp rfl (p_mv rfl) ?_
        refine lj_seq ?_
        refine cj_if (b := y13.2) rfl (fun hb => ?_) (fun hb => ?_)
        · have hm := ifB_t hb hm
          refine cj_reg ?_
          refine lp rfl (p_as rfl) ?_
          refine lj_nil ?_
          refine nj_blk ?_
          exact cnk10 _ _ (ByteArray.empty, y15) s16 (hJk10 _ (Option.some.inj hm).symm) ⟨rfl, rfl, rfl, rfl, rfl, rfl, rfl, trivial⟩ (fun _ h => h.picks [2, 0, 1] rfl)
        · have hm := ifB_f hb hm
          refine cj_skip ?_
          refine nj_blk ?_
          exact cnk10 _ _ ((ByteArray.mk [32].toArray), y15) s16 (hJk10 _ (Option.some.inj hm).symm) ⟨rfl, rfl, rfl, rfl, rfl, rfl, rfl, trivial⟩ (fun _ h => h.picks [2, 0, 1] rfl)
theorem ok_piece_Silent_1 (a0 : TTone) {r : Bool} (hm : m_piece_Silent_1 a0 = some r) :
    Ctr Tryd.prog 68 [.agg (R50.enc a0).toArray].toArray ([] : List Ent) [] (X := Unit) (fun _ => .bool r) (fun _ => []) := by
  unfold m_piece_Silent_1 at hm
  refine ctr_mk (vs := [(0, .agg (R50.enc a0).toArray)]) Tryd.func68 rfl Tryd.ntmps68 rfl ⟨rfl, trivial⟩ (fun w0 A => ?_)
  refine cj_seq ?_
  refine cj_reg ?_
  refine r_bx (cs := [.int .i64 a0.Note, .int .i64 a0.Long.Num, .int .i64 a0.Long.Den, .string a0.Text, .bool a0.Tied]) rfl rfl rfl (fun b1 => ?_)
  refine lp rfl (p_as rfl) ?_
  refine lj_seq ?_
  refine cj_seq ?_
  refine cj_reg ?_
  refine lp rfl (p_fab fl50_0 rfl) ?_
  refine lp rfl (p_lbs ty3 rfl (j := 0) rfl rfl) ?_
  refine lp rfl (p_neq rfl rfl) ?_
  refine lp rfl (p_as rfl) ?_
  refine lj_seq ?_
  obtain rfl := Option.some.inj hm
  exact cj_rt () [] Tryd.results68 (.tmp rfl .nil) rfl rfl
end Go.Proofs.YtnmaaiejcmgdkaaDoor
