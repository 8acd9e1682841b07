/- The walks. Written by program. -/
import Derived.Test.YtdeoejkgmeemaagGreatDoorW
namespace Go.Proofs.YtdeoejkgmeemaagGreatDoor
open Go Go.J Go.G
set_option maxRecDepth 100000
set_option linter.unusedVariables false
set_option linter.unusedSimpArgs false
theorem ok_piece_Sounds (s0_ : SV) (a0 : (List TBar)) (s1_ : SV) (a1 : (List TTone)) (a2 : TFraction) {r : Int × Bool × Int} (hm : m_piece_Sounds a0 a1 a2 = some r) :
  Ctr Tryz.prog 13 [s0_.v, s1_.v, .agg (R42.enc a2).toArray].toArray ([] : List Ent) [RdS R53 (SV.v s0_) a0, RdS R44 (SV.v s1_) a1, UtfT] (X := Unit) (fun _ => .tuple [.int .i64 r.1, .bool r.2.1, .int .i64 r.2.2].toArray) (fun _ => []) := by
 unfold m_piece_Sounds at hm
 refine ctr_mk (vs := [(0, s0_.v), (1, s1_.v), (2, .agg (R42.enc a2).toArray)]) Tryz.func13 rfl Tryz.ntmps13 rfl ⟨rfl, rfl, rfl, trivial⟩ (fun w0 A => ?_)
 refine cj_seq ?_
 refine cj_reg ?_
 refine r_bx (cs := [.int .i64 a2.Num, .int .i64 a2.Den]) rfl rfl rfl (fun b1 => ?_)
 refine lp rfl (p_as rfl) ?_
 refine lp rfl (p_as rfl) ?_
 refine lp rfl (p_as rfl) ?_
 refine lj_seq ?_
 refine cj_seq ?_
 refine cj_seq ?_
 refine cj_reg ?_
 refine lp rfl (p_mv rfl) ?_
 refine lp rfl (p_mv rfl) ?_
 obtain ⟨y2, hy2, hm⟩ := bindS hm
 refine r_call [] cf24 rfl rfl (ok_piece_CheckTones s0_ a0 s1_ a1 hy2) rfl rfl (.cons (.ro 1 rfl) (.cons (.ro 2 rfl) (.cons (.ro 3 rfl) .nil))) (fun _ => rfl) rfl (fun _ => ?_)
 refine lp rfl (p_as rfl) ?_
 refine lj_seq ?_
 refine cj_seq ?_
 refine cj_reg ?_
 refine lp rfl (p_mv rfl) ?_
 refine lp rfl (p_neq rfl rfl) ?_
 refine lj_seq ?_
 refine cj_if (b := y2 != 0) rfl (fun hb => ?_) (fun hb => ?_)
 ·have hm := ifB_t hb hm
  refine cj_seq ?_
  refine cj_reg ?_
  refine lp rfl (p_mv rfl) ?_
  refine lp rfl (p_as rfl) ?_
  refine lp rfl (p_as rfl) ?_
  refine lp rfl (p_as rfl) ?_
  refine lj_seq ?_
  obtain rfl := Option.some.inj hm
  exact cj_rt () [] Tryz.results13 (.tmp rfl (.tmp rfl (.tmp rfl .nil))) rfl rfl
 ·have hm := ifB_f hb hm
  refine cj_skip ?_
  refine nj_seq ?_
  refine cj_seq ?_
  refine cj_seq ?_
  refine cj_reg ?_
  refine lp rfl (p_lbw ty42 rfl (j := 0) rfl rfl) ?_
  obtain ⟨y3, hy3, hm⟩ := bindS hm
  refine r_call [] cf33 rfl rfl (ok_piece_isLowest a2 hy3) rfl rfl .nil (fun _ => rfl) rfl (fun _ => ?_)
  refine lp rfl (p_not rfl) ?_
  refine lj_seq ?_
  refine cj_if (b := !y3) rfl (fun hb => ?_) (fun hb => ?_)
  ·have hm := ifB_t hb hm
   refine cj_seq ?_
   refine cj_reg ?_
   refine lp rfl (p_as rfl) ?_
   refine lp rfl (p_as rfl) ?_
   refine lp rfl (p_as rfl) ?_
   refine lj_seq ?_
   obtain rfl := Option.some.inj hm
   exact cj_rt () [] Tryz.results13 (.tmp rfl (.tmp rfl (.tmp rfl .nil))) rfl rfl
  ·have hm := ifB_f hb hm
   refine cj_skip ?_
   refine nj_seq ?_
   refine cj_seq ?_
   refine cj_reg ?_
   refine lp rfl (p_as rfl) ?_
   refine lj_seq ?_
   refine cj_seq ?_
   refine cj_seq ?_
   refine cj_reg ?_
   refine lp rfl (p_mv rfl) ?_
   refine lp rfl (p_len Tryz.underlying26 rfl (.ro 1 rfl)) ?_
   refine lp rfl (p_mv rfl) ?_
   refine lj_seq ?_
   obtain ⟨f10, hf10, hm⟩ := bindS hm
   refine cj_range (γ := Unit) (m := (a0.length : Int)) hf10 () (fun u7 g8 => [(1, s1_.v), (5, .pointer (some ⟨b1, 0, none⟩)), (6, .int .i64 0), (7, .bool false), (8, .int .i64 0), (10, .int .i64 u7), (25, s0_.v)]) (fun u7 g8 => Sat w0 (keys ([] : List Ent)) A [.box b1 42 [.int .i64 a2.Num, .int .i64 a2.Den], .ro (RdS R53 (SV.v s0_) a0), .ro (RdS R44 (SV.v s1_) a1), .ro UtfT]) ⟨rfl, rfl, rfl, rfl, rfl, rfl, rfl, rfl, rfl, trivial⟩ (fun _ h => h.picks [0, 0, 0, 0] rfl) (nat_lt _) (fun _ h => (FactAt.get (F := RdS R53 (SV.v s0_) a0) (.ro 1 rfl) h).1) (fun _ _ => ⟨rfl, rfl, rfl, rfl⟩) ⟨rfl, rfl, rfl, rfl, rfl⟩ rfl rfl rfl (fun u7 g8 e => ?_) (fun aftk9 i4 x5 u7 g8 k9 hx6 hs J hJk9 hBk9 hX I cnk9 => ?_)
   ·have hm := Flow.fin_b e hm
    refine nj_seq ?_
    refine cj_seq ?_
    refine cj_seq ?_
    refine cj_reg ?_
    obtain ⟨k15, hk15, hm⟩ := bindS hm
    have hRk15 : ∀ t, k15 = .inr t → some t = some r := fun t e => by rw [e] at hm; exact hm
    refine lj_join (σ := Bool) (γ := Unit) (fun u13 => k15 = .inl u13) (fun u13 g14 => [(1, s1_.v), (5, .pointer (some ⟨b1, 0, none⟩)), (6, .int .i64 0), (7, .bool false), (8, .int .i64 0), (56, .bool u13)]) (fun u13 g14 => Sat w0 (keys ([] : List Ent)) A [.box b1 42 [.int .i64 a2.Num, .int .i64 a2.Den], .ro (RdS R44 (SV.v s1_) a1), .ro UtfT]) (fun u13 g14 hq => ?_) (fun J cnk15 => ?_)
    ·have hm := Sum.fin_l hq hm
     refine cj_if (b := u13) rfl (fun hb => ?_) (fun hb => ?_)
     ·have hm := ifB_t hb hm
      refine cj_seq ?_
      refine cj_reg ?_
      refine lp rfl (p_as rfl) ?_
      refine lp rfl (p_as rfl) ?_
      refine lp rfl (p_as rfl) ?_
      refine lj_seq ?_
      obtain rfl := Option.some.inj hm
      exact cj_rt () [] Tryz.results13 (.tmp rfl (.tmp rfl (.tmp rfl .nil))) rfl rfl
     ·have hm := ifB_f hb hm
      refine cj_skip ?_
      refine nj_seq ?_
      refine cj_seq ?_
      refine cj_reg ?_
      refine lp rfl (p_as rfl) ?_
      refine lj_seq ?_
      refine cj_seq ?_
      refine cj_seq ?_
      refine cj_reg ?_
      refine lp rfl (p_mv rfl) ?_
      refine lp rfl (p_len Tryz.underlying28 rfl (.ro 1 rfl)) ?_
      refine lp rfl (p_mv rfl) ?_
      refine lj_seq ?_
      obtain ⟨f24, hf24, hm⟩ := bindS hm
      refine cj_range (γ := Unit) (m := (a1.length : Int)) hf24 () (fun u21 g22 => [(5, .pointer (some ⟨b1, 0, none⟩)), (6, .int .i64 0), (7, .bool false), (8, .int .i64 0), (13, .int .i64 u21), (57, s1_.v)]) (fun u21 g22 => Sat w0 (keys ([] : List Ent)) A [.box b1 42 [.int .i64 a2.Num, .int .i64 a2.Den], .ro (RdS R44 (SV.v s1_) a1), .ro UtfT]) ⟨rfl, rfl, rfl, rfl, rfl, rfl, rfl, rfl, trivial⟩ (fun _ h => h.picks [0, 0, 0] rfl) (nat_lt _) (fun _ h => (FactAt.get (F := RdS R44 (SV.v s1_) a1) (.ro 1 rfl) h).1) (fun _ _ => ⟨rfl, rfl, rfl, rfl⟩) ⟨rfl, rfl, rfl, rfl, rfl⟩ rfl rfl rfl (fun u21 g22 e => ?_) (fun aftk23 i18 x19 u21 g22 k23 hx20 hs J hJk23 hBk23 hX I cnk23 => ?_)
      ·have hm := Flow.fin_b e hm
       refine nj_seq ?_
       refine cj_seq ?_
       refine cj_reg ?_
       refine lp rfl (p_as rfl) ?_
       refine lp rfl (p_as rfl) ?_
       refine lp rfl (p_as rfl) ?_
       refine lj_seq ?_
       obtain rfl := Option.some.inj hm
       exact cj_rt () [] Tryz.results13 (.tmp rfl (.tmp rfl (.tmp rfl .nil))) rfl rfl
      ·have hRk23 : ∀ t, k23 = .ret t → some t = some r := fun t e => by rw [hX t e] at hm; exact hm
       have hm := hs
       refine cj_seq ?_
       refine cj_reg ?_
       refine lp rfl (p_idx Tryz.underlying28 ty44 rfl rfl (.ro 1 rfl) (getI_nat.trans hx20)) ?_
       refine lp rfl (p_lea ty44 rfl (.ro 1 rfl) hx20) ?_
       refine r_al ty44 rfl (fun b25 => ?_)
       refine r_sb (vs := [.int .i64 x19.Note, .int .i64 x19.Long.Num, .int .i64 x19.Long.Den, .string x19.Text, .bool x19.Tied]) (j := 0) ty44 rfl rfl rfl rfl rfl rfl rfl ?_
       refine lj_seq ?_
       refine cj_seq ?_
       refine cj_reg ?_
       refine lp rfl (p_mv rfl) ?_
       refine lp rfl (p_fab fl44_1 rfl) ?_
       refine lp rfl (p_lba ty42 rfl (j := 0) rfl rfl) ?_
       obtain ⟨y26, hy26, hm⟩ := bindS hm
       refine r_call [] cf34 rfl rfl (ok_piece_units x19.Long hy26) rfl rfl .nil (fun _ => rfl) rfl (fun _ => ?_)
       refine lp rfl (p_add rfl rfl) ?_
       refine lp rfl (p_as rfl) ?_
       refine lj_seq ?_
       refine cj_seq ?_
       refine cj_reg ?_
       refine lp rfl (p_lbw ty42 rfl (j := 1) rfl rfl) ?_
       obtain ⟨y27, hy27, hm⟩ := bindS hm
       refine r_call [] cf34 rfl rfl (ok_piece_units a2 hy27) rfl rfl .nil (fun _ => rfl) rfl (fun _ => ?_)
       refine lp rfl (p_mv rfl) ?_
       refine lp rfl (p_lss rfl rfl) ?_
       refine lj_seq ?_
       refine cj_if (b := decide (y27 < (w64 (u21 + y26)))) rfl (fun hb => ?_) (fun hb => ?_)
       ·have hm := ifB_t hb hm
        refine cj_seq ?_
        refine cj_quiet (by kernel_rfl) (by kernel_rfl) ?_
        refine q_p rfl (p_fab fl44_0 rfl) ?_
        refine q_p rfl (p_lbs ty3 rfl (j := 0) rfl rfl) ?_
        refine q_p rfl (p_max rfl rfl) ?_
        refine q_p rfl (p_fab fl44_0 rfl) ?_
        refine q_p rfl (p_lbs ty3 rfl (j := 0) rfl rfl) ?_
        refine q_p rfl (p_neq rfl rfl) ?_
        refine q_p rfl (p_as rfl) ?_
        refine q_p rfl (p_as rfl) ?_
        refine q_p rfl (p_as rfl) ?_
        refine q_nil ?_
        refine nj_seq ?_
        have hm := hRk23 _ (Option.some.inj hm).symm
        obtain rfl := Option.some.inj hm
        exact cj_rt () [] Tryz.results13 (.tmp rfl (.tmp rfl (.tmp rfl .nil))) rfl rfl
       ·have hm := ifB_f hb hm
        refine cj_skip ?_
        refine nj_blk ?_
        exact cnk23 _ _ (w64 (u21 + y26)) () (hJk23 _ (Option.some.inj hm).symm) ⟨rfl, rfl, rfl, rfl, rfl, rfl, rfl, rfl, trivial⟩ (fun _ h => h.picks [1, 1, 1] rfl)
    ·have hm := hk15
     refine lp rfl (p_fab fl42_0 rfl) ?_
     refine lp rfl (p_lbs ty3 rfl (j := 0) rfl rfl) ?_
     refine lp rfl (p_lss rfl rfl) ?_
     refine lp rfl (p_mv rfl) ?_
     refine lcase (i := 39) (decide (a2.Num < 0)) rfl (fun hb => ?_) (fun hb => ?_)
     ·have hm := ifB_t hb hm
      refine ls false rfl rfl rfl rfl ?_
      refine ls false rfl rfl rfl rfl ?_
      refine ls false rfl rfl rfl rfl ?_
      refine ls false rfl rfl rfl rfl ?_
      refine lp rfl (p_pkt rfl rfl) ?_
      refine lp rfl (p_mv rfl) ?_
      refine ls false rfl rfl rfl rfl ?_
      refine ls false rfl rfl rfl rfl ?_
      refine ls false rfl rfl rfl rfl ?_
      refine ls false rfl rfl rfl rfl ?_
      refine lp rfl (p_pkt rfl rfl) ?_
      refine lp rfl (p_mv rfl) ?_
      refine ls false rfl rfl rfl rfl ?_
      refine ls false rfl rfl rfl rfl ?_
      refine ls false rfl rfl rfl rfl ?_
      refine ls false rfl rfl rfl rfl ?_
      refine lp rfl (p_pkt rfl rfl) ?_
      refine lj_nil ?_
      exact cnk15 _ _ true () (Option.some.inj hm).symm ⟨rfl, rfl, rfl, rfl, rfl, rfl, trivial⟩ (fun _ h => h.picks [0, 1, 1] rfl)
     ·have hm := ifB_f hb hm
      refine lg false rfl rfl rfl ?_
      refine lp rfl (p_fab fl42_1 rfl) ?_
      refine lg false rfl rfl rfl ?_
      refine lp rfl (p_lbs ty3 rfl (j := 0) rfl rfl) ?_
      refine lg false rfl rfl rfl ?_
      obtain ⟨z16, hz16, hm⟩ := bindS hm
      refine lp rfl (p_remM hz16 rfl rfl) ?_
      refine lg false rfl rfl rfl ?_
      refine lp rfl (p_neq rfl rfl) ?_
      refine lp rfl (p_pkf rfl rfl) ?_
      refine lp rfl (p_mv rfl) ?_
      refine lcase (i := 45) (z16 != 0) rfl (fun hb => ?_) (fun hb => ?_)
      ·have hm := ifB_t hb hm
       refine ls false rfl rfl rfl rfl ?_
       refine ls false rfl rfl rfl rfl ?_
       refine ls false rfl rfl rfl rfl ?_
       refine ls false rfl rfl rfl rfl ?_
       refine lp rfl (p_pkt rfl rfl) ?_
       refine lp rfl (p_mv rfl) ?_
       refine ls false rfl rfl rfl rfl ?_
       refine ls false rfl rfl rfl rfl ?_
       refine ls false rfl rfl rfl rfl ?_
       refine ls false rfl rfl rfl rfl ?_
       refine lp rfl (p_pkt rfl rfl) ?_
       refine lj_nil ?_
       exact cnk15 _ _ true () (Option.some.inj hm).symm ⟨rfl, rfl, rfl, rfl, rfl, rfl, trivial⟩ (fun _ h => h.picks [0, 1, 1] rfl)
      ·have hm := ifB_f hb hm
       refine lg false rfl rfl rfl ?_
       refine lp rfl (p_fab fl42_0 rfl) ?_
       refine lg false rfl rfl rfl ?_
       refine lp rfl (p_lbs ty3 rfl (j := 0) rfl rfl) ?_
       refine lg false rfl rfl rfl ?_
       refine lp rfl (p_mv rfl) ?_
       refine lg false rfl rfl rfl ?_
       refine lp rfl (p_gtr rfl rfl) ?_
       refine lp rfl (p_pkf rfl rfl) ?_
       refine lp rfl (p_mv rfl) ?_
       refine lcase (i := 51) (decide (a2.Num > u7)) rfl (fun hb => ?_) (fun hb => ?_)
       ·have hm := ifB_t hb hm
        refine ls false rfl rfl rfl rfl ?_
        refine ls false rfl rfl rfl rfl ?_
        refine ls false rfl rfl rfl rfl ?_
        refine ls false rfl rfl rfl rfl ?_
        refine lp rfl (p_pkt rfl rfl) ?_
        refine lj_nil ?_
        exact cnk15 _ _ true () (Option.some.inj hm).symm ⟨rfl, rfl, rfl, rfl, rfl, rfl, trivial⟩ (fun _ h => h.picks [0, 1, 1] rfl)
       ·have hm := ifB_f hb hm
        refine lg false rfl rfl rfl ?_
        refine lp rfl (p_lbw ty42 rfl (j := 0) rfl rfl) ?_
        refine lg false rfl rfl rfl ?_
        obtain ⟨y17, hy17, hm⟩ := bindS hm
        refine r_call [] cf34 rfl rfl (ok_piece_units a2 hy17) rfl rfl .nil (fun _ => rfl) rfl (fun _ => ?_)
        refine lg false rfl rfl rfl ?_
        refine lp rfl (p_mv rfl) ?_
        refine lg false rfl rfl rfl ?_
        refine lp rfl (p_geq rfl rfl) ?_
        refine lp rfl (p_pkf rfl rfl) ?_
        refine lj_nil ?_
        exact cnk15 _ _ (decide (y17 ≥ u7)) () (Option.some.inj hm).symm ⟨rfl, rfl, rfl, rfl, rfl, rfl, trivial⟩ (fun _ h => h.picks [0, 1, 1] rfl)
   ·have hRk9 : ∀ t, k9 = .ret t → some t = some r := fun t e => by rw [hX t e] at hm; exact hm
    have hm := hs
    refine cj_seq ?_
    refine cj_reg ?_
    refine lp rfl (p_idx Tryz.underlying26 ty53 rfl rfl (.ro 1 rfl) (getI_nat.trans hx6)) ?_
    refine lp rfl (p_lea ty53 rfl (.ro 1 rfl) hx6) ?_
    refine r_al ty53 rfl (fun b11 => ?_)
    refine r_sb (vs := [.int .i64 x5.Beats, .int .i64 x5.Unit, .int .i64 x5.Close, .int .i64 x5.Ending, .bool x5.Open]) (j := 0) ty53 rfl rfl rfl rfl rfl rfl rfl ?_
    refine lj_seq ?_
    refine cj_reg ?_
    refine lp rfl (p_mv rfl) ?_
    refine lp rfl (p_lbw ty53 rfl (j := 0) rfl rfl) ?_
    obtain ⟨y12, hy12, hm⟩ := bindS hm
    refine r_call [] cf23 rfl rfl (ok_piece_long x5 hy12) rfl rfl .nil (fun _ => rfl) rfl (fun _ => ?_)
    refine lp rfl (p_add rfl rfl) ?_
    refine lp rfl (p_as rfl) ?_
    refine lj_nil ?_
    refine nj_blk ?_
    exact cnk9 _ _ (w64 (u7 + y12)) () (hJk9 _ (Option.some.inj hm).symm) ⟨rfl, rfl, rfl, rfl, rfl, rfl, rfl, rfl, rfl, trivial⟩ (fun _ h => h.picks [1, 1, 1, 1] rfl)
theorem ok_piece_Order (s0_ : SV) (a0 : (List TBar)) {r : (List Int) × Int} (hm : m_piece_Order a0 = some r) :
  Ctr Tryz.prog 35 [s0_.v].toArray ([] : List Ent) [RdS R53 (SV.v s0_) a0] (X := SV) (fun s => .tuple [s.v, .int .i64 r.2].toArray) (fun s => [.row R3 (SV.v s) r.1]) := by
 unfold m_piece_Order at hm
 refine ctr_mk (vs := [(0, s0_.v)]) Tryz.func35 rfl Tryz.ntmps35 rfl ⟨rfl, trivial⟩ (fun w0 A => ?_)
 refine cj_seq ?_
 refine cj_reg ?_
 refine lp rfl (p_as rfl) ?_
 refine lp rfl (p_as rfl) ?_
 refine lj_seq ?_
 refine cj_seq ?_
 refine cj_seq ?_
 refine cj_reg ?_
 refine lp rfl (p_mv rfl) ?_
 obtain ⟨y1, hy1, hm⟩ := bindS hm
 refine r_call [] cf21 rfl rfl (ok_piece_CheckBars s0_ a0 hy1) rfl rfl (.cons (.ro 0 rfl) .nil) (fun _ => rfl) rfl (fun _ => ?_)
 refine lp rfl (p_as rfl) ?_
 refine lj_seq ?_
 refine cj_seq ?_
 refine cj_reg ?_
 refine lp rfl (p_mv rfl) ?_
 refine lp rfl (p_neq rfl rfl) ?_
 refine lj_seq ?_
 refine cj_if (b := y1 != 0) rfl (fun hb => ?_) (fun hb => ?_)
 ·have hm := ifB_t hb hm
  refine cj_seq ?_
  refine cj_reg ?_
  refine lp rfl (p_mv rfl) ?_
  refine lp rfl (p_as rfl) ?_
  refine lp rfl (p_as rfl) ?_
  refine lj_seq ?_
  obtain rfl := Option.some.inj hm
  refine cj_nil R3 ?_
  exact cj_rt nilS [0] Tryz.results35 (.tmp rfl (.tmp rfl .nil)) rfl rfl
 ·have hm := ifB_f hb hm
  refine cj_skip ?_
  refine nj_seq ?_
  refine cj_seq ?_
  refine cj_reg ?_
  refine lp rfl (p_mv rfl) ?_
  obtain ⟨y3, hy3, hm⟩ := bindS hm
  refine r_call [] cf48 rfl rfl (ok_piece_played s0_ a0 hy3) rfl rfl (.cons (.ro 0 rfl) .nil) (fun _ => rfl) rfl (fun s4 => ?_)
  refine lp rfl (p_as rfl) ?_
  refine lp rfl (p_as rfl) ?_
  refine lj_seq ?_
  obtain rfl := Option.some.inj hm
  exact cj_rt s4 [0] Tryz.results35 (.tmp rfl (.tmp rfl .nil)) rfl rfl
theorem ok_chord_isKind (a0 : Int) {r : Bool} (hm : m_chord_isKind a0 = some r) :
  Ctr Tryz.prog 84 [.int .i64 a0].toArray ([] : List Ent) [] (X := Unit) (fun _ => .bool r) (fun _ => []) := by
 unfold m_chord_isKind at hm
 refine ctr_mk (vs := [(0, .int .i64 a0)]) Tryz.func84 rfl Tryz.ntmps84 rfl ⟨rfl, trivial⟩ (fun w0 A => ?_)
 refine cj_seq ?_
 refine cj_reg ?_
 refine lp rfl (p_as rfl) ?_
 refine lj_seq ?_
 refine cj_seq ?_
 refine cj_reg ?_
 refine lp rfl (p_mv rfl) ?_
 obtain ⟨y1, hy1, hm⟩ := bindS hm
 refine r_call [] cf83 rfl rfl (ok_kit_Outside a0 1 7 hy1) rfl rfl .nil (fun _ => rfl) rfl (fun _ => ?_)
 refine lp rfl (p_not rfl) ?_
 refine lp rfl (p_as rfl) ?_
 refine lj_seq ?_
 obtain rfl := Option.some.inj hm
 exact cj_rt () [] Tryz.results84 (.tmp rfl .nil) rfl rfl
theorem ok_chord_above (a0 : Int) {r : (List Int)} (hm : m_chord_above a0 = some r) :
  Ctr Tryz.prog 85 [.int .i64 a0].toArray ([] : List Ent) [] (X := SV) (fun s => s.v) (fun s => [.ro (RdS R3 (SV.v s) r)]) := by
 unfold m_chord_above at hm
 refine ctr_mk (vs := [(0, .int .i64 a0)]) Tryz.func85 rfl Tryz.ntmps85 rfl ⟨rfl, trivial⟩ (fun w0 A => ?_)
 refine cj_seq ?_
 refine cj_reg ?_
 refine lp rfl (p_as rfl) ?_
 refine lj_seq ?_
 refine cj_seq ?_
 refine cj_reg ?_
 refine r_bs R3 [0, 4, 7] rfl rfl rfl (fun _ => by kernel_rfl) rfl (fun s1 => ?_)
 refine r_bs R3 [0, 3, 7] rfl rfl rfl (fun _ => by kernel_rfl) rfl (fun s2 => ?_)
 refine r_bs R3 [0, 3, 6] rfl rfl rfl (fun _ => by kernel_rfl) rfl (fun s3 => ?_)
 refine r_bs R3 [0, 4, 8] rfl rfl rfl (fun _ => by kernel_rfl) rfl (fun s4 => ?_)
 refine r_bs R3 [0, 4, 7, 10] rfl rfl rfl (fun _ => by kernel_rfl) rfl (fun s5 => ?_)
 refine r_bs R3 [0, 4, 7, 11] rfl rfl rfl (fun _ => by kernel_rfl) rfl (fun s6 => ?_)
 refine r_bs R3 [0, 3, 7, 10] rfl rfl rfl (fun _ => by kernel_rfl) rfl (fun s7 => ?_)
 refine r_fz 6 rfl ?_
 refine r_fz 6 rfl ?_
 refine r_fz 6 rfl ?_
 refine r_fz 6 rfl ?_
 refine r_fz 6 rfl ?_
 refine r_fz 6 rfl ?_
 refine r_fz 6 rfl ?_
 refine r_fact (F := Lk N22 [[], [0, 4, 7], [0, 3, 7], [0, 3, 6], [0, 4, 8], [0, 4, 7, 10], [0, 4, 7, 11], [0, 3, 7, 10]] [([], nilS), ([0, 4, 7], s1), ([0, 3, 7], s2), ([0, 3, 6], s3), ([0, 4, 8], s4), ([0, 4, 7, 10], s5), ([0, 4, 7, 11], s6), ([0, 3, 7, 10], s7)]) (.imp (.and (.nilS R3) (.imp (.and (.ro 6 rfl) (.imp (.and (.ro 5 rfl) (.imp (.and (.ro 4 rfl) (.imp (.and (.ro 3 rfl) (.imp (.and (.ro 2 rfl) (.imp (.and (.ro 1 rfl) (.imp (.and (.ro 0 rfl) (.nilL N22)) (fun _ h => Lk.cons h.1 h.2))) (fun _ h => Lk.cons h.1 h.2))) (fun _ h => Lk.cons h.1 h.2))) (fun _ h => Lk.cons h.1 h.2))) (fun _ h => Lk.cons h.1 h.2))) (fun _ h => Lk.cons h.1 h.2))) (fun _ h => Lk.cons h.1 h.2))) (fun _ h => Lk.cons h.1 h.2)) ?_
 have hLs8 : (([([], nilS), ([0, 4, 7], s1), ([0, 3, 7], s2), ([0, 3, 6], s3), ([0, 4, 8], s4), ([0, 4, 7, 10], s5), ([0, 4, 7, 11], s6), ([0, 3, 7, 10], s7)] : List ((List Int) × SV)).map Prod.fst) = ([[], [0, 4, 7], [0, 3, 7], [0, 3, 6], [0, 4, 8], [0, 4, 7, 10], [0, 4, 7, 11], [0, 3, 7, 10]] : List (List Int)) := rfl
 refine r_bs N22.R [([], nilS), ([0, 4, 7], s1), ([0, 3, 7], s2), ([0, 3, 6], s3), ([0, 4, 8], s4), ([0, 4, 7, 10], s5), ([0, 4, 7, 11], s6), ([0, 3, 7, 10], s7)] rfl rfl rfl (fun _ => by kernel_rfl) rfl (fun s8 => ?_)
 refine lp rfl (p_mv rfl) ?_
 obtain ⟨e12, he12, hm⟩ := bindS hm
 obtain ⟨ge12, he12G⟩ := lk_getI hLs8 he12
 refine lp rfl (p_idx Tryz.underlying175 ty22 rfl rfl (.row 0 rfl) he12G) ?_
 refine lp rfl (p_lde (o := 0) ty22 rfl rfl (.row 0 rfl) (getI_spec he12G).2 rfl) ?_
 refine lp rfl (p_as rfl) ?_
 refine lj_seq ?_
 obtain rfl := Option.some.inj hm
 refine cj_fact (F := RdS R3 (SV.v ge12) e12) (.imp (.ro 1 rfl) (fun _ h => (Lk.at_ h (getI_spec he12G).2))) ?_
 exact cj_rt ge12 [0] Tryz.results85 (.tmp rfl .nil) rfl rfl
theorem ok_chord_CheckChord (a0 : TChord) {r : Int} (hm : m_chord_CheckChord a0 = some r) :
  Ctr Tryz.prog 57 [.agg (R86.enc a0).toArray].toArray ([] : List Ent) [] (X := Unit) (fun _ => .int .i64 r) (fun _ => []) := by
 unfold m_chord_CheckChord at hm
 refine ctr_mk (vs := [(0, .agg (R86.enc a0).toArray)]) Tryz.func57 rfl Tryz.ntmps57 rfl ⟨rfl, trivial⟩ (fun w0 A => ?_)
 refine cj_seq ?_
 refine cj_reg ?_
 refine r_bx (cs := [.int .i64 a0.Root, .int .i64 a0.Kind, .int .i64 a0.Turn]) rfl rfl rfl (fun b1 => ?_)
 refine lp rfl (p_as rfl) ?_
 refine lj_seq ?_
 refine cj_seq ?_
 refine cj_seq ?_
 refine cj_reg ?_
 refine lp rfl (p_fab fl86_0 rfl) ?_
 refine lp rfl (p_lbs ty3 rfl (j := 0) rfl rfl) ?_
 obtain ⟨y2, hy2, hm⟩ := bindS hm
 refine r_call [] cf83 rfl rfl (ok_kit_Outside a0.Root 0 11 hy2) rfl rfl .nil (fun _ => rfl) rfl (fun _ => ?_)
 refine lj_seq ?_
 refine cj_if (b := y2) rfl (fun hb => ?_) (fun hb => ?_)
 ·have hm := ifB_t hb hm
  refine cj_seq ?_
  refine cj_reg ?_
  refine lp rfl (p_as rfl) ?_
  refine lj_seq ?_
  obtain rfl := Option.some.inj hm
  exact cj_rt () [] Tryz.results57 (.tmp rfl .nil) rfl rfl
 ·have hm := ifB_f hb hm
  refine cj_skip ?_
  refine nj_seq ?_
  refine cj_seq ?_
  refine cj_seq ?_
  refine cj_reg ?_
  refine lp rfl (p_fab fl86_1 rfl) ?_
  refine lp rfl (p_lbs ty3 rfl (j := 0) rfl rfl) ?_
  obtain ⟨y3, hy3, hm⟩ := bindS hm
  refine r_call [] cf84 rfl rfl (ok_chord_isKind a0.Kind hy3) rfl rfl .nil (fun _ => rfl) rfl (fun _ => ?_)
  refine lp rfl (p_not rfl) ?_
  refine lj_seq ?_
  refine cj_if (b := !y3) rfl (fun hb => ?_) (fun hb => ?_)
  ·have hm := ifB_t hb hm
   refine cj_seq ?_
   refine cj_reg ?_
   refine lp rfl (p_as rfl) ?_
   refine lj_seq ?_
   obtain rfl := Option.some.inj hm
   exact cj_rt () [] Tryz.results57 (.tmp rfl .nil) rfl rfl
  ·have hm := ifB_f hb hm
   refine cj_skip ?_
   refine nj_seq ?_
   refine cj_seq ?_
   refine cj_seq ?_
   obtain ⟨y4, hy4, hm⟩ := bindS hm
   obtain ⟨y6, hy6, hm⟩ := bindS hm
   refine cj_anyT [0, 1, 2, 3, 6] [] (Sat w0 (keys ([] : List Ent)) A [.box b1 86 [.int .i64 a0.Root, .int .i64 a0.Kind, .int .i64 a0.Turn]]) (Sat w0 (keys ([] : List Ent)) A [.box b1 86 [.int .i64 a0.Root, .int .i64 a0.Kind, .int .i64 a0.Turn]]) (by kernel_rfl) ?_
   refine at_take2 0 rfl (by kernel_rfl) (by kernel_rfl) (by kernel_rfl) (fun _ h => h.picks [0] rfl) rfl rfl (p_fab fl86_2 rfl) (fun _ h => h.picks [0] rfl) ?_
   refine at_take2 1 rfl (by kernel_rfl) (by kernel_rfl) (by kernel_rfl) (fun _ h => h.picks [0] rfl) rfl rfl (p_lbs ty3 rfl (j := 0) rfl rfl) (fun _ h => h.picks [0] rfl) ?_
   refine at_take2 2 rfl (by kernel_rfl) (by kernel_rfl) (by kernel_rfl) (fun _ h => h.picks [0] rfl) rfl rfl (p_fab fl86_1 rfl) (fun _ h => h.picks [0] rfl) ?_
   refine at_take2 3 rfl (by kernel_rfl) (by kernel_rfl) (by kernel_rfl) (fun _ h => h.picks [0] rfl) rfl rfl (p_lbs ty3 rfl (j := 0) rfl rfl) (fun _ h => h.picks [0] rfl) ?_
   refine at_each (rs := [4]) (by kernel_rfl) (by decide) ?_
   refine (.cons rfl (fun I cnI => ?_) .nil)
   ·refine r_callN [] cf85 rfl rfl (ok_chord_above a0.Kind hy4) rfl rfl .nil rfl (fun s7 => ?_)
    refine lj_nil ?_
    refine cnI _ _ (sof1 rfl rfl (fun _ h => h.picks [1] rfl)) ?_
    refine at_each (rs := [5]) (by kernel_rfl) (by decide) ?_
    refine (.cons rfl (fun I cnI => ?_) .nil)
    ·refine lp rfl (p_len Tryz.underlying22 rfl (.ro 0 rfl)) ?_
     refine lj_nil ?_
     refine cnI _ _ (sof1 rfl rfl (fun _ h => h.picks [1] rfl)) ?_
     refine at_take2 6 rfl (by kernel_rfl) (by kernel_rfl) (by kernel_rfl) (fun _ h => h.picks [0] rfl) rfl rfl (p_sub rfl rfl) (fun _ h => h.picks [1] rfl) ?_
     refine at_each (rs := [7]) (by kernel_rfl) (by decide) ?_
     refine (.cons rfl (fun I cnI => ?_) .nil)
     ·refine r_call [] cf83 rfl rfl (ok_kit_Outside a0.Turn 0 (w64 ((y4.length : Int) - 1)) hy6) rfl rfl .nil (fun _ => rfl) rfl (fun _ => ?_)
      refine lj_nil ?_
      refine cnI _ _ (sof1 rfl rfl (fun _ h => h.picks [1] rfl)) ?_
      refine at_done (by kernel_rfl) ?_
      refine nj_seq ?_
      refine cj_if (b := y6) rfl (fun hb => ?_) (fun hb => ?_)
      ·have hm := ifB_t hb hm
       refine cj_seq ?_
       refine cj_reg ?_
       refine lp rfl (p_as rfl) ?_
       refine lj_seq ?_
       obtain rfl := Option.some.inj hm
       exact cj_rt () [] Tryz.results57 (.tmp rfl .nil) rfl rfl
      ·have hm := ifB_f hb hm
       refine cj_skip ?_
       refine nj_seq ?_
       refine cj_seq ?_
       refine cj_reg ?_
       refine lp rfl (p_as rfl) ?_
       refine lj_seq ?_
       obtain rfl := Option.some.inj hm
       exact cj_rt () [] Tryz.results57 (.tmp rfl .nil) rfl rfl
theorem ok_chord_rootWords  {r : (List ByteArray)} (hm : m_chord_rootWords  = some r) :
  Ctr Tryz.prog 58 [].toArray ([] : List Ent) [] (X := SV) (fun s => s.v) (fun s => [.row R9 (SV.v s) r]) := by
 unfold m_chord_rootWords at hm
 refine ctr_mk (vs := []) Tryz.func58 rfl Tryz.ntmps58 rfl trivial (fun w0 A => ?_)
 refine cj_seq ?_
 refine cj_reg ?_
 refine lp rfl (p_as rfl) ?_
 refine lj_seq ?_
 refine cj_seq ?_
 refine cj_reg ?_
 refine r_bs R9 [(ByteArray.mk [99].toArray), (ByteArray.mk [99, 35].toArray), (ByteArray.mk [100].toArray), (ByteArray.mk [100, 35].toArray), (ByteArray.mk [101].toArray), (ByteArray.mk [102].toArray), (ByteArray.mk [102, 35].toArray), (ByteArray.mk [103].toArray), (ByteArray.mk [103, 35].toArray), (ByteArray.mk [97].toArray), (ByteArray.mk [97, 35].toArray), (ByteArray.mk [98].toArray)] rfl rfl rfl (fun _ => by kernel_rfl) rfl (fun s1 => ?_)
 refine lp rfl (p_as rfl) ?_
 refine lj_seq ?_
 obtain rfl := Option.some.inj hm
 exact cj_rt s1 [0] Tryz.results58 (.tmp rfl .nil) rfl rfl
theorem ok_chord_kindWords  {r : (List ByteArray)} (hm : m_chord_kindWords  = some r) :
  Ctr Tryz.prog 59 [].toArray ([] : List Ent) [] (X := SV) (fun s => s.v) (fun s => [.row R9 (SV.v s) r]) := by
 unfold m_chord_kindWords at hm
 refine ctr_mk (vs := []) Tryz.func59 rfl Tryz.ntmps59 rfl trivial (fun w0 A => ?_)
 refine cj_seq ?_
 refine cj_reg ?_
 refine lp rfl (p_as rfl) ?_
 refine lj_seq ?_
 refine cj_seq ?_
 refine cj_reg ?_
 refine r_bs R9 [ByteArray.empty, (ByteArray.mk [109, 97, 106].toArray), (ByteArray.mk [109, 105, 110].toArray), (ByteArray.mk [100, 105, 109].toArray), (ByteArray.mk [97, 117, 103].toArray), (ByteArray.mk [55].toArray), (ByteArray.mk [109, 97, 106, 55].toArray), (ByteArray.mk [109, 105, 110, 55].toArray)] rfl rfl rfl (fun _ => by kernel_rfl) rfl (fun s1 => ?_)
 refine lp rfl (p_as rfl) ?_
 refine lj_seq ?_
 obtain rfl := Option.some.inj hm
 exact cj_rt s1 [0] Tryz.results59 (.tmp rfl .nil) rfl rfl
theorem ok_chord_Name (a0 : TChord) {r : ByteArray × Int} (hm : m_chord_Name a0 = some r) :
  Ctr Tryz.prog 36 [.agg (R86.enc a0).toArray].toArray ([] : List Ent) [PowT] (X := Unit) (fun _ => .tuple [.string r.1, .int .i64 r.2].toArray) (fun _ => []) := by
 unfold m_chord_Name at hm
 refine ctr_mk (vs := [(0, .agg (R86.enc a0).toArray)]) Tryz.func36 rfl Tryz.ntmps36 rfl ⟨rfl, trivial⟩ (fun w0 A => ?_)
 refine cj_seq ?_
 refine cj_reg ?_
 refine r_bx (cs := [.int .i64 a0.Root, .int .i64 a0.Kind, .int .i64 a0.Turn]) rfl rfl rfl (fun b1 => ?_)
 refine lp rfl (p_as rfl) ?_
 refine lp rfl (p_as rfl) ?_
 refine lj_seq ?_
 refine cj_seq ?_
 refine cj_seq ?_
 refine cj_reg ?_
 refine lp rfl (p_lbw ty86 rfl (j := 0) rfl rfl) ?_
 obtain ⟨y2, hy2, hm⟩ := bindS hm
 refine r_call [] cf57 rfl rfl (ok_chord_CheckChord a0 hy2) rfl rfl .nil (fun _ => rfl) rfl (fun _ => ?_)
 refine lp rfl (p_as rfl) ?_
 refine lj_seq ?_
 refine cj_seq ?_
 refine cj_reg ?_
 refine lp rfl (p_mv rfl) ?_
 refine lp rfl (p_neq rfl rfl) ?_
 refine lj_seq ?_
 refine cj_if (b := y2 != 0) rfl (fun hb => ?_) (fun hb => ?_)
 ·have hm := ifB_t hb hm
  refine cj_seq ?_
  refine cj_reg ?_
  refine lp rfl (p_mv rfl) ?_
  refine lp rfl (p_as rfl) ?_
  refine lp rfl (p_as rfl) ?_
  refine lj_seq ?_
  obtain rfl := Option.some.inj hm
  exact cj_rt () [] Tryz.results36 (.tmp rfl (.tmp rfl .nil)) rfl rfl
 ·have hm := ifB_f hb hm
  refine cj_skip ?_
  refine nj_seq ?_
  refine cj_seq ?_
  obtain ⟨k5, hk5, hm⟩ := bindS hm
  have hRk5 : ∀ t, k5 = .inr t → some t = some r := fun t e => by rw [e] at hm; exact hm
  refine cj_joinK (σ := ByteArray) (γ := Unit) (fun u3 => k5 = .inl u3) (fun u3 g4 => [(1, .pointer (some ⟨b1, 0, none⟩)), (2, .string ByteArray.empty), (3, .int .i64 0), (5, .string u3)]) (fun u3 g4 => Sat w0 (keys ([] : List Ent)) A [.box b1 86 [.int .i64 a0.Root, .int .i64 a0.Kind, .int .i64 a0.Turn], .ro PowT]) (fun u3 g4 hq => ?_) (fun J cnk5 => ?_)
  ·have hm := Sum.fin_l hq hm
   refine cj_seq ?_
   refine cj_seq ?_
   refine cj_reg ?_
   refine lp rfl (p_fab fl86_2 rfl) ?_
   refine lp rfl (p_lbs ty3 rfl (j := 0) rfl rfl) ?_
   refine lp rfl (p_gtr rfl rfl) ?_
   refine lj_seq ?_
   refine cj_if (b := decide (a0.Turn > 0)) rfl (fun hb => ?_) (fun hb => ?_)
   ·have hm := ifB_t hb hm
    refine cj_reg ?_
    refine lp rfl (p_mv rfl) ?_
    refine lp rfl (p_fab fl86_2 rfl) ?_
    refine lp rfl (p_lbs ty3 rfl (j := 0) rfl rfl) ?_
    obtain ⟨y18, hy18, hm⟩ := bindS hm
    refine r_call [] cf60 rfl rfl (ok_strconv_Itoa a0.Turn hy18) rfl rfl (.cons (.ro 1 rfl) .nil) (fun _ => rfl) rfl (fun _ => ?_)
    obtain ⟨c19, hc19, hm⟩ := bindS hm
    refine lp rfl (p_catM hc19 rfl rfl) ?_
    obtain ⟨c20, hc20, hm⟩ := bindS hm
    refine lp rfl (p_catM hc20 rfl rfl) ?_
    refine lp rfl (p_as rfl) ?_
    refine lj_seq ?_
    refine cj_seq ?_
    refine cj_reg ?_
    refine lp rfl (p_mv rfl) ?_
    refine lp rfl (p_as rfl) ?_
    refine lp rfl (p_as rfl) ?_
    refine lj_seq ?_
    obtain rfl := Option.some.inj hm
    exact cj_rt () [] Tryz.results36 (.tmp rfl (.tmp rfl .nil)) rfl rfl
   ·have hm := ifB_f hb hm
    refine cj_skip ?_
    refine nj_seq ?_
    refine cj_seq ?_
    refine cj_reg ?_
    refine lp rfl (p_mv rfl) ?_
    refine lp rfl (p_as rfl) ?_
    refine lp rfl (p_as rfl) ?_
    refine lj_seq ?_
    obtain rfl := Option.some.inj hm
    exact cj_rt () [] Tryz.results36 (.tmp rfl (.tmp rfl .nil)) rfl rfl
  ·have hm := hk5
   obtain ⟨y6, hy6, hm⟩ := bindS hm
   obtain ⟨e8, he8, hm⟩ := bindS hm
   obtain ⟨c9, hc9, hm⟩ := bindS hm
   obtain ⟨y10, hy10, hm⟩ := bindS hm
   obtain ⟨e12, he12, hm⟩ := bindS hm
   obtain ⟨c13, hc13, hm⟩ := bindS hm
   refine cj_anyT [1, 2, 5, 7, 8, 11, 12] [] (Sat w0 (keys ([] : List Ent)) A [.box b1 86 [.int .i64 a0.Root, .int .i64 a0.Kind, .int .i64 a0.Turn], .ro PowT]) (Sat w0 (keys ([] : List Ent)) A [.box b1 86 [.int .i64 a0.Root, .int .i64 a0.Kind, .int .i64 a0.Turn], .ro PowT]) (by kernel_rfl) ?_
   refine at_take2 1 rfl (by kernel_rfl) (by kernel_rfl) (by kernel_rfl) (fun _ h => h.picks [0, 0] rfl) rfl rfl (p_fab fl86_0 rfl) (fun _ h => h.picks [0, 0] rfl) ?_
   refine at_take2 2 rfl (by kernel_rfl) (by kernel_rfl) (by kernel_rfl) (fun _ h => h.picks [0, 0] rfl) rfl rfl (p_lbs ty3 rfl (j := 0) rfl rfl) (fun _ h => h.picks [0, 0] rfl) ?_
   refine at_take2 7 rfl (by kernel_rfl) (by kernel_rfl) (by kernel_rfl) (fun _ h => h.picks [0, 0] rfl) rfl rfl (p_fab fl86_1 rfl) (fun _ h => h.picks [0, 0] rfl) ?_
   refine at_take2 8 rfl (by kernel_rfl) (by kernel_rfl) (by kernel_rfl) (fun _ h => h.picks [0, 0] rfl) rfl rfl (p_lbs ty3 rfl (j := 0) rfl rfl) (fun _ h => h.picks [0, 0] rfl) ?_
   refine at_each (rs := [0]) (by kernel_rfl) (by decide) ?_
   refine (.cons rfl (fun I cnI => ?_) .nil)
   ·refine r_call [] cf58 rfl rfl (ok_chord_rootWords  hy6) rfl rfl .nil (fun _ => rfl) rfl (fun s14 => ?_)
    refine lj_nil ?_
    refine cnI _ _ (sof1 rfl rfl (fun _ h => h.picks [1, 1] rfl)) ?_
    refine at_each (rs := [3, 6]) (by kernel_rfl) (by decide) ?_
    refine (.cons rfl (fun I cnI => ?_) (.cons rfl (fun I cnI => ?_) .nil))
    ·refine lp rfl (p_idx Tryz.underlying87 ty9 rfl rfl (.row 0 rfl) he8) ?_
     refine lj_nil ?_
     refine cnI _ _ (sof1 rfl rfl (fun _ h => h.picks [1, 1] rfl)) ?_
     refine at_each (rs := [4, 6]) (by kernel_rfl) (by decide) ?_
     refine (.cons rfl (fun I cnI => ?_) (.cons rfl (fun I cnI => ?_) .nil))
     ·refine lp rfl (p_lde (o := 0) ty9 rfl rfl (.row 0 rfl) (getI_spec he8).2 rfl) ?_
      refine lj_nil ?_
      refine cnI _ _ (sof1 rfl rfl (fun _ h => h.picks [1, 1] rfl)) ?_
      refine at_take2 5 rfl (by kernel_rfl) (by kernel_rfl) (by kernel_rfl) (fun _ h => h.picks [0, 0] rfl) rfl rfl (p_catM hc9 rfl rfl) (fun _ h => h.picks [1, 1] rfl) ?_
      refine at_each (rs := [6]) (by kernel_rfl) (by decide) ?_
      refine (.cons rfl (fun I cnI => ?_) .nil)
      ·refine r_call [] cf59 rfl rfl (ok_chord_kindWords  hy10) rfl rfl .nil (fun _ => rfl) rfl (fun s15 => ?_)
       refine lj_nil ?_
       refine cnI _ _ (sof1 rfl rfl (fun _ h => h.picks [2, 2] rfl)) ?_
       refine at_each (rs := [9]) (by kernel_rfl) (by decide) ?_
       refine (.cons rfl (fun I cnI => ?_) .nil)
       ·refine lp rfl (p_idx Tryz.underlying87 ty9 rfl rfl (.row 0 rfl) he12) ?_
        refine lj_nil ?_
        refine cnI _ _ (sof1 rfl rfl (fun _ h => h.picks [2, 2] rfl)) ?_
        refine at_each (rs := [10]) (by kernel_rfl) (by decide) ?_
        refine (.cons rfl (fun I cnI => ?_) .nil)
        ·refine lp rfl (p_lde (o := 0) ty9 rfl rfl (.row 0 rfl) (getI_spec he12).2 rfl) ?_
         refine lj_nil ?_
         refine cnI _ _ (sof1 rfl rfl (fun _ h => h.picks [2, 2] rfl)) ?_
         refine at_take2 11 rfl (by kernel_rfl) (by kernel_rfl) (by kernel_rfl) (fun _ h => h.picks [0, 0] rfl) rfl rfl (p_catM hc13 rfl rfl) (fun _ h => h.picks [2, 2] rfl) ?_
         refine at_take2 12 rfl (by kernel_rfl) (by kernel_rfl) (by kernel_rfl) (fun _ h => h.picks [0, 0] rfl) rfl rfl (p_as rfl) (fun _ h => h.picks [2, 2] rfl) ?_
         refine at_done (by kernel_rfl) ?_
         exact cnk5 _ _ c13 () (Option.some.inj hm).symm ⟨rfl, rfl, rfl, rfl, trivial⟩ (fun _ h => h.picks [2, 2] rfl)
     ·refine r_call [] cf59 rfl rfl (ok_chord_kindWords  hy10) rfl rfl .nil (fun _ => rfl) rfl (fun s16 => ?_)
      refine lj_nil ?_
      refine cnI _ _ (sof1 rfl rfl (fun _ h => h.picks [2, 2] rfl)) ?_
      refine at_each (rs := [4, 9]) (by kernel_rfl) (by decide) ?_
      refine (.cons rfl (fun I cnI => ?_) (.cons rfl (fun I cnI => ?_) .nil))
      ·refine lp rfl (p_lde (o := 0) ty9 rfl rfl (.row 1 rfl) (getI_spec he8).2 rfl) ?_
       refine lj_nil ?_
       refine cnI _ _ (sof1 rfl rfl (fun _ h => h.picks [2, 2] rfl)) ?_
       refine at_take2 5 rfl (by kernel_rfl) (by kernel_rfl) (by kernel_rfl) (fun _ h => h.picks [0, 0] rfl) rfl rfl (p_catM hc9 rfl rfl) (fun _ h => h.picks [2, 2] rfl) ?_
       refine at_each (rs := [9]) (by kernel_rfl) (by decide) ?_
       refine (.cons rfl (fun I cnI => ?_) .nil)
       ·refine lp rfl (p_idx Tryz.underlying87 ty9 rfl rfl (.row 0 rfl) he12) ?_
        refine lj_nil ?_
        refine cnI _ _ (sof1 rfl rfl (fun _ h => h.picks [2, 2] rfl)) ?_
        refine at_each (rs := [10]) (by kernel_rfl) (by decide) ?_
        refine (.cons rfl (fun I cnI => ?_) .nil)
        ·refine lp rfl (p_lde (o := 0) ty9 rfl rfl (.row 0 rfl) (getI_spec he12).2 rfl) ?_
         refine lj_nil ?_
         refine cnI _ _ (sof1 rfl rfl (fun _ h => h.picks [2, 2] rfl)) ?_
         refine at_take2 11 rfl (by kernel_rfl) (by kernel_rfl) (by kernel_rfl) (fun _ h => h.picks [0, 0] rfl) rfl rfl (p_catM hc13 rfl rfl) (fun _ h => h.picks [2, 2] rfl) ?_
         refine at_take2 12 rfl (by kernel_rfl) (by kernel_rfl) (by kernel_rfl) (fun _ h => h.picks [0, 0] rfl) rfl rfl (p_as rfl) (fun _ h => h.picks [2, 2] rfl) ?_
         refine at_done (by kernel_rfl) ?_
         exact cnk5 _ _ c13 () (Option.some.inj hm).symm ⟨rfl, rfl, rfl, rfl, trivial⟩ (fun _ h => h.picks [2, 2] rfl)
      ·refine lp rfl (p_idx Tryz.underlying87 ty9 rfl rfl (.row 0 rfl) he12) ?_
       refine lj_nil ?_
       refine cnI _ _ (sof1 rfl rfl (fun _ h => h.picks [2, 2] rfl)) ?_
       refine at_each (rs := [4, 10]) (by kernel_rfl) (by decide) ?_
       refine (.cons rfl (fun I cnI => ?_) (.cons rfl (fun I cnI => ?_) .nil))
       ·refine lp rfl (p_lde (o := 0) ty9 rfl rfl (.row 1 rfl) (getI_spec he8).2 rfl) ?_
        refine lj_nil ?_
        refine cnI _ _ (sof1 rfl rfl (fun _ h => h.picks [2, 2] rfl)) ?_
        refine at_take2 5 rfl (by kernel_rfl) (by kernel_rfl) (by kernel_rfl) (fun _ h => h.picks [0, 0] rfl) rfl rfl (p_catM hc9 rfl rfl) (fun _ h => h.picks [2, 2] rfl) ?_
        refine at_each (rs := [10]) (by kernel_rfl) (by decide) ?_
        refine (.cons rfl (fun I cnI => ?_) .nil)
        ·refine lp rfl (p_lde (o := 0) ty9 rfl rfl (.row 0 rfl) (getI_spec he12).2 rfl) ?_
         refine lj_nil ?_
         refine cnI _ _ (sof1 rfl rfl (fun _ h => h.picks [2, 2] rfl)) ?_
         refine at_take2 11 rfl (by kernel_rfl) (by kernel_rfl) (by kernel_rfl) (fun _ h => h.picks [0, 0] rfl) rfl rfl (p_catM hc13 rfl rfl) (fun _ h => h.picks [2, 2] rfl) ?_
         refine at_take2 12 rfl (by kernel_rfl) (by kernel_rfl) (by kernel_rfl) (fun _ h => h.picks [0, 0] rfl) rfl rfl (p_as rfl) (fun _ h => h.picks [2, 2] rfl) ?_
         refine at_done (by kernel_rfl) ?_
         exact cnk5 _ _ c13 () (Option.some.inj hm).symm ⟨rfl, rfl, rfl, rfl, trivial⟩ (fun _ h => h.picks [2, 2] rfl)
       ·refine lp rfl (p_lde (o := 0) ty9 rfl rfl (.row 0 rfl) (getI_spec he12).2 rfl) ?_
        refine lj_nil ?_
        refine cnI _ _ (sof1 rfl rfl (fun _ h => h.picks [2, 2] rfl)) ?_
        refine at_each (rs := [4]) (by kernel_rfl) (by decide) ?_
        refine (.cons rfl (fun I cnI => ?_) .nil)
        ·refine lp rfl (p_lde (o := 0) ty9 rfl rfl (.row 1 rfl) (getI_spec he8).2 rfl) ?_
         refine lj_nil ?_
         refine cnI _ _ (sof1 rfl rfl (fun _ h => h.picks [2, 2] rfl)) ?_
         refine at_take2 5 rfl (by kernel_rfl) (by kernel_rfl) (by kernel_rfl) (fun _ h => h.picks [0, 0] rfl) rfl rfl (p_catM hc9 rfl rfl) (fun _ h => h.picks [2, 2] rfl) ?_
         refine at_take2 11 rfl (by kernel_rfl) (by kernel_rfl) (by kernel_rfl) (fun _ h => h.picks [0, 0] rfl) rfl rfl (p_catM hc13 rfl rfl) (fun _ h => h.picks [2, 2] rfl) ?_
         refine at_take2 12 rfl (by kernel_rfl) (by kernel_rfl) (by kernel_rfl) (fun _ h => h.picks [0, 0] rfl) rfl rfl (p_as rfl) (fun _ h => h.picks [2, 2] rfl) ?_
         refine at_done (by kernel_rfl) ?_
         exact cnk5 _ _ c13 () (Option.some.inj hm).symm ⟨rfl, rfl, rfl, rfl, trivial⟩ (fun _ h => h.picks [2, 2] rfl)
    ·refine r_call [] cf59 rfl rfl (ok_chord_kindWords  hy10) rfl rfl .nil (fun _ => rfl) rfl (fun s17 => ?_)
     refine lj_nil ?_
     refine cnI _ _ (sof1 rfl rfl (fun _ h => h.picks [2, 2] rfl)) ?_
     refine at_each (rs := [3, 9]) (by kernel_rfl) (by decide) ?_
     refine (.cons rfl (fun I cnI => ?_) (.cons rfl (fun I cnI => ?_) .nil))
     ·refine lp rfl (p_idx Tryz.underlying87 ty9 rfl rfl (.row 1 rfl) he8) ?_
      refine lj_nil ?_
      refine cnI _ _ (sof1 rfl rfl (fun _ h => h.picks [2, 2] rfl)) ?_
      refine at_each (rs := [4, 9]) (by kernel_rfl) (by decide) ?_
      refine (.cons rfl (fun I cnI => ?_) (.cons rfl (fun I cnI => ?_) .nil))
      ·refine lp rfl (p_lde (o := 0) ty9 rfl rfl (.row 1 rfl) (getI_spec he8).2 rfl) ?_
       refine lj_nil ?_
       refine cnI _ _ (sof1 rfl rfl (fun _ h => h.picks [2, 2] rfl)) ?_
       refine at_take2 5 rfl (by kernel_rfl) (by kernel_rfl) (by kernel_rfl) (fun _ h => h.picks [0, 0] rfl) rfl rfl (p_catM hc9 rfl rfl) (fun _ h => h.picks [2, 2] rfl) ?_
       refine at_each (rs := [9]) (by kernel_rfl) (by decide) ?_
       refine (.cons rfl (fun I cnI => ?_) .nil)
       ·refine lp rfl (p_idx Tryz.underlying87 ty9 rfl rfl (.row 0 rfl) he12) ?_
        refine lj_nil ?_
        refine cnI _ _ (sof1 rfl rfl (fun _ h => h.picks [2, 2] rfl)) ?_
        refine at_each (rs := [10]) (by kernel_rfl) (by decide) ?_
        refine (.cons rfl (fun I cnI => ?_) .nil)
        ·refine lp rfl (p_lde (o := 0) ty9 rfl rfl (.row 0 rfl) (getI_spec he12).2 rfl) ?_
         refine lj_nil ?_
         refine cnI _ _ (sof1 rfl rfl (fun _ h => h.picks [2, 2] rfl)) ?_
         refine at_take2 11 rfl (by kernel_rfl) (by kernel_rfl) (by kernel_rfl) (fun _ h => h.picks [0, 0] rfl) rfl rfl (p_catM hc13 rfl rfl) (fun _ h => h.picks [2, 2] rfl) ?_
         refine at_take2 12 rfl (by kernel_rfl) (by kernel_rfl) (by kernel_rfl) (fun _ h => h.picks [0, 0] rfl) rfl rfl (p_as rfl) (fun _ h => h.picks [2, 2] rfl) ?_
         refine at_done (by kernel_rfl) ?_
         exact cnk5 _ _ c13 () (Option.some.inj hm).symm ⟨rfl, rfl, rfl, rfl, trivial⟩ (fun _ h => h.picks [2, 2] rfl)
      ·refine lp rfl (p_idx Tryz.underlying87 ty9 rfl rfl (.row 0 rfl) he12) ?_
       refine lj_nil ?_
       refine cnI _ _ (sof1 rfl rfl (fun _ h => h.picks [2, 2] rfl)) ?_
       refine at_each (rs := [4, 10]) (by kernel_rfl) (by decide) ?_
       refine (.cons rfl (fun I cnI => ?_) (.cons rfl (fun I cnI => ?_) .nil))
       ·refine lp rfl (p_lde (o := 0) ty9 rfl rfl (.row 1 rfl) (getI_spec he8).2 rfl) ?_
        refine lj_nil ?_
        refine cnI _ _ (sof1 rfl rfl (fun _ h => h.picks [2, 2] rfl)) ?_
        refine at_take2 5 rfl (by kernel_rfl) (by kernel_rfl) (by kernel_rfl) (fun _ h => h.picks [0, 0] rfl) rfl rfl (p_catM hc9 rfl rfl) (fun _ h => h.picks [2, 2] rfl) ?_
        refine at_each (rs := [10]) (by kernel_rfl) (by decide) ?_
        refine (.cons rfl (fun I cnI => ?_) .nil)
        ·refine lp rfl (p_lde (o := 0) ty9 rfl rfl (.row 0 rfl) (getI_spec he12).2 rfl) ?_
         refine lj_nil ?_
         refine cnI _ _ (sof1 rfl rfl (fun _ h => h.picks [2, 2] rfl)) ?_
         refine at_take2 11 rfl (by kernel_rfl) (by kernel_rfl) (by kernel_rfl) (fun _ h => h.picks [0, 0] rfl) rfl rfl (p_catM hc13 rfl rfl) (fun _ h => h.picks [2, 2] rfl) ?_
         refine at_take2 12 rfl (by kernel_rfl) (by kernel_rfl) (by kernel_rfl) (fun _ h => h.picks [0, 0] rfl) rfl rfl (p_as rfl) (fun _ h => h.picks [2, 2] rfl) ?_
         refine at_done (by kernel_rfl) ?_
         exact cnk5 _ _ c13 () (Option.some.inj hm).symm ⟨rfl, rfl, rfl, rfl, trivial⟩ (fun _ h => h.picks [2, 2] rfl)
       ·refine lp rfl (p_lde (o := 0) ty9 rfl rfl (.row 0 rfl) (getI_spec he12).2 rfl) ?_
        refine lj_nil ?_
        refine cnI _ _ (sof1 rfl rfl (fun _ h => h.picks [2, 2] rfl)) ?_
        refine at_each (rs := [4]) (by kernel_rfl) (by decide) ?_
        refine (.cons rfl (fun I cnI => ?_) .nil)
        ·refine lp rfl (p_lde (o := 0) ty9 rfl rfl (.row 1 rfl) (getI_spec he8).2 rfl) ?_
         refine lj_nil ?_
         refine cnI _ _ (sof1 rfl rfl (fun _ h => h.picks [2, 2] rfl)) ?_
         refine at_take2 5 rfl (by kernel_rfl) (by kernel_rfl) (by kernel_rfl) (fun _ h => h.picks [0, 0] rfl) rfl rfl (p_catM hc9 rfl rfl) (fun _ h => h.picks [2, 2] rfl) ?_
         refine at_take2 11 rfl (by kernel_rfl) (by kernel_rfl) (by kernel_rfl) (fun _ h => h.picks [0, 0] rfl) rfl rfl (p_catM hc13 rfl rfl) (fun _ h => h.picks [2, 2] rfl) ?_
         refine at_take2 12 rfl (by kernel_rfl) (by kernel_rfl) (by kernel_rfl) (fun _ h => h.picks [0, 0] rfl) rfl rfl (p_as rfl) (fun _ h => h.picks [2, 2] rfl) ?_
         refine at_done (by kernel_rfl) ?_
         exact cnk5 _ _ c13 () (Option.some.inj hm).symm ⟨rfl, rfl, rfl, rfl, trivial⟩ (fun _ h => h.picks [2, 2] rfl)
     ·refine lp rfl (p_idx Tryz.underlying87 ty9 rfl rfl (.row 0 rfl) he12) ?_
      refine lj_nil ?_
      refine cnI _ _ (sof1 rfl rfl (fun _ h => h.picks [2, 2] rfl)) ?_
      refine at_each (rs := [3, 10]) (by kernel_rfl) (by decide) ?_
      refine (.cons rfl (fun I cnI => ?_) (.cons rfl (fun I cnI => ?_) .nil))
      ·refine lp rfl (p_idx Tryz.underlying87 ty9 rfl rfl (.row 1 rfl) he8) ?_
       refine lj_nil ?_
       refine cnI _ _ (sof1 rfl rfl (fun _ h => h.picks [2, 2] rfl)) ?_
       refine at_each (rs := [4, 10]) (by kernel_rfl) (by decide) ?_
       refine (.cons rfl (fun I cnI => ?_) (.cons rfl (fun I cnI => ?_) .nil))
       ·refine lp rfl (p_lde (o := 0) ty9 rfl rfl (.row 1 rfl) (getI_spec he8).2 rfl) ?_
        refine lj_nil ?_
        refine cnI _ _ (sof1 rfl rfl (fun _ h => h.picks [2, 2] rfl)) ?_
        refine at_take2 5 rfl (by kernel_rfl) (by kernel_rfl) (by kernel_rfl) (fun _ h => h.picks [0, 0] rfl) rfl rfl (p_catM hc9 rfl rfl) (fun _ h => h.picks [2, 2] rfl) ?_
        refine at_each (rs := [10]) (by kernel_rfl) (by decide) ?_
        refine (.cons rfl (fun I cnI => ?_) .nil)
        ·refine lp rfl (p_lde (o := 0) ty9 rfl rfl (.row 0 rfl) (getI_spec he12).2 rfl) ?_
         refine lj_nil ?_
         refine cnI _ _ (sof1 rfl rfl (fun _ h => h.picks [2, 2] rfl)) ?_
         refine at_take2 11 rfl (by kernel_rfl) (by kernel_rfl) (by kernel_rfl) (fun _ h => h.picks [0, 0] rfl) rfl rfl (p_catM hc13 rfl rfl) (fun _ h => h.picks [2, 2] rfl) ?_
         refine at_take2 12 rfl (by kernel_rfl) (by kernel_rfl) (by kernel_rfl) (fun _ h => h.picks [0, 0] rfl) rfl rfl (p_as rfl) (fun _ h => h.picks [2, 2] rfl) ?_
         refine at_done (by kernel_rfl) ?_
         exact cnk5 _ _ c13 () (Option.some.inj hm).symm ⟨rfl, rfl, rfl, rfl, trivial⟩ (fun _ h => h.picks [2, 2] rfl)
       ·refine lp rfl (p_lde (o := 0) ty9 rfl rfl (.row 0 rfl) (getI_spec he12).2 rfl) ?_
        refine lj_nil ?_
        refine cnI _ _ (sof1 rfl rfl (fun _ h => h.picks [2, 2] rfl)) ?_
        refine at_each (rs := [4]) (by kernel_rfl) (by decide) ?_
        refine (.cons rfl (fun I cnI => ?_) .nil)
        ·refine lp rfl (p_lde (o := 0) ty9 rfl rfl (.row 1 rfl) (getI_spec he8).2 rfl) ?_
         refine lj_nil ?_
         refine cnI _ _ (sof1 rfl rfl (fun _ h => h.picks [2, 2] rfl)) ?_
         refine at_take2 5 rfl (by kernel_rfl) (by kernel_rfl) (by kernel_rfl) (fun _ h => h.picks [0, 0] rfl) rfl rfl (p_catM hc9 rfl rfl) (fun _ h => h.picks [2, 2] rfl) ?_
         refine at_take2 11 rfl (by kernel_rfl) (by kernel_rfl) (by kernel_rfl) (fun _ h => h.picks [0, 0] rfl) rfl rfl (p_catM hc13 rfl rfl) (fun _ h => h.picks [2, 2] rfl) ?_
         refine at_take2 12 rfl (by kernel_rfl) (by kernel_rfl) (by kernel_rfl) (fun _ h => h.picks [0, 0] rfl) rfl rfl (p_as rfl) (fun _ h => h.picks [2, 2] rfl) ?_
         refine at_done (by kernel_rfl) ?_
         exact cnk5 _ _ c13 () (Option.some.inj hm).symm ⟨rfl, rfl, rfl, rfl, trivial⟩ (fun _ h => h.picks [2, 2] rfl)
      ·refine lp rfl (p_lde (o := 0) ty9 rfl rfl (.row 0 rfl) (getI_spec he12).2 rfl) ?_
       refine lj_nil ?_
       refine cnI _ _ (sof1 rfl rfl (fun _ h => h.picks [2, 2] rfl)) ?_
       refine at_each (rs := [3]) (by kernel_rfl) (by decide) ?_
       refine (.cons rfl (fun I cnI => ?_) .nil)
       ·refine lp rfl (p_idx Tryz.underlying87 ty9 rfl rfl (.row 1 rfl) he8) ?_
        refine lj_nil ?_
        refine cnI _ _ (sof1 rfl rfl (fun _ h => h.picks [2, 2] rfl)) ?_
        refine at_each (rs := [4]) (by kernel_rfl) (by decide) ?_
        refine (.cons rfl (fun I cnI => ?_) .nil)
        ·refine lp rfl (p_lde (o := 0) ty9 rfl rfl (.row 1 rfl) (getI_spec he8).2 rfl) ?_
         refine lj_nil ?_
         refine cnI _ _ (sof1 rfl rfl (fun _ h => h.picks [2, 2] rfl)) ?_
         refine at_take2 5 rfl (by kernel_rfl) (by kernel_rfl) (by kernel_rfl) (fun _ h => h.picks [0, 0] rfl) rfl rfl (p_catM hc9 rfl rfl) (fun _ h => h.picks [2, 2] rfl) ?_
         refine at_take2 11 rfl (by kernel_rfl) (by kernel_rfl) (by kernel_rfl) (fun _ h => h.picks [0, 0] rfl) rfl rfl (p_catM hc13 rfl rfl) (fun _ h => h.picks [2, 2] rfl) ?_
         refine at_take2 12 rfl (by kernel_rfl) (by kernel_rfl) (by kernel_rfl) (fun _ h => h.picks [0, 0] rfl) rfl rfl (p_as rfl) (fun _ h => h.picks [2, 2] rfl) ?_
         refine at_done (by kernel_rfl) ?_
         exact cnk5 _ _ c13 () (Option.some.inj hm).symm ⟨rfl, rfl, rfl, rfl, trivial⟩ (fun _ h => h.picks [2, 2] rfl)
theorem ok_kit_IsMoment (a0 : Int) {r : Bool} (hm : m_kit_IsMoment a0 = some r) :
  Ctr Tryz.prog 62 [.int .i64 a0].toArray ([] : List Ent) [] (X := Unit) (fun _ => .bool r) (fun _ => []) := by
 unfold m_kit_IsMoment at hm
 refine ctr_mk (vs := [(0, .int .i64 a0)]) Tryz.func62 rfl Tryz.ntmps62 rfl ⟨rfl, trivial⟩ (fun w0 A => ?_)
 refine cj_seq ?_
 refine cj_reg ?_
 refine lp rfl (p_as rfl) ?_
 refine lj_seq ?_
 refine cj_seq ?_
 refine cj_reg ?_
 refine lp rfl (p_mv rfl) ?_
 obtain ⟨y1, hy1, hm⟩ := bindS hm
 refine r_call [] cf83 rfl rfl (ok_kit_Outside a0 0 345686399999 hy1) rfl rfl .nil (fun _ => rfl) rfl (fun _ => ?_)
 refine lp rfl (p_not rfl) ?_
 refine lp rfl (p_as rfl) ?_
 refine lj_seq ?_
 obtain rfl := Option.some.inj hm
 exact cj_rt () [] Tryz.results62 (.tmp rfl .nil) rfl rfl
theorem ok_kit_IsKey (a0 : ByteArray) {r : Bool} (hm : m_kit_IsKey a0 = some r) :
  Ctr Tryz.prog 87 [.string a0].toArray ([] : List Ent) [] (X := Unit) (fun _ => .bool r) (fun _ => []) := by
 unfold m_kit_IsKey at hm
 refine ctr_mk (vs := [(0, .string a0)]) Tryz.func87 rfl Tryz.ntmps87 rfl ⟨rfl, trivial⟩ (fun w0 A => ?_)
 refine cj_seq ?_
 refine cj_reg ?_
 refine lp rfl (p_as rfl) ?_
 refine lj_seq ?_
 refine cj_seq ?_
 refine cj_reg ?_
 refine lp rfl (p_mv rfl) ?_
 refine lp rfl (p_nes rfl rfl) ?_
 refine lp rfl (p_mv rfl) ?_
 refine lcase (i := 5) (!(a0.toList == ByteArray.empty.toList)) rfl (fun hb => ?_) (fun hb => ?_)
 ·have hm := ifB_t hb hm
  refine lg true rfl rfl rfl ?_
  refine lp rfl (p_mv rfl) ?_
  refine lg true rfl rfl rfl ?_
  refine lp rfl (p_lens Tryz.underlying9 rfl) ?_
  refine lg true rfl rfl rfl ?_
  refine lp rfl (p_leq rfl rfl) ?_
  refine lp rfl (p_pkt rfl rfl) ?_
  refine lp rfl (p_mv rfl) ?_
  refine lcase (i := 10) (decide ((a0.size : Int) ≤ 40)) rfl (fun hb => ?_) (fun hb => ?_)
  ·have hm := ifB_t hb hm
   refine lg true rfl rfl rfl ?_
   refine lp rfl (p_mv rfl) ?_
   refine lg true rfl rfl rfl ?_
   obtain ⟨c1, hc1, hm⟩ := bindS hm
   refine lp rfl (p_stri Tryz.underlying9 rfl rfl hc1) ?_
   refine lg true rfl rfl rfl ?_
   obtain ⟨y2, hy2, hm⟩ := bindS hm
   refine r_call [] cf108 rfl rfl (ok_strings_IndexByte (ByteArray.mk [97, 98, 99, 100, 101, 102, 103, 104, 105, 106, 107, 108, 109, 110, 111, 112, 113, 114, 115, 116, 117, 118, 119, 120, 121, 122].toArray) c1 hy2) rfl rfl .nil (fun _ => rfl) rfl (fun _ => ?_)
   refine lg true rfl rfl rfl ?_
   refine lp rfl (p_geq rfl rfl) ?_
   refine lp rfl (p_pkt rfl rfl) ?_
   refine lp rfl (p_mv rfl) ?_
   refine lcase (i := 16) (decide (y2 ≥ 0)) rfl (fun hb => ?_) (fun hb => ?_)
   ·have hm := ifB_t hb hm
    refine lg true rfl rfl rfl ?_
    refine lp rfl (p_mv rfl) ?_
    refine lg true rfl rfl rfl ?_
    obtain ⟨y3, hy3, hm⟩ := bindS hm
    refine r_call [] cf109 rfl rfl (ok_strings_Trim a0 (ByteArray.mk [97, 98, 99, 100, 101, 102, 103, 104, 105, 106, 107, 108, 109, 110, 111, 112, 113, 114, 115, 116, 117, 118, 119, 120, 121, 122, 48, 49, 50, 51, 52, 53, 54, 55, 56, 57, 45, 95].toArray) hy3) rfl rfl .nil (fun _ => rfl) rfl (fun _ => ?_)
    refine lg true rfl rfl rfl ?_
    refine lp rfl (p_eqs rfl rfl) ?_
    refine lp rfl (p_pkt rfl rfl) ?_
    refine lp rfl (p_as rfl) ?_
    refine lj_seq ?_
    obtain rfl := Option.some.inj hm
    exact cj_rt () [] Tryz.results87 (.tmp rfl .nil) rfl rfl
   ·have hm := ifB_f hb hm
    refine ls true rfl rfl rfl rfl ?_
    refine ls true rfl rfl rfl rfl ?_
    refine ls true rfl rfl rfl rfl ?_
    refine lp rfl (p_pkf rfl rfl) ?_
    refine lp rfl (p_as rfl) ?_
    refine lj_seq ?_
    obtain rfl := Option.some.inj hm
    exact cj_rt () [] Tryz.results87 (.tmp rfl .nil) rfl rfl
  ·have hm := ifB_f hb hm
   refine ls true rfl rfl rfl rfl ?_
   refine ls true rfl rfl rfl rfl ?_
   refine ls true rfl rfl rfl rfl ?_
   refine ls true rfl rfl rfl rfl ?_
   refine lp rfl (p_pkf rfl rfl) ?_
   refine lp rfl (p_mv rfl) ?_
   refine ls true rfl rfl rfl rfl ?_
   refine ls true rfl rfl rfl rfl ?_
   refine ls true rfl rfl rfl rfl ?_
   refine lp rfl (p_pkf rfl rfl) ?_
   refine lp rfl (p_as rfl) ?_
   refine lj_seq ?_
   obtain rfl := Option.some.inj hm
   exact cj_rt () [] Tryz.results87 (.tmp rfl .nil) rfl rfl
 ·have hm := ifB_f hb hm
  refine ls true rfl rfl rfl rfl ?_
  refine ls true rfl rfl rfl rfl ?_
  refine ls true rfl rfl rfl rfl ?_
  refine lp rfl (p_pkf rfl rfl) ?_
  refine lp rfl (p_mv rfl) ?_
  refine ls true rfl rfl rfl rfl ?_
  refine ls true rfl rfl rfl rfl ?_
  refine ls true rfl rfl rfl rfl ?_
  refine ls true rfl rfl rfl rfl ?_
  refine lp rfl (p_pkf rfl rfl) ?_
  refine lp rfl (p_mv rfl) ?_
  refine ls true rfl rfl rfl rfl ?_
  refine ls true rfl rfl rfl rfl ?_
  refine ls true rfl rfl rfl rfl ?_
  refine lp rfl (p_pkf rfl rfl) ?_
  refine lp rfl (p_as rfl) ?_
  refine lj_seq ?_
  obtain rfl := Option.some.inj hm
  exact cj_rt () [] Tryz.results87 (.tmp rfl .nil) rfl rfl
theorem ok_cmp_isNaN_int (a0 : Int) {r : Bool} (hm : m_cmp_isNaN_int a0 = some r) :
  Ctr Tryz.prog 141 [.int .i64 a0].toArray ([] : List Ent) [] (X := Unit) (fun _ => .bool r) (fun _ => []) := by
 unfold m_cmp_isNaN_int at hm
 refine ctr_mk (vs := [(0, .int .i64 a0)]) Tryz.func141 rfl Tryz.ntmps141 rfl ⟨rfl, trivial⟩ (fun w0 A => ?_)
 refine cj_seq ?_
 refine cj_reg ?_
 refine lp rfl (p_as rfl) ?_
 refine lj_seq ?_
 refine cj_seq ?_
 refine cj_reg ?_
 refine lp rfl (p_mv rfl) ?_
 refine lp rfl (p_mv rfl) ?_
 refine lp rfl (p_neq rfl rfl) ?_
 refine lp rfl (p_as rfl) ?_
 refine lj_seq ?_
 obtain rfl := Option.some.inj hm
 exact cj_rt () [] Tryz.results141 (.tmp rfl .nil) rfl rfl
theorem ok_cmp_Compare_int (a0 : Int) (a1 : Int) {r : Int} (hm : m_cmp_Compare_int a0 a1 = some r) :
  Ctr Tryz.prog 111 [.int .i64 a0, .int .i64 a1].toArray ([] : List Ent) [] (X := Unit) (fun _ => .int .i64 r) (fun _ => []) := by
 unfold m_cmp_Compare_int at hm
 refine ctr_mk (vs := [(0, .int .i64 a0), (1, .int .i64 a1)]) Tryz.func111 rfl Tryz.ntmps111 rfl ⟨rfl, rfl, trivial⟩ (fun w0 A => ?_)
 refine cj_seq ?_
 refine cj_reg ?_
 refine lp rfl (p_as rfl) ?_
 refine lj_seq ?_
 refine cj_seq ?_
 refine cj_reg ?_
 refine lp rfl (p_mv rfl) ?_
 obtain ⟨y1, hy1, hm⟩ := bindS hm
 refine r_call [] cf141 rfl rfl (ok_cmp_isNaN_int a0 hy1) rfl rfl .nil (fun _ => rfl) rfl (fun _ => ?_)
 refine lp rfl (p_as rfl) ?_
 refine lj_seq ?_
 refine cj_seq ?_
 refine cj_reg ?_
 refine lp rfl (p_mv rfl) ?_
 obtain ⟨y2, hy2, hm⟩ := bindS hm
 refine r_call [] cf141 rfl rfl (ok_cmp_isNaN_int a1 hy2) rfl rfl .nil (fun _ => rfl) rfl (fun _ => ?_)
 refine lp rfl (p_as rfl) ?_
 refine lj_seq ?_
 refine cj_seq ?_
 refine cj_seq ?_
 refine cj_reg ?_
 refine lp rfl (p_mv rfl) ?_
 refine lj_seq ?_
 refine cj_if (b := y1) rfl (fun hb => ?_) (fun hb => ?_)
 ·have hm := ifB_t hb hm
  refine cj_seq ?_
  refine cj_seq ?_
  refine cj_reg ?_
  refine lp rfl (p_mv rfl) ?_
  refine lj_seq ?_
  refine cj_if (b := y2) rfl (fun hb => ?_) (fun hb => ?_)
  ·have hm := ifB_t hb hm
   refine cj_seq ?_
   refine cj_reg ?_
   refine lp rfl (p_as rfl) ?_
   refine lj_seq ?_
   obtain rfl := Option.some.inj hm
   exact cj_rt () [] Tryz.results111 (.tmp rfl .nil) rfl rfl
  ·have hm := ifB_f hb hm
   refine cj_skip ?_
   refine nj_seq ?_
   refine cj_seq ?_
   refine cj_reg ?_
   refine lp rfl (p_as rfl) ?_
   refine lj_seq ?_
   obtain rfl := Option.some.inj hm
   exact cj_rt () [] Tryz.results111 (.tmp rfl .nil) rfl rfl
 ·have hm := ifB_f hb hm
  refine cj_skip ?_
  refine nj_seq ?_
  refine cj_seq ?_
  refine cj_seq ?_
  refine cj_reg ?_
  refine lp rfl (p_mv rfl) ?_
  refine lj_seq ?_
  refine cj_if (b := y2) rfl (fun hb => ?_) (fun hb => ?_)
  ·have hm := ifB_t hb hm
   refine cj_seq ?_
   refine cj_reg ?_
   refine lp rfl (p_as rfl) ?_
   refine lj_seq ?_
   obtain rfl := Option.some.inj hm
   exact cj_rt () [] Tryz.results111 (.tmp rfl .nil) rfl rfl
  ·have hm := ifB_f hb hm
   refine cj_skip ?_
   refine nj_seq ?_
   refine cj_seq ?_
   refine cj_seq ?_
   refine cj_reg ?_
   refine lp rfl (p_mv rfl) ?_
   refine lp rfl (p_mv rfl) ?_
   refine lp rfl (p_lss rfl rfl) ?_
   refine lj_seq ?_
   refine cj_if (b := decide (a0 < a1)) rfl (fun hb => ?_) (fun hb => ?_)
   ·have hm := ifB_t hb hm
    refine cj_seq ?_
    refine cj_reg ?_
    refine lp rfl (p_as rfl) ?_
    refine lj_seq ?_
    obtain rfl := Option.some.inj hm
    exact cj_rt () [] Tryz.results111 (.tmp rfl .nil) rfl rfl
   ·have hm := ifB_f hb hm
    refine cj_skip ?_
    refine nj_seq ?_
    refine cj_seq ?_
    refine cj_seq ?_
    refine cj_reg ?_
    refine lp rfl (p_mv rfl) ?_
    refine lp rfl (p_mv rfl) ?_
    refine lp rfl (p_gtr rfl rfl) ?_
    refine lj_seq ?_
    refine cj_if (b := decide (a0 > a1)) rfl (fun hb => ?_) (fun hb => ?_)
    ·have hm := ifB_t hb hm
     refine cj_seq ?_
     refine cj_reg ?_
     refine lp rfl (p_as rfl) ?_
     refine lj_seq ?_
     obtain rfl := Option.some.inj hm
     exact cj_rt () [] Tryz.results111 (.tmp rfl .nil) rfl rfl
    ·have hm := ifB_f hb hm
     refine cj_skip ?_
     refine nj_seq ?_
     refine cj_seq ?_
     refine cj_reg ?_
     refine lp rfl (p_as rfl) ?_
     refine lj_seq ?_
     obtain rfl := Option.some.inj hm
     exact cj_rt () [] Tryz.results111 (.tmp rfl .nil) rfl rfl
theorem ok_rehearse_flagNumber (a0 : Bool) {r : Int} (hm : m_rehearse_flagNumber a0 = some r) :
  Ctr Tryz.prog 113 [.bool a0].toArray ([] : List Ent) [] (X := Unit) (fun _ => .int .i64 r) (fun _ => []) := by
 unfold m_rehearse_flagNumber at hm
 refine ctr_mk (vs := [(0, .bool a0)]) Tryz.func113 rfl Tryz.ntmps113 rfl ⟨rfl, trivial⟩ (fun w0 A => ?_)
 refine cj_seq ?_
 refine cj_reg ?_
 refine lp rfl (p_as rfl) ?_
 refine lj_seq ?_
 refine cj_seq ?_
 refine cj_seq ?_
 refine cj_reg ?_
 refine lp rfl (p_mv rfl) ?_
 refine lj_seq ?_
 refine cj_if (b := a0) rfl (fun hb => ?_) (fun hb => ?_)
 ·have hm := ifB_t hb hm
  refine cj_seq ?_
  refine cj_reg ?_
  refine lp rfl (p_as rfl) ?_
  refine lj_seq ?_
  obtain rfl := Option.some.inj hm
  exact cj_rt () [] Tryz.results113 (.tmp rfl .nil) rfl rfl
 ·have hm := ifB_f hb hm
  refine cj_skip ?_
  refine nj_seq ?_
  refine cj_seq ?_
  refine cj_reg ?_
  refine lp rfl (p_as rfl) ?_
  refine lj_seq ?_
  obtain rfl := Option.some.inj hm
  exact cj_rt () [] Tryz.results113 (.tmp rfl .nil) rfl rfl
theorem ok_cmp_Or_int (s0_ : SV) (a0 : (List Int)) {r : Int} (hm : m_cmp_Or_int a0 = some r) :
  Ctr Tryz.prog 110 [s0_.v].toArray ([] : List Ent) [RdS R3 (SV.v s0_) a0] (X := Unit) (fun _ => .int .i64 r) (fun _ => []) := by
 unfold m_cmp_Or_int at hm
 refine ctr_mk (vs := [(0, s0_.v)]) Tryz.func110 rfl Tryz.ntmps110 rfl ⟨rfl, trivial⟩ (fun w0 A => ?_)
 refine cj_seq ?_
 refine cj_reg ?_
 refine lp rfl (p_as rfl) ?_
 refine lj_seq ?_
 refine cj_seq ?_
 refine cj_reg ?_
 refine lp rfl (p_as rfl) ?_
 refine lj_seq ?_
 refine cj_seq ?_
 refine cj_seq ?_
 refine cj_reg ?_
 refine lp rfl (p_mv rfl) ?_
 refine lp rfl (p_len Tryz.underlying22 rfl (.ro 0 rfl)) ?_
 refine lp rfl (p_mv rfl) ?_
 refine lj_seq ?_
 obtain ⟨f7, hf7, hm⟩ := bindS hm
 refine cj_range (γ := Unit) (m := (a0.length : Int)) hf7 () (fun u4 g5 => [(2, .int .i64 0), (3, .int .i64 0), (6, s0_.v)]) (fun u4 g5 => Sat w0 (keys ([] : List Ent)) A [.ro (RdS R3 (SV.v s0_) a0)]) ⟨rfl, rfl, rfl, rfl, rfl, trivial⟩ (fun _ h => h.picks [0] rfl) (nat_lt _) (fun _ h => (FactAt.get (F := RdS R3 (SV.v s0_) a0) (.ro 0 rfl) h).1) (fun _ _ => ⟨rfl, rfl, rfl, rfl⟩) ⟨rfl, rfl, rfl, rfl, rfl⟩ rfl rfl rfl (fun u4 g5 e => ?_) (fun aftk6 i1 x2 u4 g5 k6 hx3 hs J hJk6 hBk6 hX I cnk6 => ?_)
 ·have hm := Flow.fin_b e hm
  refine nj_seq ?_
  refine cj_seq ?_
  refine cj_reg ?_
  refine lp rfl (p_mv rfl) ?_
  refine lp rfl (p_as rfl) ?_
  refine lj_seq ?_
  obtain rfl := Option.some.inj hm
  exact cj_rt () [] Tryz.results110 (.tmp rfl .nil) rfl rfl
 ·have hRk6 : ∀ t, k6 = .ret t → some t = some r := fun t e => by rw [hX t e] at hm; exact hm
  have hm := hs
  refine cj_seq ?_
  refine cj_reg ?_
  refine lp rfl (p_idx Tryz.underlying22 ty3 rfl rfl (.ro 0 rfl) (getI_nat.trans hx3)) ?_
  refine lp rfl (p_lde (o := 0) ty3 rfl rfl (.ro 0 rfl) hx3 rfl) ?_
  refine lp rfl (p_as rfl) ?_
  refine lj_seq ?_
  refine cj_seq ?_
  refine cj_reg ?_
  refine lp rfl (p_mv rfl) ?_
  refine lp rfl (p_mv rfl) ?_
  refine lp rfl (p_neq rfl rfl) ?_
  refine lj_seq ?_
  refine cj_if (b := x2 != 0) rfl (fun hb => ?_) (fun hb => ?_)
  ·have hm := ifB_t hb hm
   refine cj_seq ?_
   refine cj_reg ?_
   refine lp rfl (p_mv rfl) ?_
   refine lp rfl (p_as rfl) ?_
   refine lj_seq ?_
   have hm := hRk6 _ (Option.some.inj hm).symm
   obtain rfl := Option.some.inj hm
   exact cj_rt () [] Tryz.results110 (.tmp rfl .nil) rfl rfl
  ·have hm := ifB_f hb hm
   refine cj_skip ?_
   refine nj_blk ?_
   exact cnk6 _ _ () () (hJk6 _ (Option.some.inj hm).symm) ⟨rfl, rfl, rfl, rfl, rfl, trivial⟩ (fun _ h => h.picks [0] rfl)
theorem ok_rehearse_compareCame (a0 : TCame) (a1 : TCame) {r : Int} (hm : m_rehearse_compareCame a0 a1 = some r) :
  Ctr Tryz.prog 88 [.agg (R91.enc a0).toArray, .agg (R91.enc a1).toArray].toArray ([] : List Ent) [] (X := Unit) (fun _ => .int .i64 r) (fun _ => []) := by
 unfold m_rehearse_compareCame at hm
 refine ctr_mk (vs := [(0, .agg (R91.enc a0).toArray), (1, .agg (R91.enc a1).toArray)]) Tryz.func88 rfl Tryz.ntmps88 rfl ⟨rfl, rfl, trivial⟩ (fun w0 A => ?_)
 refine cj_seq ?_
 refine cj_reg ?_
 refine r_bx (cs := [.int .i64 a0.At, .string a0.Singer, .bool a0.Left]) rfl rfl rfl (fun b1 => ?_)
 refine r_bx (cs := [.int .i64 a1.At, .string a1.Singer, .bool a1.Left]) rfl rfl rfl (fun b2 => ?_)
 refine lp rfl (p_as rfl) ?_
 refine lj_seq ?_
 refine cj_seq ?_
 obtain ⟨y3, hy3, hm⟩ := bindS hm
 obtain ⟨y4, hy4, hm⟩ := bindS hm
 obtain ⟨y5, hy5, hm⟩ := bindS hm
 obtain ⟨y6, hy6, hm⟩ := bindS hm
 obtain ⟨y7, hy7, hm⟩ := bindS hm
 obtain ⟨y9, hy9, hm⟩ := bindS hm
 refine cj_anyT [0, 1, 2, 3, 5, 6, 7, 8, 10, 11, 13, 14, 19] [] (Sat w0 (keys ([] : List Ent)) A [.box b2 91 [.int .i64 a1.At, .string a1.Singer, .bool a1.Left], .box b1 91 [.int .i64 a0.At, .string a0.Singer, .bool a0.Left]]) (Sat w0 (keys ([] : List Ent)) A [.box b2 91 [.int .i64 a1.At, .string a1.Singer, .bool a1.Left], .box b1 91 [.int .i64 a0.At, .string a0.Singer, .bool a0.Left]]) (by kernel_rfl) ?_
 refine at_take2 0 rfl (by kernel_rfl) (by kernel_rfl) (by kernel_rfl) (fun _ h => h.picks [0, 0] rfl) rfl rfl (p_fab fl91_0 rfl) (fun _ h => h.picks [0, 0] rfl) ?_
 refine at_take2 1 rfl (by kernel_rfl) (by kernel_rfl) (by kernel_rfl) (fun _ h => h.picks [0, 0] rfl) rfl rfl (p_lbs ty3 rfl (j := 1) rfl rfl) (fun _ h => h.picks [0, 0] rfl) ?_
 refine at_take2 2 rfl (by kernel_rfl) (by kernel_rfl) (by kernel_rfl) (fun _ h => h.picks [0, 0] rfl) rfl rfl (p_fab fl91_0 rfl) (fun _ h => h.picks [0, 0] rfl) ?_
 refine at_take2 3 rfl (by kernel_rfl) (by kernel_rfl) (by kernel_rfl) (fun _ h => h.picks [0, 0] rfl) rfl rfl (p_lbs ty3 rfl (j := 0) rfl rfl) (fun _ h => h.picks [0, 0] rfl) ?_
 refine at_take2 5 rfl (by kernel_rfl) (by kernel_rfl) (by kernel_rfl) (fun _ h => h.picks [0, 0] rfl) rfl rfl (p_fab fl91_1 rfl) (fun _ h => h.picks [0, 0] rfl) ?_
 refine at_take2 6 rfl (by kernel_rfl) (by kernel_rfl) (by kernel_rfl) (fun _ h => h.picks [0, 0] rfl) rfl rfl (p_lbs ty9 rfl (j := 1) rfl rfl) (fun _ h => h.picks [0, 0] rfl) ?_
 refine at_take2 7 rfl (by kernel_rfl) (by kernel_rfl) (by kernel_rfl) (fun _ h => h.picks [0, 0] rfl) rfl rfl (p_fab fl91_1 rfl) (fun _ h => h.picks [0, 0] rfl) ?_
 refine at_take2 8 rfl (by kernel_rfl) (by kernel_rfl) (by kernel_rfl) (fun _ h => h.picks [0, 0] rfl) rfl rfl (p_lbs ty9 rfl (j := 0) rfl rfl) (fun _ h => h.picks [0, 0] rfl) ?_
 refine at_take2 10 rfl (by kernel_rfl) (by kernel_rfl) (by kernel_rfl) (fun _ h => h.picks [0, 0] rfl) rfl rfl (p_fab fl91_2 rfl) (fun _ h => h.picks [0, 0] rfl) ?_
 refine at_take2 11 rfl (by kernel_rfl) (by kernel_rfl) (by kernel_rfl) (fun _ h => h.picks [0, 0] rfl) rfl rfl (p_lbs ty4 rfl (j := 1) rfl rfl) (fun _ h => h.picks [0, 0] rfl) ?_
 refine at_take2 13 rfl (by kernel_rfl) (by kernel_rfl) (by kernel_rfl) (fun _ h => h.picks [0, 0] rfl) rfl rfl (p_fab fl91_2 rfl) (fun _ h => h.picks [0, 0] rfl) ?_
 refine at_take2 14 rfl (by kernel_rfl) (by kernel_rfl) (by kernel_rfl) (fun _ h => h.picks [0, 0] rfl) rfl rfl (p_lbs ty4 rfl (j := 0) rfl rfl) (fun _ h => h.picks [0, 0] rfl) ?_
 refine at_each (rs := [4]) (by kernel_rfl) (by decide) ?_
 refine (.cons rfl (fun I cnI => ?_) .nil)
 ·refine r_call [] cf111 rfl rfl (ok_cmp_Compare_int a0.At a1.At hy3) rfl rfl .nil (fun _ => rfl) rfl (fun _ => ?_)
  refine lj_nil ?_
  refine cnI _ _ (sof1 rfl rfl (fun _ h => h.picks [0, 0] rfl)) ?_
  refine at_each (rs := [9]) (by kernel_rfl) (by decide) ?_
  refine (.cons rfl (fun I cnI => ?_) .nil)
  ·refine r_call [] cf112 rfl rfl (ok_strings_Compare a0.Singer a1.Singer hy4) rfl rfl .nil (fun _ => rfl) rfl (fun _ => ?_)
   refine lj_nil ?_
   refine cnI _ _ (sof1 rfl rfl (fun _ h => h.picks [0, 0] rfl)) ?_
   refine at_each (rs := [12]) (by kernel_rfl) (by decide) ?_
   refine (.cons rfl (fun I cnI => ?_) .nil)
   ·refine r_call [] cf113 rfl rfl (ok_rehearse_flagNumber a0.Left hy5) rfl rfl .nil (fun _ => rfl) rfl (fun _ => ?_)
    refine lj_nil ?_
    refine cnI _ _ (sof1 rfl rfl (fun _ h => h.picks [0, 0] rfl)) ?_
    refine at_each (rs := [15]) (by kernel_rfl) (by decide) ?_
    refine (.cons rfl (fun I cnI => ?_) .nil)
    ·refine r_call [] cf113 rfl rfl (ok_rehearse_flagNumber a1.Left hy6) rfl rfl .nil (fun _ => rfl) rfl (fun _ => ?_)
     refine lj_nil ?_
     refine cnI _ _ (sof1 rfl rfl (fun _ h => h.picks [0, 0] rfl)) ?_
     refine at_each (rs := [16]) (by kernel_rfl) (by decide) ?_
     refine (.cons rfl (fun I cnI => ?_) .nil)
     ·refine r_call [] cf111 rfl rfl (ok_cmp_Compare_int y5 y6 hy7) rfl rfl .nil (fun _ => rfl) rfl (fun _ => ?_)
      refine lj_nil ?_
      refine cnI _ _ (sof1 rfl rfl (fun _ h => h.picks [0, 0] rfl)) ?_
      refine at_each (rs := [17]) (by kernel_rfl) (by decide) ?_
      refine (.cons rfl (fun I cnI => ?_) .nil)
      ·refine r_bs R3 [y3, y4, y7] rfl rfl rfl (fun _ => by kernel_rfl) rfl (fun s10 => ?_)
       refine lj_nil ?_
       refine cnI _ _ (sof1 rfl rfl (fun _ h => h.picks [1, 1] rfl)) ?_
       refine at_each (rs := [18]) (by kernel_rfl) (by decide) ?_
       refine (.cons rfl (fun I cnI => ?_) .nil)
       ·refine r_call [] cf110 rfl rfl (ok_cmp_Or_int s10 [y3, y4, y7] hy9) rfl rfl (.cons (.row 0 rfl) .nil) (fun _ => rfl) rfl (fun _ => ?_)
        refine lj_nil ?_
        refine cnI _ _ (sof1 rfl rfl (fun _ h => h.picks [1, 1] rfl)) ?_
        refine at_take2 19 rfl (by kernel_rfl) (by kernel_rfl) (by kernel_rfl) (fun _ h => h.picks [0, 0] rfl) rfl rfl (p_as rfl) (fun _ h => h.picks [1, 1] rfl) ?_
        refine at_done (by kernel_rfl) ?_
        refine nj_seq ?_
        obtain rfl := Option.some.inj hm
        exact cj_rt () [] Tryz.results88 (.tmp rfl .nil) rfl rfl
theorem ok_rehearse_CheckCame (s0_ : SV) (a0 : (List TCame)) {r : Int} (hm : m_rehearse_CheckCame a0 = some r) :
  Ctr Tryz.prog 61 [s0_.v].toArray ([] : List Ent) [RdS R91 (SV.v s0_) a0] (X := Unit) (fun _ => .int .i64 r) (fun _ => []) := by
 unfold m_rehearse_CheckCame at hm
 refine ctr_mk (vs := [(0, s0_.v)]) Tryz.func61 rfl Tryz.ntmps61 rfl ⟨rfl, trivial⟩ (fun w0 A => ?_)
 refine cj_seq ?_
 refine cj_reg ?_
 refine lp rfl (p_as rfl) ?_
 refine lj_seq ?_
 refine cj_seq ?_
 refine cj_seq ?_
 refine cj_reg ?_
 refine lp rfl (p_mv rfl) ?_
 refine lp rfl (p_len Tryz.underlying92 rfl (.ro 0 rfl)) ?_
 refine lp rfl (p_gtr rfl rfl) ?_
 refine lj_seq ?_
 refine cj_if (b := decide ((a0.length : Int) > 5000)) rfl (fun hb => ?_) (fun hb => ?_)
 ·have hm := ifB_t hb hm
  refine cj_seq ?_
  refine cj_reg ?_
  refine lp rfl (p_as rfl) ?_
  refine lj_seq ?_
  obtain rfl := Option.some.inj hm
  exact cj_rt () [] Tryz.results61 (.tmp rfl .nil) rfl rfl
 ·have hm := ifB_f hb hm
  refine cj_skip ?_
  refine nj_seq ?_
  refine cj_seq ?_
  refine cj_seq ?_
  refine cj_reg ?_
  refine lp rfl (p_mv rfl) ?_
  refine lp rfl (p_len Tryz.underlying92 rfl (.ro 0 rfl)) ?_
  refine lp rfl (p_mv rfl) ?_
  refine lj_seq ?_
  obtain ⟨f7, hf7, hm⟩ := bindS hm
  refine cj_range (γ := Unit) (m := (a0.length : Int)) hf7 () (fun u4 g5 => [(0, s0_.v), (2, .int .i64 0), (8, s0_.v)]) (fun u4 g5 => Sat w0 (keys ([] : List Ent)) A [.ro (RdS R91 (SV.v s0_) a0)]) ⟨rfl, rfl, rfl, rfl, rfl, trivial⟩ (fun _ h => h.picks [0] rfl) (nat_lt _) (fun _ h => (FactAt.get (F := RdS R91 (SV.v s0_) a0) (.ro 0 rfl) h).1) (fun _ _ => ⟨rfl, rfl, rfl, rfl⟩) ⟨rfl, rfl, rfl, rfl, rfl⟩ rfl rfl rfl (fun u4 g5 e => ?_) (fun aftk6 i1 x2 u4 g5 k6 hx3 hs J hJk6 hBk6 hX I cnk6 => ?_)
  ·have hm := Flow.fin_b e hm
   refine nj_seq ?_
   refine cj_seq ?_
   refine cj_reg ?_
   refine lp rfl (p_as rfl) ?_
   refine lj_seq ?_
   obtain rfl := Option.some.inj hm
   exact cj_rt () [] Tryz.results61 (.tmp rfl .nil) rfl rfl
  ·have hRk6 : ∀ t, k6 = .ret t → some t = some r := fun t e => by rw [hX t e] at hm; exact hm
   have hm := hs
   refine cj_seq ?_
   refine cj_reg ?_
   refine lp rfl (p_mv rfl) ?_
   refine lp rfl (p_idx Tryz.underlying92 ty91 rfl rfl (.ro 0 rfl) (getI_nat.trans hx3)) ?_
   refine lp rfl (p_lea ty91 rfl (.ro 0 rfl) hx3) ?_
   refine r_al ty91 rfl (fun b8 => ?_)
   refine lp rfl (p_as rfl) ?_
   refine r_sb (vs := [.int .i64 x2.At, .string x2.Singer, .bool x2.Left]) (j := 0) ty91 rfl rfl rfl rfl rfl rfl rfl ?_
   refine lj_seq ?_
   refine cj_blk ?_
   refine cj_seq ?_
   refine cj_reg ?_
   refine lp rfl (p_fab fl91_0 rfl) ?_
   refine lp rfl (p_lbs ty3 rfl (j := 0) rfl rfl) ?_
   obtain ⟨y9, hy9, hm⟩ := bindS hm
   refine r_call [] cf62 rfl rfl (ok_kit_IsMoment x2.At hy9) rfl rfl .nil (fun _ => rfl) rfl (fun _ => ?_)
   refine lp rfl (p_not rfl) ?_
   refine lp rfl (p_as rfl) ?_
   refine lj_seq ?_
   refine cj_if (b := !y9) rfl (fun hb => ?_) (fun hb => ?_)
   ·have hm := ifB_t hb hm
    refine cj_seq ?_
    refine cj_reg ?_
    refine lp rfl (p_as rfl) ?_
    refine lj_seq ?_
    have hm := hRk6 _ (Option.some.inj hm).symm
    obtain rfl := Option.some.inj hm
    exact cj_rt () [] Tryz.results61 (.tmp rfl .nil) rfl rfl
   ·have hm := ifB_f hb hm
    refine cj_seq ?_
    refine cj_reg ?_
    refine lp rfl (p_fab fl91_1 rfl) ?_
    refine lp rfl (p_lbs ty9 rfl (j := 0) rfl rfl) ?_
    obtain ⟨y10, hy10, hm⟩ := bindS hm
    refine r_call [] cf87 rfl rfl (ok_kit_IsKey x2.Singer hy10) rfl rfl .nil (fun _ => rfl) rfl (fun _ => ?_)
    refine lp rfl (p_not rfl) ?_
    refine lp rfl (p_as rfl) ?_
    refine lj_seq ?_
    refine cj_if (b := !y10) rfl (fun hb => ?_) (fun hb => ?_)
    ·have hm := ifB_t hb hm
     refine cj_seq ?_
     refine cj_reg ?_
     refine lp rfl (p_as rfl) ?_
     refine lj_seq ?_
     have hm := hRk6 _ (Option.some.inj hm).symm
     obtain rfl := Option.some.inj hm
     exact cj_rt () [] Tryz.results61 (.tmp rfl .nil) rfl rfl
    ·have hm := ifB_f hb hm
     refine cj_seq ?_
     refine cj_quiet (by kernel_rfl) (by kernel_rfl) ?_
     refine q_p rfl (p_mv rfl) ?_
     refine q_p rfl (p_gtr rfl rfl) ?_
     refine q_p rfl (p_mv rfl) ?_
     refine q_case (i := 28) (decide ((i1 : Int) > 0)) rfl (fun hb => ?_) (fun hb => ?_)
     ·have hm := ifB_t hb hm
      refine q_g true rfl rfl rfl ?_
      refine q_p rfl (p_mv rfl) ?_
      refine q_g true rfl rfl rfl ?_
      refine q_p rfl (p_mv rfl) ?_
      refine q_g true rfl rfl rfl ?_
      refine q_p rfl (p_sub rfl rfl) ?_
      refine q_g true rfl rfl rfl ?_
      obtain ⟨e11, he11, hm⟩ := bindS hm
      refine q_p rfl (p_idx Tryz.underlying92 ty91 rfl rfl (.ro 1 rfl) he11) ?_
      refine q_g true rfl rfl rfl ?_
      refine q_p rfl (p_lea ty91 rfl (.ro 1 rfl) (getI_spec he11).2) ?_
      refine q_g true rfl rfl rfl ?_
      refine q_p rfl (p_lbw ty91 rfl (j := 0) rfl rfl) ?_
      refine q_g true rfl rfl rfl ?_
      obtain ⟨y12, hy12, hm⟩ := bindS hm
      refine q_call (.int .i64 y12) cf88 rfl rfl (ok_rehearse_compareCame e11 x2 hy12) .nil (fun _ => rfl) (fun _ => rfl) rfl ?_
      refine q_g true rfl rfl rfl ?_
      refine q_p rfl (p_geq rfl rfl) ?_
      refine q_p rfl (p_pkt rfl rfl) ?_
      refine q_p rfl (p_as rfl) ?_
      refine q_nil ?_
      refine nj_seq ?_
      refine cj_if (b := decide (y12 ≥ 0)) rfl (fun hb => ?_) (fun hb => ?_)
      ·have hm := ifB_t hb hm
       refine cj_seq ?_
       refine cj_reg ?_
       refine lp rfl (p_as rfl) ?_
       refine lj_seq ?_
       have hm := hRk6 _ (Option.some.inj hm).symm
       obtain rfl := Option.some.inj hm
       exact cj_rt () [] Tryz.results61 (.tmp rfl .nil) rfl rfl
      ·have hm := ifB_f hb hm
       refine cj_skip ?_
       refine nj_blk ?_
       refine nj_blk ?_
       exact cnk6 _ _ () () (hJk6 _ (Option.some.inj hm).symm) ⟨rfl, rfl, rfl, rfl, rfl, trivial⟩ (fun _ h => h.picks [1] rfl)
     ·have hm := ifB_f hb hm
      refine q_s true rfl rfl rfl rfl ?_
      refine q_s true rfl rfl rfl rfl ?_
      refine q_s true rfl rfl rfl rfl ?_
      refine q_s true rfl rfl rfl rfl ?_
      refine q_s true rfl rfl rfl rfl ?_
      refine q_s true rfl rfl rfl rfl ?_
      refine q_s true rfl rfl rfl rfl ?_
      refine q_s true rfl rfl rfl rfl ?_
      refine q_p rfl (p_pkf rfl rfl) ?_
      refine q_p rfl (p_as rfl) ?_
      refine q_nil ?_
      refine nj_seq ?_
      refine cj_if_f rfl ?_
      refine cj_skip ?_
      refine nj_blk ?_
      refine nj_blk ?_
      exact cnk6 _ _ () () (hJk6 _ (Option.some.inj hm).symm) ⟨rfl, rfl, rfl, rfl, rfl, trivial⟩ (fun _ h => h.picks [1] rfl)
theorem ok_rehearse_joined (s0_ : SV) (a0 : (List TWindow)) {r : (List TWindow)} (hm : m_rehearse_joined a0 = some r) :
  Ctr Tryz.prog 89 [s0_.v].toArray ([] : List Ent) [RdS R128 (SV.v s0_) a0] (X := SV) (fun s => s.v) (fun s => [.row R128 (SV.v s) r]) := by
 unfold m_rehearse_joined at hm
 refine ctr_mk (vs := [(0, s0_.v)]) Tryz.func89 rfl Tryz.ntmps89 rfl ⟨rfl, trivial⟩ (fun w0 A => ?_)
 refine cj_seq ?_
 refine cj_reg ?_
 refine lp rfl (p_as rfl) ?_
 refine lj_seq ?_
 refine cj_seq ?_
 refine cj_reg ?_
 refine lp rfl (p_as rfl) ?_
 refine lj_seq ?_
 refine cj_seq ?_
 refine cj_seq ?_
 refine cj_reg ?_
 refine lp rfl (p_mv rfl) ?_
 refine lp rfl (p_len Tryz.underlying125 rfl (.ro 0 rfl)) ?_
 refine lp rfl (p_mv rfl) ?_
 refine lj_seq ?_
 refine cj_nil R128 ?_
 obtain ⟨f8, hf8, hm⟩ := bindS hm
 refine cj_range (γ := SV) (m := (a0.length : Int)) hf8 nilS (fun u5 g6 => [(2, .slice none 0 0), (3, g6.v), (7, s0_.v)]) (fun u5 g6 => Sat w0 (keys ([] : List Ent)) A [.ro (RdS R128 (SV.v s0_) a0), .row R128 (SV.v g6) u5]) ⟨rfl, rfl, rfl, rfl, rfl, trivial⟩ (fun _ h => h.picks [1, 0] rfl) (nat_lt _) (fun _ h => (FactAt.get (F := RdS R128 (SV.v s0_) a0) (.ro 1 rfl) h).1) (fun _ _ => ⟨rfl, rfl, rfl, rfl⟩) ⟨rfl, rfl, rfl, rfl, rfl⟩ rfl rfl rfl (fun u5 g6 e => ?_) (fun aftk7 i1 x2 u5 g6 k7 hx3 hs J hJk7 hBk7 hX I cnk7 => ?_)
 ·have hm := Flow.fin_b e hm
  refine nj_seq ?_
  refine cj_seq ?_
  refine cj_reg ?_
  refine lp rfl (p_mv rfl) ?_
  refine lp rfl (p_as rfl) ?_
  refine lj_seq ?_
  obtain rfl := Option.some.inj hm
  exact cj_rt g6 [1] Tryz.results89 (.tmp rfl .nil) rfl rfl
 ·have hRk7 : ∀ t, k7 = .ret t → some t = some r := fun t e => by rw [hX t e] at hm; exact hm
  have hm := hs
  refine cj_seq ?_
  refine cj_reg ?_
  refine lp rfl (p_idx Tryz.underlying125 ty128 rfl rfl (.ro 0 rfl) (getI_nat.trans hx3)) ?_
  refine lp rfl (p_lea ty128 rfl (.ro 0 rfl) hx3) ?_
  refine r_al ty128 rfl (fun b10 => ?_)
  refine r_sb (vs := [.int .i64 x2.From, .int .i64 x2.To]) (j := 0) ty128 rfl rfl rfl rfl rfl rfl rfl ?_
  refine lj_seq ?_
  refine cj_seq ?_
  refine cj_reg ?_
  refine lp rfl (p_mv rfl) ?_
  refine lp rfl (p_len Tryz.underlying125 rfl (.row 2 rfl)) ?_
  refine lp rfl (p_sub rfl rfl) ?_
  refine lp rfl (p_as rfl) ?_
  refine lj_seq ?_
  refine cj_seq ?_
  refine cj_quiet (by kernel_rfl) (by kernel_rfl) ?_
  refine q_p rfl (p_mv rfl) ?_
  refine q_p rfl (p_geq rfl rfl) ?_
  refine q_p rfl (p_mv rfl) ?_
  refine q_case (i := 18) (decide ((w64 ((u5.length : Int) - 1)) ≥ 0)) rfl (fun hb => ?_) (fun hb => ?_)
  ·have hm := ifB_t hb hm
   refine q_g true rfl rfl rfl ?_
   refine q_p rfl (p_fab fl128_0 rfl) ?_
   refine q_g true rfl rfl rfl ?_
   refine q_p rfl (p_lbs ty3 rfl (j := 0) rfl rfl) ?_
   refine q_g true rfl rfl rfl ?_
   refine q_p rfl (p_mv rfl) ?_
   refine q_g true rfl rfl rfl ?_
   refine q_p rfl (p_mv rfl) ?_
   refine q_g true rfl rfl rfl ?_
   obtain ⟨e11, he11, hm⟩ := bindS hm
   refine q_p rfl (p_idx Tryz.underlying125 ty128 rfl rfl (.row 2 rfl) he11) ?_
   refine q_g true rfl rfl rfl ?_
   refine q_p rfl (p_fae fl128_1 rfl (.row 2 rfl) (getI_spec he11).2) ?_
   refine q_g true rfl rfl rfl ?_
   refine q_p rfl (p_lde (o := 1) ty3 rfl rfl (.row 2 rfl) (getI_spec he11).2 rfl) ?_
   refine q_g true rfl rfl rfl ?_
   refine q_p rfl (p_leq rfl rfl) ?_
   refine q_p rfl (p_pkt rfl rfl) ?_
   refine q_nil ?_
   refine nj_seq ?_
   refine cj_if (b := decide (x2.From ≤ e11.To)) rfl (fun hb => ?_) (fun hb => ?_)
   ·have hm := ifB_t hb hm
    refine cj_tail 12 (by kernel_rfl) (by kernel_rfl) ?_
    refine s_p rfl (p_mv rfl) ?_
    refine s_p rfl (p_mv rfl) ?_
    refine s_p rfl (p_mv rfl) ?_
    refine s_p rfl (p_mv rfl) ?_
    obtain ⟨e12, he12, hm⟩ := bindS hm
    refine s_p rfl (p_idx Tryz.underlying125 ty128 rfl rfl (.row 2 rfl) he12) ?_
    refine s_p rfl (p_fae fl128_1 rfl (.row 2 rfl) (getI_spec he12).2) ?_
    refine s_p rfl (p_lde (o := 1) ty3 rfl rfl (.row 2 rfl) (getI_spec he12).2 rfl) ?_
    refine s_p rfl (p_fab fl128_1 rfl) ?_
    refine s_p rfl (p_lbs ty3 rfl (j := 0) rfl rfl) ?_
    refine s_p rfl (p_max rfl rfl) ?_
    obtain ⟨e13, he13, hm⟩ := bindS hm
    refine s_p rfl (p_idx Tryz.underlying125 ty128 rfl rfl (.row 2 rfl) he13) ?_
    refine s_p rfl (p_fae fl128_1 rfl (.row 2 rfl) (getI_spec he13).2) ?_
    refine s_nil ?_
    refine r_ste (k := 2) (o := 1) (vs := [.int .i64 (max e12.To x2.To)]) ty3 rfl rfl rfl rfl rfl rfl rfl (getI_spec he13).2 (TWindow.mk e13.From (max e12.To x2.To)) rfl rfl ?_
    refine lj_nil ?_
    refine nj_blk ?_
    exact cnk7 _ _ (u5.set ((w64 ((u5.length : Int) - 1)).toNat) (TWindow.mk e13.From (max e12.To x2.To))) g6 (hJk7 _ (Option.some.inj hm).symm) ⟨rfl, rfl, rfl, rfl, rfl, trivial⟩ (fun _ h => h.picks [1, 1] rfl)
   ·have hm := ifB_f hb hm
    refine cj_reg ?_
    refine lp rfl (p_mv rfl) ?_
    refine lp rfl (p_lbw ty128 rfl (j := 0) rfl rfl) ?_
    refine r_bs R128 [x2] rfl rfl rfl (fun _ => by kernel_rfl) rfl (fun s14 => ?_)
    obtain ⟨q15, hq15, hm⟩ := bindS hm
    refine r_app (k := 3) Tryz.underlying125 ty128 rfl rfl rfl rfl (.row 0 rfl) hq15 rfl (fun s16 => ?_)
    refine lp rfl (p_as rfl) ?_
    refine lj_nil ?_
    refine nj_blk ?_
    exact cnk7 _ _ q15 s16 (hJk7 _ (Option.some.inj hm).symm) ⟨rfl, rfl, rfl, rfl, rfl, trivial⟩ (fun _ h => h.picks [2, 2] rfl)
  ·have hm := ifB_f hb hm
   refine q_s true rfl rfl rfl rfl ?_
   refine q_s true rfl rfl rfl rfl ?_
   refine q_s true rfl rfl rfl rfl ?_
   refine q_s true rfl rfl rfl rfl ?_
   refine q_s true rfl rfl rfl rfl ?_
   refine q_s true rfl rfl rfl rfl ?_
   refine q_s true rfl rfl rfl rfl ?_
   refine q_s true rfl rfl rfl rfl ?_
   refine q_p rfl (p_pkf rfl rfl) ?_
   refine q_nil ?_
   refine nj_seq ?_
   refine cj_if_f rfl ?_
   refine cj_reg ?_
   refine lp rfl (p_mv rfl) ?_
   refine lp rfl (p_lbw ty128 rfl (j := 0) rfl rfl) ?_
   refine r_bs R128 [x2] rfl rfl rfl (fun _ => by kernel_rfl) rfl (fun s17 => ?_)
   obtain ⟨q18, hq18, hm⟩ := bindS hm
   refine r_app (k := 3) Tryz.underlying125 ty128 rfl rfl rfl rfl (.row 0 rfl) hq18 rfl (fun s19 => ?_)
   refine lp rfl (p_as rfl) ?_
   refine lj_nil ?_
   refine nj_blk ?_
   exact cnk7 _ _ q18 s19 (hJk7 _ (Option.some.inj hm).symm) ⟨rfl, rfl, rfl, rfl, rfl, trivial⟩ (fun _ h => h.picks [2, 2] rfl)
theorem ok_rehearse_presences (s0_ : SV) (a0 : (List TCame)) {r : (List (ByteArray × (List TWindow)))} (hm : m_rehearse_presences a0 = some r) :
  Ctr Tryz.prog 63 [s0_.v].toArray ([] : List Ent) [RdS R91 (SV.v s0_) a0] (X := (Nat × List (ByteArray × SV) × Array MapEntry × Nat)) (fun s => .map (some s.1)) (fun s => [.obj (famO kv9 SV.v (rowE R128) s.1 r s.2.1 none s.2.2.1 s.2.2.2)]) := by
 unfold m_rehearse_presences at hm
 refine ctr_mk (vs := [(0, s0_.v)]) Tryz.func63 rfl Tryz.ntmps63 rfl ⟨rfl, trivial⟩ (fun w0 A => ?_)
 refine cj_seq ?_
 refine cj_reg ?_
 refine lp rfl (p_as rfl) ?_
 refine lj_seq ?_
 refine cj_seq ?_
 refine cj_reg ?_
 refine r_mkmapF kv9 SV.v (rowE R128) rfl (fun b1 => ?_)
 refine lp rfl (p_as rfl) ?_
 refine lj_seq ?_
 refine cj_seq ?_
 refine cj_reg ?_
 refine r_mkmap kv9 vv3 rfl (fun b2 => ?_)
 refine lp rfl (p_as rfl) ?_
 refine lj_seq ?_
 refine cj_seq ?_
 refine cj_seq ?_
 refine cj_reg ?_
 refine lp rfl (p_mv rfl) ?_
 refine lp rfl (p_len Tryz.underlying92 rfl (.ro 2 rfl)) ?_
 refine lp rfl (p_mv rfl) ?_
 refine lj_seq ?_
 obtain ⟨f9, hf9, hm⟩ := bindS hm
 refine cj_range (γ := (Array MapEntry × Nat × List (ByteArray × SV) × Array MapEntry × Nat)) (m := (a0.length : Int)) hf9 (#[], 0, [], #[], 0) (fun u6 g7 => [(2, .map none), (3, .map (some b1)), (4, .map (some b2)), (15, s0_.v)]) (fun u6 g7 => Sat w0 (keys ([] : List Ent)) A [.obj (mapO kv9 b2 (mpV vv3 u6.1) g7.1 g7.2.1), .obj (famO kv9 SV.v (rowE R128) b1 u6.2 g7.2.2.1 none g7.2.2.2.1 g7.2.2.2.2), .ro (RdS R91 (SV.v s0_) a0)]) ⟨rfl, rfl, rfl, rfl, rfl, rfl, trivial⟩ (fun _ h => h.picks [0, 0, 0] rfl) (nat_lt _) (fun _ h => (FactAt.get (F := RdS R91 (SV.v s0_) a0) (.ro 2 rfl) h).1) (fun _ _ => ⟨rfl, rfl, rfl, rfl⟩) ⟨rfl, rfl, rfl, rfl, rfl⟩ rfl rfl rfl (fun u6 g7 e => ?_) (fun aftk8 i3 x4 u6 g7 k8 hx5 hs J hJk8 hBk8 hX I cnk8 => ?_)
 ·have hm := Flow.fin_b e hm
  refine nj_seq ?_
  refine cj_seq ?_
  refine cj_seq ?_
  refine cj_reg ?_
  refine lp rfl (p_mv rfl) ?_
  refine r_rng (vv := vv3) Tryz.underlying154 (.map 0 rfl) rfl rfl (fun b31 hrb32 => ?_)
  refine lj_seq ?_
  have hsq := anyOrd_spec hm
  refine cj_mrange (γ := (List (ByteArray × SV) × Array MapEntry × Nat)) (fun L hL => hsq L hL) hrb32 (g7.2.2.1, g7.2.2.2.1, g7.2.2.2.2) (fun u38 g39 => [(2, .map none), (3, .map (some b1))]) (fun u38 g39 => [.obj (mapO kv9 b2 (mpV vv3 u6.1) g7.1 g7.2.1), .obj (famO kv9 SV.v (rowE R128) b1 u38 g39.1 none g39.2.1 g39.2.2)]) ⟨rfl, rfl, rfl, trivial⟩ (fun _ h => h.picks [0, 0, 0] rfl) (fun _ _ => (.map 0 rfl)) (fun _ _ => ⟨rfl, rfl, rfl⟩) ⟨rfl, rfl, rfl⟩ rfl rfl (fun u38 g39 e => ?_) (fun aftk40 i33 x34 u38 g39 idx37 ix36 k40 hx35 hs J hJk40 hBk40 hX I cnk40 => ?_)
  ·have hm := Flow.fin_b (f := .brk u38) rfl e
   refine nj_seq ?_
   refine cj_seq ?_
   refine cj_seq ?_
   refine cj_reg ?_
   refine lp rfl (p_mv rfl) ?_
   refine r_rng (vv := SV.v) Tryz.underlying123 (.imp (.fam 1 rfl) (fun _ h => h.map)) rfl rfl (fun b48 hrb49 => ?_)
   refine lj_seq ?_
   refine cj_pure (F := FamAt kv9 SV.v (rowE R128) b1 u38 g39.1 none g39.2.1 g39.2.2) (.fam 2 rfl) (fun _ h => h.kys) (fun hky55 => ?_)
   refine cj_fact (F := fun _ => KeptK (u38.map Prod.fst) g39.2.1 g39.2.2 g39.1 g39.2.1 g39.2.2) (.tru (KeptK.refl _ hky55)) ?_
   have hsq := anyOrd_spec hm
   refine cj_frange (γ := (List (ByteArray × SV) × Array MapEntry × Nat)) (vv := SV.v) (fun u57 g58 => g58.1) (fun u57 g58 => g58.2.1) (fun u57 g58 => g58.2.2) (fun L hL => hsq L hL) hrb49 (g39.1, g39.2.1, g39.2.2) (fun u57 g58 => [(2, .map none), (3, .map (some b1))]) (fun u57 g58 => [.ro (fun _ => KeptK (u38.map Prod.fst) g39.2.1 g39.2.2 g58.1 g58.2.1 g58.2.2), .obj (mapO kv9 b2 (mpV vv3 u6.1) g7.1 g7.2.1), .obj (famO kv9 SV.v (rowE R128) b1 u57 g58.1 none g58.2.1 g58.2.2)]) ⟨rfl, rfl, rfl, trivial⟩ (fun _ h => h.picks [1, 0, 0, 0] rfl) (fun _ _ => .and (.imp (.fam 2 rfl) (fun _ h => h.map)) (.ro 0 rfl)) (fun _ _ => ⟨rfl, rfl, rfl⟩) ⟨rfl, rfl, rfl⟩ rfl rfl (fun u57 g58 e => ?_) (fun aftk59 i50 x51 u57 g58 idx54 ix53 k59 hx52 hs J hJk59 hBk59 hX I cnk59 => ?_)
   ·have hm := Flow.fin_b (f := .brk u57) rfl e
    refine NJ.sat (fun _ h => h.picks [1, 1] rfl) ?_
    refine nj_seq ?_
    refine cj_seq ?_
    refine cj_reg ?_
    refine lp rfl (p_mv rfl) ?_
    refine lp rfl (p_as rfl) ?_
    refine lj_seq ?_
    obtain rfl := Option.some.inj hm
    exact cj_rt (b1, g58.1, g58.2.1, g58.2.2) [1] Tryz.results63 (.tmp rfl .nil) rfl rfl
   ·have hRk59 : ∀ t, k59 = .ret t → some t = some r := fun t e => hX t e
    have hm := hs
    refine cj_pure (F := fun _ => KeptK (u38.map Prod.fst) g39.2.1 g39.2.2 g58.1 g58.2.1 g58.2.2) (.ro 1 rfl) (fun _ h => h) (fun hkp61 => ?_)
    refine cj_seq ?_
    refine cj_reg ?_
    refine lp rfl (p_entF (n := 0) (k := x51) (z := nilS) (.fam 3 rfl) hkp61 rfl hx52 rfl) ?_
    refine lp rfl (p_ext rfl rfl) ?_
    refine lp rfl (p_ext rfl rfl) ?_
    refine lp rfl (p_as rfl) ?_
    refine lp rfl (p_as rfl) ?_
    refine lj_seq ?_
    refine cj_reg ?_
    refine lp rfl (p_mv rfl) ?_
    refine lp rfl (p_mv rfl) ?_
    refine lp rfl (p_mv rfl) ?_
    obtain ⟨y62, hy62, hm⟩ := bindS hm
    refine r_call [] cf89 rfl rfl (ok_rehearse_joined ((lkM g58.1 x51).getD nilS) ((lkM u57 x51).getD []) hy62) rfl rfl (.cons (.imp (.fam 3 rfl) (fun _ h => h.look x51)) .nil) (fun _ => rfl) rfl (fun s63 => ?_)
    refine r_mpuK (x1 := y62) (g1 := s63) (k := x51) [4, 0] Tryz.underlying123 keyF9 rfl (.inl rfl) (KeptK.has hkp61 hx52) hkp61 rfl rfl rfl (fun es64 hkp66 => ?_)
    refine r_fact (F := fun _ => KeptK (u38.map Prod.fst) g39.2.1 g39.2.2 (putM g58.1 x51 s63) es64 g58.2.2) (.tru hkp66) ?_
    refine lj_nil ?_
    refine nj_blk ?_
    exact cnk59 _ _ (putM u57 x51 y62) (putM g58.1 x51 s63, es64, g58.2.2) (hJk59 _ (Option.some.inj hm).symm) ⟨rfl, rfl, rfl, trivial⟩ (fun _ h => h.picks [2, 0, 2, 0] rfl)
  ·have hRk40 : ∀ t, k40 = .ret t → some t = some r := fun t e => hX t e
   have hm := hs
   refine cj_seq ?_
   refine cj_reg ?_
   refine lp rfl (p_ent (kk := x34.1) (v := x34.2) (vv := vv3) (k := 0) (.map 1 rfl) rfl hx35 rfl) ?_
   refine lp rfl (p_ext rfl rfl) ?_
   refine lp rfl (p_ext rfl rfl) ?_
   refine lp rfl (p_as rfl) ?_
   refine lp rfl (p_as rfl) ?_
   refine lj_seq ?_
   refine cj_reg ?_
   refine lp rfl (p_mv rfl) ?_
   refine lp rfl (p_mv rfl) ?_
   refine lp rfl (p_mv rfl) ?_
   refine lp rfl (p_mv rfl) ?_
   refine lp rfl (p_lkm (vv := SV.v) (k := x34.1) (z := nilS) Tryz.underlying123 (keyF9) (fun _ => by kernel_rfl) (.imp (.fam 2 rfl) (fun _ h => h.map)) rfl rfl) ?_
   refine lp rfl (p_mv rfl) ?_
   refine lp rfl (p_bld [.int .i64 x34.2, .int .i64 345686400000] rfl (fun _ => by kernel_rfl)) ?_
   refine r_bs R128 [(TWindow.mk x34.2 345686400000)] rfl rfl rfl (fun _ => by kernel_rfl) rfl (fun s42 => ?_)
   refine LJ.sat (fun _ h => h.takeR 3 rfl x34.1) ?_
   obtain ⟨q44, hq44, hm⟩ := bindS hm
   refine r_app (k := 0) Tryz.underlying125 ty128 rfl rfl rfl rfl (.row 2 rfl) hq44 rfl (fun s45 => ?_)
   refine r_mpuF (x1 := q44) (g1 := s45) (k := x34.1) [1, 0] Tryz.underlying123 keyF9 rfl (.inr rfl) rfl rfl rfl (fun es46 cl47 => ?_)
   refine lj_nil ?_
   refine nj_blk ?_
   exact cnk40 _ _ (putM u38 x34.1 q44) (putM g39.1 x34.1 s45, es46, cl47) (hJk40 _ (Option.some.inj hm).symm) ⟨rfl, rfl, rfl, trivial⟩ (fun _ h => h.picks [2, 2, 0] rfl)
 ·have hRk8 : ∀ t, k8 = .ret t → some t = some r := fun t e => by rw [hX t e] at hm; exact hm
  have hm := hs
  refine cj_seq ?_
  refine cj_reg ?_
  refine lp rfl (p_idx Tryz.underlying92 ty91 rfl rfl (.ro 2 rfl) (getI_nat.trans hx5)) ?_
  refine lp rfl (p_lea ty91 rfl (.ro 2 rfl) hx5) ?_
  refine r_al ty91 rfl (fun b10 => ?_)
  refine r_sb (vs := [.int .i64 x4.At, .string x4.Singer, .bool x4.Left]) (j := 0) ty91 rfl rfl rfl rfl rfl rfl rfl ?_
  refine lj_seq ?_
  refine cj_seq ?_
  refine cj_reg ?_
  refine lp rfl (p_mv rfl) ?_
  refine lp rfl (p_fab fl91_1 rfl) ?_
  refine lp rfl (p_lbs ty9 rfl (j := 0) rfl rfl) ?_
  refine lp rfl (p_lko (vv := vv3) (k := x4.Singer) (z := 0) Tryz.underlying154 (keyF9) (fun _ => by kernel_rfl) (.map 1 rfl) rfl rfl) ?_
  refine lp rfl (p_mv rfl) ?_
  refine lp rfl (p_ext rfl rfl) ?_
  refine lp rfl (p_ext rfl rfl) ?_
  refine lp rfl (p_as rfl) ?_
  refine lp rfl (p_as rfl) ?_
  refine lj_seq ?_
  refine cj_blk ?_
  refine cj_seq ?_
  refine cj_reg ?_
  obtain ⟨k13, hk13, hm⟩ := bindS hm
  have hRk13 : ∀ t, k13 = .inr t → some t = some k8 := fun t e => by rw [e] at hm; exact hm
  refine lj_join (σ := Bool) (γ := Unit) (fun u11 => k13 = .inl u11) (fun u11 g12 => [(2, .map none), (3, .map (some b1)), (4, .map (some b2)), (6, .pointer (some ⟨b10, 0, none⟩)), (7, .int .i64 ((lkM u6.1 x4.Singer).getD 0)), (8, .bool (hasM u6.1 x4.Singer)), (15, s0_.v), (16, .int .i64 (a0.length : Int)), (17, .int .i64 (i3 : Int)), (28, .bool u11)]) (fun u11 g12 => Sat w0 (keys ([] : List Ent)) A [.box b10 91 [.int .i64 x4.At, .string x4.Singer, .bool x4.Left], .obj (mapO kv9 b2 (mpV vv3 u6.1) g7.1 g7.2.1), .obj (famO kv9 SV.v (rowE R128) b1 u6.2 g7.2.2.1 none g7.2.2.2.1 g7.2.2.2.2), .ro (RdS R91 (SV.v s0_) a0)]) (fun u11 g12 hq => ?_) (fun J cnk13 => ?_)
  ·have hm := Sum.fin_l hq hm
   refine cj_if (b := u11) rfl (fun hb => ?_) (fun hb => ?_)
   ·have hm := ifB_t hb hm
    refine cj_reg ?_
    refine lp rfl (p_mv rfl) ?_
    refine lp rfl (p_fab fl91_1 rfl) ?_
    refine lp rfl (p_lbs ty9 rfl (j := 0) rfl rfl) ?_
    refine lp rfl (p_fab fl91_0 rfl) ?_
    refine lp rfl (p_lbs ty3 rfl (j := 0) rfl rfl) ?_
    refine r_mpu (j := 1) (vv := vv3) (k := x4.Singer) (v := x4.At) Tryz.underlying154 keyF9 rfl rfl rfl rfl (fun es14 cl15 => ?_)
    refine lj_nil ?_
    refine nj_blk ?_
    refine nj_blk ?_
    exact cnk8 _ _ (putM u6.1 x4.Singer x4.At, u6.2) (es14, cl15, g7.2.2.1, g7.2.2.2.1, g7.2.2.2.2) (hJk8 _ (Option.some.inj hm).symm) ⟨rfl, rfl, rfl, rfl, rfl, rfl, trivial⟩ (fun _ h => h.picks [1, 1, 1] rfl)
   ·have hm := ifB_f hb hm
    refine cj_seq ?_
    refine cj_reg ?_
    obtain ⟨k18, hk18, hm⟩ := bindS hm
    have hRk18 : ∀ t, k18 = .inr t → some t = some k8 := fun t e => by rw [e] at hm; exact hm
    refine lj_join (σ := Bool) (γ := Unit) (fun u16 => k18 = .inl u16) (fun u16 g17 => [(2, .map none), (3, .map (some b1)), (4, .map (some b2)), (6, .pointer (some ⟨b10, 0, none⟩)), (7, .int .i64 ((lkM u6.1 x4.Singer).getD 0)), (15, s0_.v), (16, .int .i64 (a0.length : Int)), (17, .int .i64 (i3 : Int)), (41, .bool u16)]) (fun u16 g17 => Sat w0 (keys ([] : List Ent)) A [.box b10 91 [.int .i64 x4.At, .string x4.Singer, .bool x4.Left], .obj (mapO kv9 b2 (mpV vv3 u6.1) g7.1 g7.2.1), .obj (famO kv9 SV.v (rowE R128) b1 u6.2 g7.2.2.1 none g7.2.2.2.1 g7.2.2.2.2), .ro (RdS R91 (SV.v s0_) a0)]) (fun u16 g17 hq => ?_) (fun J cnk18 => ?_)
    ·have hm := Sum.fin_l hq hm
     refine cj_if (b := u16) rfl (fun hb => ?_) (fun hb => ?_)
     ·have hm := ifB_t hb hm
      refine cj_seq ?_
      refine cj_reg ?_
      refine lp rfl (p_mv rfl) ?_
      refine lp rfl (p_fab fl91_1 rfl) ?_
      refine lp rfl (p_lbs ty9 rfl (j := 0) rfl rfl) ?_
      refine r_del (j := 1) (vv := vv3) (k := x4.Singer) Tryz.underlying154 keyF9 rfl rfl rfl (fun es19 => ?_)
      refine lj_seq ?_
      refine cj_seq ?_
      refine cj_reg ?_
      refine lp rfl (p_mv rfl) ?_
      refine lp rfl (p_fab fl91_0 rfl) ?_
      refine lp rfl (p_lbs ty3 rfl (j := 0) rfl rfl) ?_
      refine lp rfl (p_lss rfl rfl) ?_
      refine lj_seq ?_
      refine cj_if (b := decide (((lkM u6.1 x4.Singer).getD 0) < x4.At)) rfl (fun hb => ?_) (fun hb => ?_)
      ·have hm := ifB_t hb hm
       obtain ⟨q22, hq22, hm⟩ := bindS hm
       refine cj_anyT [0, 1, 2, 3, 4, 5, 6, 7, 8, 9, 10] [12, 13] (Sat w0 (keys ([] : List Ent)) A [.box b10 91 [.int .i64 x4.At, .string x4.Singer, .bool x4.Left], .obj (mapO kv9 b2 (mpV vv3 (delM u6.1 x4.Singer)) es19 g7.2.1), .obj (famO kv9 SV.v (rowE R128) b1 u6.2 g7.2.2.1 none g7.2.2.2.1 g7.2.2.2.2), .ro (RdS R91 (SV.v s0_) a0)]) (Sat w0 (keys ([] : List Ent)) A [.box b10 91 [.int .i64 x4.At, .string x4.Singer, .bool x4.Left], .obj (mapO kv9 b2 (mpV vv3 (delM u6.1 x4.Singer)) es19 g7.2.1), .ro (RdS R91 (SV.v s0_) a0)]) (by kernel_rfl) ?_
       refine at_take2 0 rfl (by kernel_rfl) (by kernel_rfl) (by kernel_rfl) (fun _ h => h.picks [0, 0, 1] rfl) rfl rfl (p_mv rfl) (fun _ h => h.picks [0, 0, 1] rfl) ?_
       refine at_take2 1 rfl (by kernel_rfl) (by kernel_rfl) (by kernel_rfl) (fun _ h => h.picks [0, 0, 1] rfl) rfl rfl (p_fab fl91_1 rfl) (fun _ h => h.picks [0, 0, 1] rfl) ?_
       refine at_take2 2 rfl (by kernel_rfl) (by kernel_rfl) (by kernel_rfl) (fun _ h => h.picks [0, 0, 1] rfl) rfl rfl (p_lbs ty9 rfl (j := 0) rfl rfl) (fun _ h => h.picks [0, 0, 1] rfl) ?_
       refine at_take2 3 rfl (by kernel_rfl) (by kernel_rfl) (by kernel_rfl) (fun _ h => h.picks [0, 0, 1] rfl) rfl rfl (p_mv rfl) (fun _ h => h.picks [0, 0, 1] rfl) ?_
       refine at_take2 4 rfl (by kernel_rfl) (by kernel_rfl) (by kernel_rfl) (fun _ h => h.picks [0, 0, 1] rfl) rfl rfl (p_fab fl91_1 rfl) (fun _ h => h.picks [0, 0, 1] rfl) ?_
       refine at_take2 5 rfl (by kernel_rfl) (by kernel_rfl) (by kernel_rfl) (fun _ h => h.picks [0, 0, 1] rfl) rfl rfl (p_lbs ty9 rfl (j := 0) rfl rfl) (fun _ h => h.picks [0, 0, 1] rfl) ?_
       refine at_take1 6 rfl (by kernel_rfl) (by kernel_rfl) (by kernel_rfl) (by kernel_rfl) rfl rfl (p_lkm (vv := SV.v) (k := x4.Singer) (z := nilS) Tryz.underlying123 (keyF9) (fun _ => by kernel_rfl) (.imp (.fam 2 rfl) (fun _ h => h.map)) rfl rfl) (fun _ h => h.picks [0, 0, 0, 0] rfl) ?_
       refine at_take2 7 rfl (by kernel_rfl) (by kernel_rfl) (by kernel_rfl) (fun _ h => h.picks [0, 0, 1] rfl) rfl rfl (p_mv rfl) (fun _ h => h.picks [0, 0, 1] rfl) ?_
       refine at_take2 8 rfl (by kernel_rfl) (by kernel_rfl) (by kernel_rfl) (fun _ h => h.picks [0, 0, 1] rfl) rfl rfl (p_fab fl91_0 rfl) (fun _ h => h.picks [0, 0, 1] rfl) ?_
       refine at_take2 9 rfl (by kernel_rfl) (by kernel_rfl) (by kernel_rfl) (fun _ h => h.picks [0, 0, 1] rfl) rfl rfl (p_lbs ty3 rfl (j := 0) rfl rfl) (fun _ h => h.picks [0, 0, 1] rfl) ?_
       refine at_take2 10 rfl (by kernel_rfl) (by kernel_rfl) (by kernel_rfl) (fun _ h => h.picks [0, 0, 1] rfl) rfl rfl (p_bld [.int .i64 ((lkM u6.1 x4.Singer).getD 0), .int .i64 x4.At] rfl (fun _ => by kernel_rfl)) (fun _ h => h.picks [0, 0, 1] rfl) ?_
       refine at_each (rs := [11]) (by kernel_rfl) (by decide) ?_
       refine (.cons rfl (fun I cnI => ?_) .nil)
       ·refine r_bs R128 [(TWindow.mk ((lkM u6.1 x4.Singer).getD 0) x4.At)] rfl rfl rfl (fun _ => by kernel_rfl) rfl (fun s26 => ?_)
        refine lj_nil ?_
        refine cnI _ _ (sof1 rfl rfl (fun _ h => h.picks [1, 1, 1, 1] rfl)) ?_
        refine at_each (rs := [12]) (by kernel_rfl) (by decide) ?_
        refine (.cons rfl (fun I cnI => ?_) .nil)
        ·refine LJ.sat (fun _ h => h.takeR 3 rfl x4.Singer) ?_
         refine r_app (k := 0) Tryz.underlying125 ty128 rfl rfl rfl rfl (.row 2 rfl) hq22 rfl (fun s28 => ?_)
         refine lj_nil ?_
         refine cnI _ _ (sof2 rfl rfl (fun _ h => h.picks [3, 3, 3] rfl)) ?_
         refine at_each (rs := [13]) (by kernel_rfl) (by decide) ?_
         refine (.cons rfl (fun I cnI => ?_) .nil)
         ·refine r_mpuF (x1 := q22) (g1 := s28) (k := x4.Singer) [1, 0] Tryz.underlying123 keyF9 rfl (.inr rfl) rfl rfl rfl (fun es29 cl30 => ?_)
          refine lj_nil ?_
          refine cnI _ _ (sof2 rfl rfl (fun _ h => h.picks [2, 2, 2] rfl)) ?_
          refine at_done (by kernel_rfl) ?_
          refine nj_blk ?_
          refine nj_blk ?_
          exact cnk8 _ _ (delM u6.1 x4.Singer, putM u6.2 x4.Singer q22) (es19, g7.2.1, putM g7.2.2.1 x4.Singer s28, es29, cl30) (hJk8 _ (Option.some.inj hm).symm) ⟨rfl, rfl, rfl, rfl, rfl, rfl, trivial⟩ (fun _ h => h.picks [3, 0, 2] rfl)
      ·have hm := ifB_f hb hm
       refine cj_skip ?_
       refine nj_blk ?_
       refine nj_blk ?_
       exact cnk8 _ _ (delM u6.1 x4.Singer, u6.2) (es19, g7.2.1, g7.2.2.1, g7.2.2.2.1, g7.2.2.2.2) (hJk8 _ (Option.some.inj hm).symm) ⟨rfl, rfl, rfl, rfl, rfl, rfl, trivial⟩ (fun _ h => h.picks [1, 1, 1] rfl)
     ·have hm := ifB_f hb hm
      refine cj_skip ?_
      refine nj_blk ?_
      refine nj_blk ?_
      exact cnk8 _ _ (u6.1, u6.2) (g7.1, g7.2.1, g7.2.2.1, g7.2.2.2.1, g7.2.2.2.2) (hJk8 _ (Option.some.inj hm).symm) ⟨rfl, rfl, rfl, rfl, rfl, rfl, trivial⟩ (fun _ h => h.picks [1, 1, 1] rfl)
    ·have hm := hk18
     refine lp rfl (p_fab fl91_2 rfl) ?_
     refine lp rfl (p_lbs ty4 rfl (j := 0) rfl rfl) ?_
     refine lp rfl (p_mv rfl) ?_
     refine lcase (i := 44) x4.Left rfl (fun hb => ?_) (fun hb => ?_)
     ·have hm := ifB_t hb hm
      refine lg true rfl rfl rfl ?_
      refine lp rfl (p_mv rfl) ?_
      refine lp rfl (p_pkt rfl rfl) ?_
      refine lp rfl (p_as rfl) ?_
      refine lj_nil ?_
      exact cnk18 _ _ (hasM u6.1 x4.Singer) () (Option.some.inj hm).symm ⟨rfl, rfl, rfl, rfl, rfl, rfl, rfl, rfl, rfl, trivial⟩ (fun _ h => h.picks [0, 0, 0, 0] rfl)
     ·have hm := ifB_f hb hm
      refine ls true rfl rfl rfl rfl ?_
      refine lp rfl (p_pkf rfl rfl) ?_
      refine lp rfl (p_as rfl) ?_
      refine lj_nil ?_
      exact cnk18 _ _ false () (Option.some.inj hm).symm ⟨rfl, rfl, rfl, rfl, rfl, rfl, rfl, rfl, rfl, trivial⟩ (fun _ h => h.picks [0, 0, 0, 0] rfl)
  ·have hm := hk13
   refine lp rfl (p_fab fl91_2 rfl) ?_
   refine lp rfl (p_lbs ty4 rfl (j := 0) rfl rfl) ?_
   refine lp rfl (p_not rfl) ?_
   refine lp rfl (p_mv rfl) ?_
   refine lcase (i := 32) (!x4.Left) rfl (fun hb => ?_) (fun hb => ?_)
   ·have hm := ifB_t hb hm
    refine lg true rfl rfl rfl ?_
    refine lp rfl (p_mv rfl) ?_
    refine lg true rfl rfl rfl ?_
    refine lp rfl (p_not rfl) ?_
    refine lp rfl (p_pkt rfl rfl) ?_
    refine lp rfl (p_as rfl) ?_
    refine lj_nil ?_
    exact cnk13 _ _ (!(hasM u6.1 x4.Singer)) () (Option.some.inj hm).symm ⟨rfl, rfl, rfl, rfl, rfl, rfl, rfl, rfl, rfl, rfl, trivial⟩ (fun _ h => h.picks [0, 0, 0, 0] rfl)
   ·have hm := ifB_f hb hm
    refine ls true rfl rfl rfl rfl ?_
    refine ls true rfl rfl rfl rfl ?_
    refine lp rfl (p_pkf rfl rfl) ?_
    refine lp rfl (p_as rfl) ?_
    refine lj_nil ?_
    exact cnk13 _ _ false () (Option.some.inj hm).symm ⟨rfl, rfl, rfl, rfl, rfl, rfl, rfl, rfl, rfl, rfl, trivial⟩ (fun _ h => h.picks [0, 0, 0, 0] rfl)
theorem ok_kit_Has (a0 : TWindow) (a1 : Int) {r : Bool} (hm : m_kit_Has a0 a1 = some r) :
  Ctr Tryz.prog 66 [.agg (R128.enc a0).toArray, .int .i64 a1].toArray ([] : List Ent) [] (X := Unit) (fun _ => .bool r) (fun _ => []) := by
 unfold m_kit_Has at hm
 refine ctr_mk (vs := [(0, .agg (R128.enc a0).toArray), (1, .int .i64 a1)]) Tryz.func66 rfl Tryz.ntmps66 rfl ⟨rfl, rfl, trivial⟩ (fun w0 A => ?_)
 refine cj_seq ?_
 refine cj_reg ?_
 refine r_bx (cs := [.int .i64 a0.From, .int .i64 a0.To]) rfl rfl rfl (fun b1 => ?_)
 refine lp rfl (p_as rfl) ?_
 refine lj_seq ?_
 refine cj_seq ?_
 refine cj_reg ?_
 refine lp rfl (p_fab fl128_0 rfl) ?_
 refine lp rfl (p_lbs ty3 rfl (j := 0) rfl rfl) ?_
 refine lp rfl (p_mv rfl) ?_
 refine lp rfl (p_leq rfl rfl) ?_
 refine lp rfl (p_mv rfl) ?_
 refine lcase (i := 9) (decide (a0.From ≤ a1)) rfl (fun hb => ?_) (fun hb => ?_)
 ·have hm := ifB_t hb hm
  refine lg true rfl rfl rfl ?_
  refine lp rfl (p_mv rfl) ?_
  refine lg true rfl rfl rfl ?_
  refine lp rfl (p_fab fl128_1 rfl) ?_
  refine lg true rfl rfl rfl ?_
  refine lp rfl (p_lbs ty3 rfl (j := 0) rfl rfl) ?_
  refine lg true rfl rfl rfl ?_
  refine lp rfl (p_lss rfl rfl) ?_
  refine lp rfl (p_pkt rfl rfl) ?_
  refine lp rfl (p_as rfl) ?_
  refine lj_seq ?_
  obtain rfl := Option.some.inj hm
  exact cj_rt () [] Tryz.results66 (.tmp rfl .nil) rfl rfl
 ·have hm := ifB_f hb hm
  refine ls true rfl rfl rfl rfl ?_
  refine ls true rfl rfl rfl rfl ?_
  refine ls true rfl rfl rfl rfl ?_
  refine ls true rfl rfl rfl rfl ?_
  refine lp rfl (p_pkf rfl rfl) ?_
  refine lp rfl (p_as rfl) ?_
  refine lj_seq ?_
  obtain rfl := Option.some.inj hm
  exact cj_rt () [] Tryz.results66 (.tmp rfl .nil) rfl rfl
theorem ok_rehearse_There_1 (a0 : TWindow) (b1_ : Nat) (a1_0 : Int) {r : Bool} (hm : m_rehearse_There_1 a0 a1_0 = some r) :
  Ctr Tryz.prog 65 [.agg (R128.enc a0).toArray, .pointer (some ⟨b1_, 0, none⟩)].toArray ([] : List Ent) [BoxS b1_ 3 [.int .i64 a1_0]] (X := Unit) (fun _ => .bool r) (fun _ => []) := by
 unfold m_rehearse_There_1 at hm
 refine ctr_mk (vs := [(0, .agg (R128.enc a0).toArray), (1, .pointer (some ⟨b1_, 0, none⟩))]) Tryz.func65 rfl Tryz.ntmps65 rfl ⟨rfl, rfl, trivial⟩ (fun w0 A => ?_)
 refine cj_seq ?_
 refine cj_reg ?_
 refine r_bx (cs := [.int .i64 a0.From, .int .i64 a0.To]) rfl rfl rfl (fun b1 => ?_)
 refine lp rfl (p_as rfl) ?_
 refine lj_seq ?_
 refine cj_seq ?_
 refine cj_reg ?_
 refine lp rfl (p_lbw ty128 rfl (j := 0) rfl rfl) ?_
 refine lp rfl (p_rbs ty3 rfl (.ro 1 rfl) rfl) ?_
 obtain ⟨y2, hy2, hm⟩ := bindS hm
 refine r_call [] cf66 rfl rfl (ok_kit_Has a0 a1_0 hy2) rfl rfl .nil (fun _ => rfl) rfl (fun _ => ?_)
 refine lp rfl (p_as rfl) ?_
 refine lj_seq ?_
 obtain rfl := Option.some.inj hm
 exact cj_rt () [] Tryz.results65 (.tmp rfl .nil) rfl rfl
theorem ok_slices_IndexFunc_api_Window_api_Window__rehearse_There_1 (s0_ : SV) (a0 : (List TWindow)) (b1_c0_ : Nat) (a1_c0_0 : Int) {r : Int} (hm : m_slices_IndexFunc_api_Window_api_Window__rehearse_There_1 a0 a1_c0_0 = some r) :
  Ctr Tryz.prog 90 [s0_.v, .func (.func 65) #[] [.pointer (some ⟨b1_c0_, 0, none⟩)].toArray].toArray ([] : List Ent) [RdS R128 (SV.v s0_) a0, BoxS b1_c0_ 3 [.int .i64 a1_c0_0]] (X := Unit) (fun _ => .int .i64 r) (fun _ => []) := by
 unfold m_slices_IndexFunc_api_Window_api_Window__rehearse_There_1 at hm
 refine ctr_mk (vs := [(0, s0_.v), (1, .func (.func 65) #[] [.pointer (some ⟨b1_c0_, 0, none⟩)].toArray)]) Tryz.func90 rfl Tryz.ntmps90 rfl ⟨rfl, rfl, trivial⟩ (fun w0 A => ?_)
 refine cj_seq ?_
 refine cj_reg ?_
 refine lp rfl (p_as rfl) ?_
 refine lj_seq ?_
 refine cj_seq ?_
 refine cj_seq ?_
 refine cj_reg ?_
 refine lp rfl (p_mv rfl) ?_
 refine lp rfl (p_len Tryz.underlying125 rfl (.ro 0 rfl)) ?_
 refine lp rfl (p_mv rfl) ?_
 refine lj_seq ?_
 obtain ⟨f7, hf7, hm⟩ := bindS hm
 refine cj_range (γ := Unit) (m := (a0.length : Int)) hf7 () (fun u4 g5 => [(0, s0_.v), (1, .func (.func 65) #[] [.pointer (some ⟨b1_c0_, 0, none⟩)].toArray), (4, .int .i64 0)]) (fun u4 g5 => Sat w0 (keys ([] : List Ent)) A [.ro (RdS R128 (SV.v s0_) a0), .ro (BoxS b1_c0_ 3 [.int .i64 a1_c0_0])]) ⟨rfl, rfl, rfl, rfl, rfl, trivial⟩ (fun _ h => h.picks [0, 0] rfl) (nat_lt _) (fun _ h => (FactAt.get (F := RdS R128 (SV.v s0_) a0) (.ro 0 rfl) h).1) (fun _ _ => ⟨rfl, rfl, rfl, rfl⟩) ⟨rfl, rfl, rfl, rfl, rfl⟩ rfl rfl rfl (fun u4 g5 e => ?_) (fun aftk6 i1 x2 u4 g5 k6 hx3 hs J hJk6 hBk6 hX I cnk6 => ?_)
 ·have hm := Flow.fin_b e hm
  refine nj_seq ?_
  refine cj_seq ?_
  refine cj_reg ?_
  refine lp rfl (p_as rfl) ?_
  refine lj_seq ?_
  obtain rfl := Option.some.inj hm
  exact cj_rt () [] Tryz.results90 (.tmp rfl .nil) rfl rfl
 ·have hRk6 : ∀ t, k6 = .ret t → some t = some r := fun t e => by rw [hX t e] at hm; exact hm
  have hm := hs
  refine cj_seq ?_
  refine cj_reg ?_
  refine lp rfl (p_mv rfl) ?_
  refine lp rfl (p_as rfl) ?_
  refine lj_seq ?_
  refine cj_seq ?_
  refine cj_reg ?_
  refine lp rfl (p_mv rfl) ?_
  refine lp rfl (p_mv rfl) ?_
  refine lp rfl (p_mv rfl) ?_
  refine lp rfl (p_idx Tryz.underlying125 ty128 rfl rfl (.ro 0 rfl) (getI_nat.trans hx3)) ?_
  refine lp rfl (p_lea ty128 rfl (.ro 0 rfl) hx3) ?_
  obtain ⟨y8, hy8, hm⟩ := bindS hm
  refine r_call [] cf65 rfl rfl (ok_rehearse_There_1 x2 b1_c0_ a1_c0_0 hy8) rfl rfl (.cons (.ro 1 rfl) .nil) (fun _ => rfl) rfl (fun _ => ?_)
  refine lj_seq ?_
  refine cj_if (b := y8) rfl (fun hb => ?_) (fun hb => ?_)
  ·have hm := ifB_t hb hm
   refine cj_seq ?_
   refine cj_reg ?_
   refine lp rfl (p_mv rfl) ?_
   refine lp rfl (p_as rfl) ?_
   refine lj_seq ?_
   have hm := hRk6 _ (Option.some.inj hm).symm
   obtain rfl := Option.some.inj hm
   exact cj_rt () [] Tryz.results90 (.tmp rfl .nil) rfl rfl
  ·have hm := ifB_f hb hm
   refine cj_skip ?_
   refine nj_blk ?_
   exact cnk6 _ _ () () (hJk6 _ (Option.some.inj hm).symm) ⟨rfl, rfl, rfl, rfl, rfl, trivial⟩ (fun _ h => h.picks [0, 0] rfl)
theorem ok_slices_ContainsFunc_api_Window_api_Window__rehearse_There_1 (s0_ : SV) (a0 : (List TWindow)) (b1_c0_ : Nat) (a1_c0_0 : Int) {r : Bool} (hm : m_slices_ContainsFunc_api_Window_api_Window__rehearse_There_1 a0 a1_c0_0 = some r) :
  Ctr Tryz.prog 64 [s0_.v, .func (.func 65) #[] [.pointer (some ⟨b1_c0_, 0, none⟩)].toArray].toArray ([] : List Ent) [RdS R128 (SV.v s0_) a0, BoxS b1_c0_ 3 [.int .i64 a1_c0_0]] (X := Unit) (fun _ => .bool r) (fun _ => []) := by
 unfold m_slices_ContainsFunc_api_Window_api_Window__rehearse_There_1 at hm
 refine ctr_mk (vs := [(0, s0_.v), (1, .func (.func 65) #[] [.pointer (some ⟨b1_c0_, 0, none⟩)].toArray)]) Tryz.func64 rfl Tryz.ntmps64 rfl ⟨rfl, rfl, trivial⟩ (fun w0 A => ?_)
 refine cj_seq ?_
 refine cj_reg ?_
 refine lp rfl (p_as rfl) ?_
 refine lj_seq ?_
 refine cj_seq ?_
 refine cj_reg ?_
 refine lp rfl (p_mv rfl) ?_
 refine lp rfl (p_mv rfl) ?_
 obtain ⟨y1, hy1, hm⟩ := bindS hm
 refine r_call [] cf90 rfl rfl (ok_slices_IndexFunc_api_Window_api_Window__rehearse_There_1 s0_ a0 b1_c0_ a1_c0_0 hy1) rfl rfl (.cons (.ro 0 rfl) (.cons (.ro 1 rfl) .nil)) (fun _ => rfl) rfl (fun _ => ?_)
 refine lp rfl (p_geq rfl rfl) ?_
 refine lp rfl (p_as rfl) ?_
 refine lj_seq ?_
 obtain rfl := Option.some.inj hm
 exact cj_rt () [] Tryz.results64 (.tmp rfl .nil) rfl rfl
theorem ok_maps_Keys_map_string_bool_string_bool (m : Nat) : Ctr Tryz.prog 68 [.map (some m)].toArray ([] : List Ent) [] (X := Nat) (fun b => .func (.func 93) #[] [.pointer (some ⟨b, 0, none⟩)].toArray) (fun b => [.box b 122 [.map (some m)]]) := by
 refine ctr_mk (vs := [(0, .map (some m))]) Tryz.func68 rfl Tryz.ntmps68 rfl ⟨rfl, trivial⟩ (fun w0 A => ?_)
 refine cj_seq ?_
 refine cj_reg ?_
 refine r_bx (cs := [.map (some m)]) rfl rfl rfl (fun b => ?_)
 refine lp rfl (p_as rfl) ?_
 refine lj_seq ?_
 refine cj_seq ?_
 refine cj_reg ?_
 refine lp rfl (p_fn (cv := [.pointer (some ⟨b, 0, none⟩)]) rfl) ?_
 refine lp rfl (p_as rfl) ?_
 refine lj_seq ?_
 exact cj_rt b [0] Tryz.results68 (.tmp rfl .nil) rfl rfl
theorem ok_slices_Sorted_string__maps_Keys_map_string_bool_string_bool_1_A (bx mb : Nat) (mes : Array MapEntry) (mcl : Nat) (L : List (ByteArray × Bool)) (hl : L.length ≤ 1000000000) :
  Ctr Tryz.prog 114 [SV.v nilS, .func (.func 93) #[] [.pointer (some ⟨bx, 0, none⟩)].toArray].toArray [.row R9 (SV.v nilS) []] [BoxS bx 122 [.map (some mb)], MapAt kv9 mb (mpV vv4 L) mes mcl] (X := SV × {q : List ByteArray // q.Perm (L.map Prod.fst)}) (fun s => s.1.v) (fun s => [.row R9 (SV.v s.1) s.2.1]) := by
 refine ctr_mkM (vs := [(0, SV.v nilS), (1, .func (.func 93) #[] [.pointer (some ⟨bx, 0, none⟩)].toArray)]) Tryz.func114 rfl Tryz.ntmps114 rfl ⟨rfl, rfl, trivial⟩ (fun w0 A => ?_)
 refine cj_seq ?_
 refine cj_reg ?_
 refine r_bx (cs := [SV.v nilS]) rfl rfl rfl (fun b1 => ?_)
 refine lp rfl (p_as rfl) ?_
 refine lj_seq ?_
 refine cj_seq ?_
 refine cj_seq ?_
 refine cj_reg ?_
 refine lp rfl (p_mv rfl) ?_
 refine lj_seq ?_
 refine cj_keys (γ := SV) (fn := Tryz.f93) (vv := vv4) (ρ := List ByteArray) Tryz.func93 rfl rfl rfl Tryz.underlying122 ty122 cf93 rfl rfl (by kernel_rfl) (by kernel_rfl) (appStep_all (by_ := 16) (by decide) (by rw [List.length_map]; omega)) (fun u g => [.box b1 87 [g.v], .ro (BoxS bx 122 [.map (some mb)]), .ro (MapAt kv9 mb (mpV vv4 L) mes mcl), .row R9 (SV.v g) u]) nilS (fun _ h => h.picks [0, 1, 1, 0] rfl) (fun _ _ => (.ro 1 rfl)) (fun _ _ => (.ro 2 rfl)) (fun u g D aft => ?_) (fun i x u g k hs o1 o2 o3 oi I I0 hend hmid => ?_)
 ·refine nj_seq ?_
  refine cj_seq ?_
  refine cj_reg ?_
  refine lp rfl (p_lbs ty87 rfl (j := 1) rfl rfl) ?_
  refine lp rfl (p_as rfl) ?_
  refine lj_seq ?_
  exact cj_rtM 0 (g, ⟨u, KfP_brk aft⟩) [4] Tryz.results114 rfl (.tmp rfl .nil) rfl rfl
 ·have hm := hs
  refine cj_reg ?_
  refine lp rfl (p_as rfl) ?_
  refine lj_nil ?_
  refine hmid _ _ [.obj oi, .box b1 87 [g.v], .ro (BoxS bx 122 [.map (some mb)]), .ro (MapAt kv9 mb (mpV vv4 L) mes mcl), .row R9 (SV.v g) u] (fun _ h => h.picks [0, 0, 0, 0, 0, 0, 0] rfl) ?_
  refine cj_blk ?_
  refine cj_reg ?_
  refine lp rfl (p_lbs ty87 rfl (j := 3) rfl rfl) ?_
  refine lp rfl (p_mv rfl) ?_
  refine r_bs R9 [x] rfl rfl rfl (fun _ => by kernel_rfl) rfl (fun s13 => ?_)
  obtain ⟨q, hq, hm⟩ := bindS hm
  refine r_app (k := 7) Tryz.underlying87 ty9 rfl rfl rfl rfl (.row 0 rfl) hq rfl (fun s15 => ?_)
  refine r_sb (vs := [s15.v]) (j := 4) ty87 rfl rfl rfl rfl rfl rfl rfl ?_
  refine lj_nil ?_
  refine nj_blk ?_
  exact hend _ _ q s15 (Option.some.inj hm).symm (fun _ h => h.picks [1, 1, 1, 1, 1, 1, 1] rfl)
theorem ok_slices_Sorted_string__maps_Keys_map_string_bool_string_bool_1_C (bx mb : Nat) (mes : Array MapEntry) (mcl : Nat) (L : List (ByteArray × Bool)) (hl : L.length ≤ 1000000000) :
  Ctr Tryz.prog 91 [.func (.func 93) #[] [.pointer (some ⟨bx, 0, none⟩)].toArray].toArray ([] : List Ent) [BoxS bx 122 [.map (some mb)], MapAt kv9 mb (mpV vv4 L) mes mcl] (X := SV × {q : List ByteArray // q.Perm (L.map Prod.fst)}) (fun s => s.1.v) (fun s => [.row R9 (SV.v s.1) s.2.1]) := by
 refine ctr_mk (vs := [(0, .func (.func 93) #[] [.pointer (some ⟨bx, 0, none⟩)].toArray)]) Tryz.func91 rfl Tryz.ntmps91 rfl ⟨rfl, trivial⟩ (fun w0 A => ?_)
 refine cj_seq ?_
 refine cj_reg ?_
 refine lp rfl (p_as rfl) ?_
 refine lj_seq ?_
 refine cj_seq ?_
 refine cj_reg ?_
 refine lp rfl (p_mv rfl) ?_
 refine r_nil R9 ?_
 refine r_call [0] cf114 rfl rfl (ok_slices_Sorted_string__maps_Keys_map_string_bool_string_bool_1_A bx mb mes mcl L hl) rfl rfl (.cons (.ro 0 rfl) (.cons (.ro 1 rfl) .nil)) (fun _ => rfl) rfl (fun s3 => ?_)
 refine lp rfl (p_as rfl) ?_
 refine lj_seq ?_
 exact cj_rt s3 [0] Tryz.results91 (.tmp rfl .nil) rfl rfl
theorem ok_slices_Sorted_string__maps_Keys_map_string_bool_string_bool_1 (bx mb : Nat) (mes : Array MapEntry) (mcl : Nat) (L : List (ByteArray × Bool)) {r : List ByteArray} (hm : m_slices_Sorted_string__maps_Keys_map_string_bool_string_bool_1 L = some r) :
  Ctr Tryz.prog 67 [.func (.func 93) #[] [.pointer (some ⟨bx, 0, none⟩)].toArray].toArray ([] : List Ent) [BoxS bx 122 [.map (some mb)], MapAt kv9 mb (mpV vv4 L) mes mcl] (X := SV) (fun s => s.v) (fun s => [.row R9 (SV.v s) r]) := by
 unfold m_slices_Sorted_string__maps_Keys_map_string_bool_string_bool_1 at hm
 split at hm
 case isFalse => cases hm
 rename_i hl
 refine ctr_mk (vs := [(0, .func (.func 93) #[] [.pointer (some ⟨bx, 0, none⟩)].toArray)]) Tryz.func67 rfl Tryz.ntmps67 rfl ⟨rfl, trivial⟩ (fun w0 A => ?_)
 refine cj_seq ?_
 refine cj_reg ?_
 refine lp rfl (p_as rfl) ?_
 refine lj_seq ?_
 refine cj_seq ?_
 refine cj_reg ?_
 refine lp rfl (p_mv rfl) ?_
 refine r_call [] cf91 rfl rfl (ok_slices_Sorted_string__maps_Keys_map_string_bool_string_bool_1_C bx mb mes mcl L hl) rfl rfl (.cons (.ro 0 rfl) (.cons (.ro 1 rfl) .nil)) (fun _ => rfl) rfl (fun s2 => ?_)
 obtain ⟨s2, q, hq⟩ := s2
 have hm := (m_Sort_perm hq).trans hm
 refine lp rfl (p_as rfl) ?_
 refine lj_seq ?_
 refine cj_seq ?_
 refine cj_reg ?_
 refine lp rfl (p_mv rfl) ?_
 refine r_call [0] cf92 rfl rfl (ok_slices_Sort_string_string s2 q hm) rfl rfl .nil (fun _ => rfl) rfl (fun _ => ?_)
 refine lj_seq ?_
 refine cj_seq ?_
 refine cj_reg ?_
 refine lp rfl (p_mv rfl) ?_
 refine lp rfl (p_as rfl) ?_
 refine lj_seq ?_
 exact cj_rt s2 [0] Tryz.results67 (.tmp rfl .nil) rfl rfl
theorem ok_rehearse_There (s0_ : SV) (a0 : (List TCame)) (a1 : Int) {r : (List ByteArray) × Int} (hm : m_rehearse_There a0 a1 = some r) :
  Ctr Tryz.prog 37 [s0_.v, .int .i64 a1].toArray ([] : List Ent) [RdS R91 (SV.v s0_) a0] (X := SV) (fun s => .tuple [s.v, .int .i64 r.2].toArray) (fun s => [.row R9 (SV.v s) r.1]) := by
 unfold m_rehearse_There at hm
 refine ctr_mk (vs := [(0, s0_.v), (1, .int .i64 a1)]) Tryz.func37 rfl Tryz.ntmps37 rfl ⟨rfl, rfl, trivial⟩ (fun w0 A => ?_)
 refine cj_seq ?_
 refine cj_reg ?_
 refine r_bx (cs := [.int .i64 a1]) rfl rfl rfl (fun b1 => ?_)
 refine lp rfl (p_as rfl) ?_
 refine lp rfl (p_as rfl) ?_
 refine lj_seq ?_
 refine cj_seq ?_
 refine cj_seq ?_
 refine cj_reg ?_
 refine lp rfl (p_mv rfl) ?_
 obtain ⟨y2, hy2, hm⟩ := bindS hm
 refine r_call [] cf61 rfl rfl (ok_rehearse_CheckCame s0_ a0 hy2) rfl rfl (.cons (.ro 1 rfl) .nil) (fun _ => rfl) rfl (fun _ => ?_)
 refine lp rfl (p_as rfl) ?_
 refine lj_seq ?_
 refine cj_seq ?_
 refine cj_reg ?_
 refine lp rfl (p_mv rfl) ?_
 refine lp rfl (p_neq rfl rfl) ?_
 refine lj_seq ?_
 refine cj_if (b := y2 != 0) rfl (fun hb => ?_) (fun hb => ?_)
 ·have hm := ifB_t hb hm
  refine cj_seq ?_
  refine cj_reg ?_
  refine lp rfl (p_mv rfl) ?_
  refine lp rfl (p_as rfl) ?_
  refine lp rfl (p_as rfl) ?_
  refine lj_seq ?_
  obtain rfl := Option.some.inj hm
  refine cj_nil R9 ?_
  exact cj_rt nilS [0] Tryz.results37 (.tmp rfl (.tmp rfl .nil)) rfl rfl
 ·have hm := ifB_f hb hm
  refine cj_skip ?_
  refine nj_seq ?_
  refine cj_seq ?_
  refine cj_seq ?_
  refine cj_reg ?_
  refine lp rfl (p_lbs ty3 rfl (j := 0) rfl rfl) ?_
  obtain ⟨y4, hy4, hm⟩ := bindS hm
  refine r_call [] cf62 rfl rfl (ok_kit_IsMoment a1 hy4) rfl rfl .nil (fun _ => rfl) rfl (fun _ => ?_)
  refine lp rfl (p_not rfl) ?_
  refine lj_seq ?_
  refine cj_if (b := !y4) rfl (fun hb => ?_) (fun hb => ?_)
  ·have hm := ifB_t hb hm
   refine cj_seq ?_
   refine cj_reg ?_
   refine lp rfl (p_as rfl) ?_
   refine lp rfl (p_as rfl) ?_
   refine lj_seq ?_
   obtain rfl := Option.some.inj hm
   refine cj_nil R9 ?_
   exact cj_rt nilS [0] Tryz.results37 (.tmp rfl (.tmp rfl .nil)) rfl rfl
  ·have hm := ifB_f hb hm
   refine cj_skip ?_
   refine nj_seq ?_
   refine cj_seq ?_
   refine cj_reg ?_
   refine r_mkmap kv9 vv4 rfl (fun b6 => ?_)
   refine lp rfl (p_as rfl) ?_
   refine lj_seq ?_
   refine cj_seq ?_
   refine cj_seq ?_
   refine cj_reg ?_
   refine lp rfl (p_mv rfl) ?_
   obtain ⟨y7, hy7, hm⟩ := bindS hm
   refine r_call [] cf63 rfl rfl (ok_rehearse_presences s0_ a0 hy7) rfl rfl (.cons (.ro 2 rfl) .nil) (fun _ => rfl) rfl (fun ⟨b8, gz9, gz10, gz11⟩ => ?_)
   refine r_rng (vv := SV.v) Tryz.underlying123 (.imp (.fam 0 rfl) (fun _ h => h.map)) rfl rfl (fun b12 hrb13 => ?_)
   refine lj_seq ?_
   refine cj_pure (F := FamAt kv9 SV.v (rowE R128) b8 y7 gz9 none gz10 gz11) (.fam 1 rfl) (fun _ h => h.kys) (fun hky19 => ?_)
   refine cj_fact (F := fun _ => KeptK (y7.map Prod.fst) gz10 gz11 gz9 gz10 gz11) (.tru (KeptK.refl _ hky19)) ?_
   have hsq := anyOrd_spec hm
   refine cj_frange (γ := (Array MapEntry × Nat)) (vv := SV.v) (fun u21 g22 => gz9) (fun u21 g22 => gz10) (fun u21 g22 => gz11) (fun L hL => hsq L hL) hrb13 (#[], 0) (fun u21 g22 => [(3, .pointer (some ⟨b1, 0, none⟩)), (4, .slice none 0 0), (5, .int .i64 0), (7, .map (some b6))]) (fun u21 g22 => [.ro (fun _ => KeptK (y7.map Prod.fst) gz10 gz11 gz9 gz10 gz11), .obj (famO kv9 SV.v (rowE R128) b8 y7 gz9 none gz10 gz11), .obj (mapO kv9 b6 (mpV vv4 u21) g22.1 g22.2), .box b1 3 [.int .i64 a1]]) ⟨rfl, rfl, rfl, rfl, rfl, trivial⟩ (fun _ h => h.picks [1, 0, 0, 0, 0] rfl) (fun _ _ => .and (.imp (.fam 1 rfl) (fun _ h => h.map)) (.ro 0 rfl)) (fun _ _ => ⟨rfl, rfl, rfl⟩) ⟨rfl, rfl, rfl⟩ rfl rfl (fun u21 g22 e => ?_) (fun aftk23 i14 x15 u21 g22 idx18 ix17 k23 hx16 hs J hJk23 hBk23 hX I cnk23 => ?_)
   ·have hm := Flow.fin_b (f := .brk u21) rfl e
    refine NJ.sat (fun _ h => h.picks [1, 1, 1] rfl) ?_
    refine nj_seq ?_
    refine cj_seq ?_
    refine cj_reg ?_
    refine lp rfl (p_mv rfl) ?_
    refine r_call [] cf68 rfl rfl (ok_maps_Keys_map_string_bool_string_bool b6) rfl rfl .nil (fun _ => rfl) rfl (fun b29 => ?_)
    refine r_fzb 0 rfl ?_
    obtain ⟨y30, hy30, hm⟩ := bindS hm
    refine r_call [] cf67 rfl rfl (ok_slices_Sorted_string__maps_Keys_map_string_bool_string_bool_1 b29 b6 g22.1 g22.2 u21 hy30) rfl rfl (.cons (.ro 0 rfl) (.cons (.map 2 rfl) .nil)) (fun _ => rfl) rfl (fun s31 => ?_)
    refine lp rfl (p_as rfl) ?_
    refine lp rfl (p_as rfl) ?_
    refine lj_seq ?_
    obtain rfl := Option.some.inj hm
    exact cj_rt s31 [0] Tryz.results37 (.tmp rfl (.tmp rfl .nil)) rfl rfl
   ·have hRk23 : ∀ t, k23 = .ret t → some t = some r := fun t e => hX t e
    have hm := hs
    refine cj_pure (F := fun _ => KeptK (y7.map Prod.fst) gz10 gz11 gz9 gz10 gz11) (.ro 1 rfl) (fun _ h => h) (fun hkp25 => ?_)
    refine cj_seq ?_
    refine cj_reg ?_
    refine lp rfl (p_entF (n := 0) (k := x15) (z := nilS) (.fam 2 rfl) hkp25 rfl hx16 rfl) ?_
    refine lp rfl (p_ext rfl rfl) ?_
    refine lp rfl (p_ext rfl rfl) ?_
    refine lp rfl (p_as rfl) ?_
    refine lp rfl (p_as rfl) ?_
    refine lj_seq ?_
    refine cj_seq ?_
    refine cj_reg ?_
    refine lp rfl (p_mv rfl) ?_
    refine lp rfl (p_fn (cv := [.pointer (some ⟨b1, 0, none⟩)]) rfl) ?_
    obtain ⟨y26, hy26, hm⟩ := bindS hm
    refine r_call [] cf64 rfl rfl (ok_slices_ContainsFunc_api_Window_api_Window__rehearse_There_1 ((lkM gz9 x15).getD nilS) ((lkM y7 x15).getD []) b1 a1 hy26) rfl rfl (.cons (.imp (.fam 2 rfl) (fun _ h => h.look x15)) (.cons (.imp (.box 4 rfl) (fun _ h => h)) .nil)) (fun _ => rfl) rfl (fun _ => ?_)
    refine lj_seq ?_
    refine cj_if (b := y26) rfl (fun hb => ?_) (fun hb => ?_)
    ·have hm := ifB_t hb hm
     refine cj_reg ?_
     refine lp rfl (p_mv rfl) ?_
     refine lp rfl (p_mv rfl) ?_
     refine r_mpu (j := 3) (vv := vv4) (k := x15) (v := true) Tryz.underlying122 keyF9 rfl rfl rfl rfl (fun es27 cl28 => ?_)
     refine lj_nil ?_
     refine nj_blk ?_
     exact cnk23 _ _ (putM u21 x15 true) (es27, cl28) (hJk23 _ (Option.some.inj hm).symm) ⟨rfl, rfl, rfl, rfl, rfl, trivial⟩ (fun _ h => h.picks [0, 0, 0, 0, 0] rfl)
    ·have hm := ifB_f hb hm
     refine cj_skip ?_
     refine nj_blk ?_
     exact cnk23 _ _ u21 (g22.1, g22.2) (hJk23 _ (Option.some.inj hm).symm) ⟨rfl, rfl, rfl, rfl, rfl, trivial⟩ (fun _ h => h.picks [0, 0, 0, 0, 0] rfl)
theorem ok_concert_CheckItems_1 (a0 : TItem) (s0_3_ : SV) (b1_ : Nat) (a1_0 : ByteArray) (a1_1 : ByteArray) (a1_2 : Int) (s1_3_ : SV) (a1_3 : (List ByteArray)) {r : Bool} (hm : m_concert_CheckItems_1 a0 a1_0 a1_1 a1_2 a1_3 = some r) :
  Ctr Tryz.prog 118 [.agg [.string a0.Key, .string a0.Places, .int .i64 a0.Long, s0_3_.v].toArray, .pointer (some ⟨b1_, 0, none⟩)].toArray ([] : List Ent) [RdS R9 (SV.v s0_3_) a0.Parts, BoxS b1_ 96 [.string a1_0, .string a1_1, .int .i64 a1_2, s1_3_.v], RdS R9 (SV.v s1_3_) a1_3] (X := Unit) (fun _ => .bool r) (fun _ => []) := by
 unfold m_concert_CheckItems_1 at hm
 refine ctr_mk (vs := [(0, .agg [.string a0.Key, .string a0.Places, .int .i64 a0.Long, s0_3_.v].toArray), (1, .pointer (some ⟨b1_, 0, none⟩))]) Tryz.func118 rfl Tryz.ntmps118 rfl ⟨rfl, rfl, trivial⟩ (fun w0 A => ?_)
 refine cj_seq ?_
 refine cj_reg ?_
 refine r_bx (cs := [.string a0.Key, .string a0.Places, .int .i64 a0.Long, s0_3_.v]) rfl rfl rfl (fun b1 => ?_)
 refine lp rfl (p_as rfl) ?_
 refine lj_seq ?_
 refine cj_seq ?_
 refine cj_reg ?_
 refine lp rfl (p_fab fl96_0 rfl) ?_
 refine lp rfl (p_lbs ty9 rfl (j := 0) rfl rfl) ?_
 refine lp rfl (p_fab fl96_0 rfl) ?_
 refine lp rfl (p_rbs ty9 rfl (.ro 2 rfl) rfl) ?_
 refine lp rfl (p_eqs rfl rfl) ?_
 refine lp rfl (p_as rfl) ?_
 refine lj_seq ?_
 obtain rfl := Option.some.inj hm
 exact cj_rt () [] Tryz.results118 (.tmp rfl .nil) rfl rfl
theorem ok_slices_IndexFunc_api_Item_api_Item__concert_CheckItems_1 (s0_ : SV) (xg0_ : List (TItem × SV)) (a0 : (List TItem)) (b1_c0_ : Nat) (a1_c0_0 : ByteArray) (a1_c0_1 : ByteArray) (a1_c0_2 : Int) (s1_c0_3_ : SV) (a1_c0_3 : (List ByteArray)) {r : Int} (hm : m_slices_IndexFunc_api_Item_api_Item__concert_CheckItems_1 a0 a1_c0_0 a1_c0_1 a1_c0_2 a1_c0_3 = some r) :
  Ctr Tryz.prog 154 [s0_.v, .func (.func 118) #[] [.pointer (some ⟨b1_c0_, 0, none⟩)].toArray].toArray ([] : List Ent) [Lk N96 a0 xg0_, RdS N96.R (SV.v s0_) xg0_, BoxS b1_c0_ 96 [.string a1_c0_0, .string a1_c0_1, .int .i64 a1_c0_2, s1_c0_3_.v], RdS R9 (SV.v s1_c0_3_) a1_c0_3] (X := Unit) (fun _ => .int .i64 r) (fun _ => []) := by
 unfold m_slices_IndexFunc_api_Item_api_Item__concert_CheckItems_1 at hm
 refine ctr_mk (vs := [(0, s0_.v), (1, .func (.func 118) #[] [.pointer (some ⟨b1_c0_, 0, none⟩)].toArray)]) Tryz.func154 rfl Tryz.ntmps154 rfl ⟨rfl, rfl, trivial⟩ (fun w0 A => ?_)
 refine cj_pure (F := Lk N96 a0 xg0_) (.ro 0 rfl) (fun _ h => h.1) (fun hL0_ => ?_)
 refine cj_seq ?_
 refine cj_reg ?_
 refine lp rfl (p_as rfl) ?_
 refine lj_seq ?_
 refine cj_seq ?_
 refine cj_seq ?_
 refine cj_reg ?_
 refine lp rfl (p_mv rfl) ?_
 refine lp rfl (p_lenG hL0_ Tryz.underlying97 rfl (.ro 1 rfl)) ?_
 refine lp rfl (p_mv rfl) ?_
 refine lj_seq ?_
 obtain ⟨f7, hf7, hm⟩ := bindS hm
 refine cj_range (γ := Unit) (m := (a0.length : Int)) hf7 () (fun u4 g5 => [(0, s0_.v), (1, .func (.func 118) #[] [.pointer (some ⟨b1_c0_, 0, none⟩)].toArray), (4, .int .i64 0)]) (fun u4 g5 => Sat w0 (keys ([] : List Ent)) A [.ro (Lk N96 a0 xg0_), .ro (RdS N96.R (SV.v s0_) xg0_), .ro (BoxS b1_c0_ 96 [.string a1_c0_0, .string a1_c0_1, .int .i64 a1_c0_2, s1_c0_3_.v]), .ro (RdS R9 (SV.v s1_c0_3_) a1_c0_3)]) ⟨rfl, rfl, rfl, rfl, rfl, trivial⟩ (fun _ h => h.picks [0, 0, 0, 0] rfl) (nat_lt _) (fun _ h => by have h1 := (FactAt.get (F := RdS N96.R (SV.v s0_) xg0_) (.ro 1 rfl) h).1; rw [lk_len hL0_] at h1; exact h1) (fun _ _ => ⟨rfl, rfl, rfl, rfl⟩) ⟨rfl, rfl, rfl, rfl, rfl⟩ rfl rfl rfl (fun u4 g5 e => ?_) (fun aftk6 i1 x2 u4 g5 k6 hx3 hs J hJk6 hBk6 hX I cnk6 => ?_)
 ·have hm := Flow.fin_b e hm
  refine nj_seq ?_
  refine cj_seq ?_
  refine cj_reg ?_
  refine lp rfl (p_as rfl) ?_
  refine lj_seq ?_
  obtain rfl := Option.some.inj hm
  exact cj_rt () [] Tryz.results154 (.tmp rfl .nil) rfl rfl
 ·have hRk6 : ∀ t, k6 = .ret t → some t = some r := fun t e => by rw [hX t e] at hm; exact hm
  have hm := hs
  refine cj_seq ?_
  refine cj_reg ?_
  refine lp rfl (p_mv rfl) ?_
  refine lp rfl (p_as rfl) ?_
  refine lj_seq ?_
  refine cj_seq ?_
  refine cj_reg ?_
  refine lp rfl (p_mv rfl) ?_
  refine lp rfl (p_mv rfl) ?_
  refine lp rfl (p_mv rfl) ?_
  obtain ⟨gx2, hx3G⟩ := lk_get hL0_ hx3
  refine lp rfl (p_idx Tryz.underlying97 ty96 rfl rfl (.ro 1 rfl) (getI_nat.trans hx3G)) ?_
  refine lp rfl (p_leaN (cs := [.string x2.Key, .string x2.Places, .int .i64 x2.Long, gx2.v]) ty96 rfl (.ro 1 rfl) hx3G rfl) ?_
  obtain ⟨y8, hy8, hm⟩ := bindS hm
  refine r_call [] cf118 rfl rfl (ok_concert_CheckItems_1 x2 gx2 b1_c0_ a1_c0_0 a1_c0_1 a1_c0_2 s1_c0_3_ a1_c0_3 hy8) rfl rfl (.cons (.imp (.ro 0 rfl) (fun _ h => (Lk.at_ h hx3G))) (.cons (.ro 2 rfl) (.cons (.ro 3 rfl) .nil))) (fun _ => rfl) rfl (fun _ => ?_)
  refine lj_seq ?_
  refine cj_if (b := y8) rfl (fun hb => ?_) (fun hb => ?_)
  ·have hm := ifB_t hb hm
   refine cj_seq ?_
   refine cj_reg ?_
   refine lp rfl (p_mv rfl) ?_
   refine lp rfl (p_as rfl) ?_
   refine lj_seq ?_
   have hm := hRk6 _ (Option.some.inj hm).symm
   obtain rfl := Option.some.inj hm
   exact cj_rt () [] Tryz.results154 (.tmp rfl .nil) rfl rfl
  ·have hm := ifB_f hb hm
   refine cj_skip ?_
   refine nj_blk ?_
   exact cnk6 _ _ () () (hJk6 _ (Option.some.inj hm).symm) ⟨rfl, rfl, rfl, rfl, rfl, trivial⟩ (fun _ h => h.picks [0, 0, 0, 0] rfl)
theorem ok_slices_ContainsFunc_api_Item_api_Item__concert_CheckItems_1 (s0_ : SV) (xg0_ : List (TItem × SV)) (a0 : (List TItem)) (b1_c0_ : Nat) (a1_c0_0 : ByteArray) (a1_c0_1 : ByteArray) (a1_c0_2 : Int) (s1_c0_3_ : SV) (a1_c0_3 : (List ByteArray)) {r : Bool} (hm : m_slices_ContainsFunc_api_Item_api_Item__concert_CheckItems_1 a0 a1_c0_0 a1_c0_1 a1_c0_2 a1_c0_3 = some r) :
  Ctr Tryz.prog 117 [s0_.v, .func (.func 118) #[] [.pointer (some ⟨b1_c0_, 0, none⟩)].toArray].toArray ([] : List Ent) [Lk N96 a0 xg0_, RdS N96.R (SV.v s0_) xg0_, BoxS b1_c0_ 96 [.string a1_c0_0, .string a1_c0_1, .int .i64 a1_c0_2, s1_c0_3_.v], RdS R9 (SV.v s1_c0_3_) a1_c0_3] (X := Unit) (fun _ => .bool r) (fun _ => []) := by
 unfold m_slices_ContainsFunc_api_Item_api_Item__concert_CheckItems_1 at hm
 refine ctr_mk (vs := [(0, s0_.v), (1, .func (.func 118) #[] [.pointer (some ⟨b1_c0_, 0, none⟩)].toArray)]) Tryz.func117 rfl Tryz.ntmps117 rfl ⟨rfl, rfl, trivial⟩ (fun w0 A => ?_)
 refine cj_pure (F := Lk N96 a0 xg0_) (.ro 0 rfl) (fun _ h => h.1) (fun hL0_ => ?_)
 refine cj_seq ?_
 refine cj_reg ?_
 refine lp rfl (p_as rfl) ?_
 refine lj_seq ?_
 refine cj_seq ?_
 refine cj_reg ?_
 refine lp rfl (p_mv rfl) ?_
 refine lp rfl (p_mv rfl) ?_
 obtain ⟨y1, hy1, hm⟩ := bindS hm
 refine r_call [] cf154 rfl rfl (ok_slices_IndexFunc_api_Item_api_Item__concert_CheckItems_1 s0_ xg0_ a0 b1_c0_ a1_c0_0 a1_c0_1 a1_c0_2 s1_c0_3_ a1_c0_3 hy1) rfl rfl (.cons (.ro 0 rfl) (.cons (.ro 1 rfl) (.cons (.ro 2 rfl) (.cons (.ro 3 rfl) .nil)))) (fun _ => rfl) rfl (fun _ => ?_)
 refine lp rfl (p_geq rfl rfl) ?_
 refine lp rfl (p_as rfl) ?_
 refine lj_seq ?_
 obtain rfl := Option.some.inj hm
 exact cj_rt () [] Tryz.results117 (.tmp rfl .nil) rfl rfl
theorem ok_concert_partsFault (s0_ : SV) (a0 : (List ByteArray)) {r : Int} (hm : m_concert_partsFault a0 = some r) :
  Ctr Tryz.prog 119 [s0_.v].toArray ([] : List Ent) [RdS R9 (SV.v s0_) a0] (X := Unit) (fun _ => .int .i64 r) (fun _ => []) := by
 unfold m_concert_partsFault at hm
 refine ctr_mk (vs := [(0, s0_.v)]) Tryz.func119 rfl Tryz.ntmps119 rfl ⟨rfl, trivial⟩ (fun w0 A => ?_)
 refine cj_seq ?_
 refine cj_reg ?_
 refine lp rfl (p_as rfl) ?_
 refine lj_seq ?_
 refine cj_seq ?_
 refine cj_seq ?_
 refine cj_reg ?_
 refine lp rfl (p_mv rfl) ?_
 refine lp rfl (p_len Tryz.underlying87 rfl (.ro 0 rfl)) ?_
 refine lp rfl (p_eql rfl rfl) ?_
 refine lj_seq ?_
 refine cj_if (b := (a0.length : Int) == 0) rfl (fun hb => ?_) (fun hb => ?_)
 ·have hm := ifB_t hb hm
  refine cj_seq ?_
  refine cj_reg ?_
  refine lp rfl (p_as rfl) ?_
  refine lj_seq ?_
  obtain rfl := Option.some.inj hm
  exact cj_rt () [] Tryz.results119 (.tmp rfl .nil) rfl rfl
 ·have hm := ifB_f hb hm
  refine cj_skip ?_
  refine nj_seq ?_
  refine cj_seq ?_
  refine cj_seq ?_
  refine cj_reg ?_
  refine lp rfl (p_mv rfl) ?_
  refine lp rfl (p_len Tryz.underlying87 rfl (.ro 0 rfl)) ?_
  refine lp rfl (p_gtr rfl rfl) ?_
  refine lj_seq ?_
  refine cj_if (b := decide ((a0.length : Int) > 12)) rfl (fun hb => ?_) (fun hb => ?_)
  ·have hm := ifB_t hb hm
   refine cj_seq ?_
   refine cj_reg ?_
   refine lp rfl (p_as rfl) ?_
   refine lj_seq ?_
   obtain rfl := Option.some.inj hm
   exact cj_rt () [] Tryz.results119 (.tmp rfl .nil) rfl rfl
  ·have hm := ifB_f hb hm
   refine cj_skip ?_
   refine nj_seq ?_
   refine cj_seq ?_
   refine cj_seq ?_
   refine cj_reg ?_
   refine lp rfl (p_mv rfl) ?_
   refine lp rfl (p_len Tryz.underlying87 rfl (.ro 0 rfl)) ?_
   refine lp rfl (p_mv rfl) ?_
   refine lj_seq ?_
   obtain ⟨f7, hf7, hm⟩ := bindS hm
   refine cj_range (γ := Unit) (m := (a0.length : Int)) hf7 () (fun u4 g5 => [(0, s0_.v), (2, .int .i64 0), (11, s0_.v)]) (fun u4 g5 => Sat w0 (keys ([] : List Ent)) A [.ro (RdS R9 (SV.v s0_) a0)]) ⟨rfl, rfl, rfl, rfl, rfl, trivial⟩ (fun _ h => h.picks [0] rfl) (nat_lt _) (fun _ h => (FactAt.get (F := RdS R9 (SV.v s0_) a0) (.ro 0 rfl) h).1) (fun _ _ => ⟨rfl, rfl, rfl, rfl⟩) ⟨rfl, rfl, rfl, rfl, rfl⟩ rfl rfl rfl (fun u4 g5 e => ?_) (fun aftk6 i1 x2 u4 g5 k6 hx3 hs J hJk6 hBk6 hX I cnk6 => ?_)
   ·have hm := Flow.fin_b e hm
    refine nj_seq ?_
    refine cj_seq ?_
    refine cj_reg ?_
    refine lp rfl (p_as rfl) ?_
    refine lj_seq ?_
    obtain rfl := Option.some.inj hm
    exact cj_rt () [] Tryz.results119 (.tmp rfl .nil) rfl rfl
   ·have hRk6 : ∀ t, k6 = .ret t → some t = some r := fun t e => by rw [hX t e] at hm; exact hm
    have hm := hs
    refine cj_seq ?_
    refine cj_reg ?_
    refine lp rfl (p_mv rfl) ?_
    refine lp rfl (p_idx Tryz.underlying87 ty9 rfl rfl (.ro 0 rfl) (getI_nat.trans hx3)) ?_
    refine lp rfl (p_lde (o := 0) ty9 rfl rfl (.ro 0 rfl) hx3 rfl) ?_
    refine lp rfl (p_as rfl) ?_
    refine lp rfl (p_as rfl) ?_
    refine lj_seq ?_
    refine cj_seq ?_
    refine cj_seq ?_
    refine cj_reg ?_
    refine lp rfl (p_mv rfl) ?_
    obtain ⟨y8, hy8, hm⟩ := bindS hm
    refine r_call [] cf87 rfl rfl (ok_kit_IsKey x2 hy8) rfl rfl .nil (fun _ => rfl) rfl (fun _ => ?_)
    refine lp rfl (p_not rfl) ?_
    refine lj_seq ?_
    refine cj_if (b := !y8) rfl (fun hb => ?_) (fun hb => ?_)
    ·have hm := ifB_t hb hm
     refine cj_seq ?_
     refine cj_reg ?_
     refine lp rfl (p_as rfl) ?_
     refine lj_seq ?_
     have hm := hRk6 _ (Option.some.inj hm).symm
     obtain rfl := Option.some.inj hm
     exact cj_rt () [] Tryz.results119 (.tmp rfl .nil) rfl rfl
    ·have hm := ifB_f hb hm
     refine cj_skip ?_
     refine nj_seq ?_
     refine cj_seq ?_
     refine cj_reg ?_
     obtain ⟨k11, hk11, hm⟩ := bindS hm
     have hRk11 : ∀ t, k11 = .inr t → some t = some k6 := fun t e => by rw [e] at hm; exact hm
     refine lj_join (σ := Bool) (γ := Unit) (fun u9 => k11 = .inl u9) (fun u9 g10 => [(0, s0_.v), (2, .int .i64 0), (11, s0_.v), (12, .int .i64 (a0.length : Int)), (13, .int .i64 (i1 : Int)), (31, .bool u9)]) (fun u9 g10 => Sat w0 (keys ([] : List Ent)) A [.ro (RdS R9 (SV.v s0_) a0)]) (fun u9 g10 hq => ?_) (fun J cnk11 => ?_)
     ·have hm := Sum.fin_l hq hm
      refine cj_if (b := u9) rfl (fun hb => ?_) (fun hb => ?_)
      ·have hm := ifB_t hb hm
       refine cj_seq ?_
       refine cj_reg ?_
       refine lp rfl (p_as rfl) ?_
       refine lj_seq ?_
       have hm := hRk6 _ (Option.some.inj hm).symm
       obtain rfl := Option.some.inj hm
       exact cj_rt () [] Tryz.results119 (.tmp rfl .nil) rfl rfl
      ·have hm := ifB_f hb hm
       refine cj_skip ?_
       refine nj_blk ?_
       exact cnk6 _ _ () () (hJk6 _ (Option.some.inj hm).symm) ⟨rfl, rfl, rfl, rfl, rfl, trivial⟩ (fun _ h => h.picks [0] rfl)
     ·have hm := hk11
      refine lp rfl (p_mv rfl) ?_
      refine lp rfl (p_gtr rfl rfl) ?_
      refine lp rfl (p_mv rfl) ?_
      refine lcase (i := 23) (decide ((i1 : Int) > 0)) rfl (fun hb => ?_) (fun hb => ?_)
      ·have hm := ifB_t hb hm
       refine lg true rfl rfl rfl ?_
       refine lp rfl (p_mv rfl) ?_
       refine lg true rfl rfl rfl ?_
       refine lp rfl (p_mv rfl) ?_
       refine lg true rfl rfl rfl ?_
       refine lp rfl (p_mv rfl) ?_
       refine lg true rfl rfl rfl ?_
       refine lp rfl (p_sub rfl rfl) ?_
       refine lg true rfl rfl rfl ?_
       obtain ⟨e12, he12, hm⟩ := bindS hm
       refine lp rfl (p_idx Tryz.underlying87 ty9 rfl rfl (.ro 0 rfl) he12) ?_
       refine lg true rfl rfl rfl ?_
       refine lp rfl (p_lde (o := 0) ty9 rfl rfl (.ro 0 rfl) (getI_spec he12).2 rfl) ?_
       refine lg true rfl rfl rfl ?_
       refine lp rfl (p_les rfl rfl) ?_
       refine lp rfl (p_pkt rfl rfl) ?_
       refine lj_nil ?_
       exact cnk11 _ _ (Op.bytesLess x2.toList e12.toList || x2.toList == e12.toList) () (Option.some.inj hm).symm ⟨rfl, rfl, rfl, rfl, rfl, rfl, trivial⟩ (fun _ h => h.picks [0] rfl)
      ·have hm := ifB_f hb hm
       refine ls true rfl rfl rfl rfl ?_
       refine ls true rfl rfl rfl rfl ?_
       refine ls true rfl rfl rfl rfl ?_
       refine ls true rfl rfl rfl rfl ?_
       refine ls true rfl rfl rfl rfl ?_
       refine ls true rfl rfl rfl rfl ?_
       refine ls true rfl rfl rfl rfl ?_
       refine lp rfl (p_pkf rfl rfl) ?_
       refine lj_nil ?_
       exact cnk11 _ _ false () (Option.some.inj hm).symm ⟨rfl, rfl, rfl, rfl, rfl, rfl, trivial⟩ (fun _ h => h.picks [0] rfl)
theorem ok_concert_CheckItems (s0_ : SV) (xg0_ : List (TItem × SV)) (a0 : (List TItem)) {r : Int} (hm : m_concert_CheckItems a0 = some r) :
  Ctr Tryz.prog 94 [s0_.v].toArray ([] : List Ent) [Lk N96 a0 xg0_, RdS N96.R (SV.v s0_) xg0_] (X := Unit) (fun _ => .int .i64 r) (fun _ => []) := by
 unfold m_concert_CheckItems at hm
 refine ctr_mk (vs := [(0, s0_.v)]) Tryz.func94 rfl Tryz.ntmps94 rfl ⟨rfl, trivial⟩ (fun w0 A => ?_)
 refine cj_pure (F := Lk N96 a0 xg0_) (.ro 0 rfl) (fun _ h => h.1) (fun hL0_ => ?_)
 refine cj_seq ?_
 refine cj_reg ?_
 refine lp rfl (p_as rfl) ?_
 refine lj_seq ?_
 refine cj_seq ?_
 refine cj_seq ?_
 refine cj_reg ?_
 refine lp rfl (p_mv rfl) ?_
 refine lp rfl (p_lenG hL0_ Tryz.underlying97 rfl (.ro 1 rfl)) ?_
 refine lp rfl (p_gtr rfl rfl) ?_
 refine lj_seq ?_
 refine cj_if (b := decide ((a0.length : Int) > 60)) rfl (fun hb => ?_) (fun hb => ?_)
 ·have hm := ifB_t hb hm
  refine cj_seq ?_
  refine cj_reg ?_
  refine lp rfl (p_as rfl) ?_
  refine lj_seq ?_
  obtain rfl := Option.some.inj hm
  exact cj_rt () [] Tryz.results94 (.tmp rfl .nil) rfl rfl
 ·have hm := ifB_f hb hm
  refine cj_skip ?_
  refine nj_seq ?_
  refine cj_seq ?_
  refine cj_seq ?_
  refine cj_reg ?_
  refine lp rfl (p_mv rfl) ?_
  refine lp rfl (p_lenG hL0_ Tryz.underlying97 rfl (.ro 1 rfl)) ?_
  refine lp rfl (p_mv rfl) ?_
  refine lj_seq ?_
  obtain ⟨f7, hf7, hm⟩ := bindS hm
  refine cj_range (γ := Unit) (m := (a0.length : Int)) hf7 () (fun u4 g5 => [(0, s0_.v), (2, .int .i64 0), (9, s0_.v)]) (fun u4 g5 => Sat w0 (keys ([] : List Ent)) A [.ro (Lk N96 a0 xg0_), .ro (RdS N96.R (SV.v s0_) xg0_)]) ⟨rfl, rfl, rfl, rfl, rfl, trivial⟩ (fun _ h => h.picks [0, 0] rfl) (nat_lt _) (fun _ h => by have h1 := (FactAt.get (F := RdS N96.R (SV.v s0_) xg0_) (.ro 1 rfl) h).1; rw [lk_len hL0_] at h1; exact h1) (fun _ _ => ⟨rfl, rfl, rfl, rfl⟩) ⟨rfl, rfl, rfl, rfl, rfl⟩ rfl rfl rfl (fun u4 g5 e => ?_) (fun aftk6 i1 x2 u4 g5 k6 hx3 hs J hJk6 hBk6 hX I cnk6 => ?_)
  ·have hm := Flow.fin_b e hm
   refine nj_seq ?_
   refine cj_seq ?_
   refine cj_reg ?_
   refine lp rfl (p_as rfl) ?_
   refine lj_seq ?_
   obtain rfl := Option.some.inj hm
   exact cj_rt () [] Tryz.results94 (.tmp rfl .nil) rfl rfl
  ·have hRk6 : ∀ t, k6 = .ret t → some t = some r := fun t e => by rw [hX t e] at hm; exact hm
   have hm := hs
   refine cj_seq ?_
   refine cj_reg ?_
   refine lp rfl (p_mv rfl) ?_
   obtain ⟨gx2, hx3G⟩ := lk_get hL0_ hx3
   refine lp rfl (p_idx Tryz.underlying97 ty96 rfl rfl (.ro 1 rfl) (getI_nat.trans hx3G)) ?_
   refine lp rfl (p_leaN (cs := [.string x2.Key, .string x2.Places, .int .i64 x2.Long, gx2.v]) ty96 rfl (.ro 1 rfl) hx3G rfl) ?_
   refine r_al ty96 rfl (fun b8 => ?_)
   refine lp rfl (p_as rfl) ?_
   refine r_sb (vs := [.string x2.Key, .string x2.Places, .int .i64 x2.Long, gx2.v]) (j := 0) ty96 rfl rfl rfl rfl rfl rfl rfl ?_
   refine lj_seq ?_
   refine cj_seq ?_
   refine cj_blk ?_
   refine cj_seq ?_
   refine cj_reg ?_
   obtain ⟨k11, hk11, hm⟩ := bindS hm
   have hRk11 : ∀ t, k11 = .inr t → some t = some k6 := fun t e => by rw [e] at hm; exact hm
   refine lj_join (σ := Bool) (γ := Unit) (fun u9 => k11 = .inl u9) (fun u9 g10 => [(0, s0_.v), (2, .int .i64 0), (3, .int .i64 (i1 : Int)), (4, .pointer (some ⟨b8, 0, none⟩)), (9, s0_.v), (10, .int .i64 (a0.length : Int)), (11, .int .i64 (i1 : Int)), (16, .bool u9)]) (fun u9 g10 => Sat w0 (keys ([] : List Ent)) A [.box b8 96 [.string x2.Key, .string x2.Places, .int .i64 x2.Long, gx2.v], .ro (Lk N96 a0 xg0_), .ro (RdS N96.R (SV.v s0_) xg0_)]) (fun u9 g10 hq => ?_) (fun J cnk11 => ?_)
   ·have hm := Sum.fin_l hq hm
    refine cj_if (b := u9) rfl (fun hb => ?_) (fun hb => ?_)
    ·have hm := ifB_t hb hm
     refine cj_seq ?_
     refine cj_reg ?_
     refine lp rfl (p_as rfl) ?_
     refine lj_seq ?_
     have hm := hRk6 _ (Option.some.inj hm).symm
     obtain rfl := Option.some.inj hm
     exact cj_rt () [] Tryz.results94 (.tmp rfl .nil) rfl rfl
    ·have hm := ifB_f hb hm
     refine cj_seq ?_
     refine cj_reg ?_
     refine lp rfl (p_mv rfl) ?_
     refine lp rfl (p_mv rfl) ?_
     obtain ⟨q14, hq14, hm⟩ := bindS hm
     obtain ⟨q14G, hq14G, hLq14, hsq14⟩ := lk_cut hL0_ hq14
     refine lp rfl (p_cut Tryz.underlying97 ty96 rfl rfl rfl rfl rfl (.ro 2 rfl) rfl rfl hq14G) ?_
     refine lp rfl (p_fn (cv := [.pointer (some ⟨b8, 0, none⟩)]) rfl) ?_
     obtain ⟨y15, hy15, hm⟩ := bindS hm
     refine r_call [] cf117 rfl rfl (ok_slices_ContainsFunc_api_Item_api_Item__concert_CheckItems_1 (s0_.sub N96.R.sz (0 : Int).toNat (i1 : Int).toNat) q14G q14 b8 x2.Key x2.Places x2.Long gx2 x2.Parts hy15) rfl rfl (.cons (.imp (.ro 1 rfl) (fun _ h => Lk.sub h hLq14 hsq14)) (.cons (.imp (.ro 2 rfl) (fun _ h => h.cut hq14G)) (.cons (.imp (.box 0 rfl) (fun _ h => h)) (.cons (.imp (.ro 1 rfl) (fun _ h => (Lk.at_ h hx3G))) .nil)))) (fun _ => rfl) rfl (fun _ => ?_)
     refine lp rfl (p_as rfl) ?_
     refine lj_seq ?_
     refine cj_if (b := y15) rfl (fun hb => ?_) (fun hb => ?_)
     ·have hm := ifB_t hb hm
      refine cj_seq ?_
      refine cj_reg ?_
      refine lp rfl (p_as rfl) ?_
      refine lj_seq ?_
      have hm := hRk6 _ (Option.some.inj hm).symm
      obtain rfl := Option.some.inj hm
      exact cj_rt () [] Tryz.results94 (.tmp rfl .nil) rfl rfl
     ·have hm := ifB_f hb hm
      refine cj_seq ?_
      refine cj_reg ?_
      refine lp rfl (p_fab fl96_2 rfl) ?_
      refine lp rfl (p_lbs ty3 rfl (j := 0) rfl rfl) ?_
      obtain ⟨y16, hy16, hm⟩ := bindS hm
      refine r_call [] cf83 rfl rfl (ok_kit_Outside x2.Long 1 86400000 hy16) rfl rfl .nil (fun _ => rfl) rfl (fun _ => ?_)
      refine lp rfl (p_as rfl) ?_
      refine lj_seq ?_
      refine cj_if (b := y16) rfl (fun hb => ?_) (fun hb => ?_)
      ·have hm := ifB_t hb hm
       refine cj_seq ?_
       refine cj_reg ?_
       refine lp rfl (p_as rfl) ?_
       refine lj_seq ?_
       have hm := hRk6 _ (Option.some.inj hm).symm
       obtain rfl := Option.some.inj hm
       exact cj_rt () [] Tryz.results94 (.tmp rfl .nil) rfl rfl
      ·have hm := ifB_f hb hm
       refine cj_skip ?_
       refine nj_blk ?_
       refine nj_seq ?_
       refine cj_seq ?_
       refine cj_reg ?_
       refine lp rfl (p_fab fl96_3 rfl) ?_
       refine lp rfl (p_lbs ty87 rfl (j := 0) rfl rfl) ?_
       obtain ⟨y17, hy17, hm⟩ := bindS hm
       refine r_call [] cf119 rfl rfl (ok_concert_partsFault gx2 x2.Parts hy17) rfl rfl (.cons (.imp (.ro 1 rfl) (fun _ h => (Lk.at_ h hx3G))) .nil) (fun _ => rfl) rfl (fun _ => ?_)
       refine lp rfl (p_as rfl) ?_
       refine lj_seq ?_
       refine cj_seq ?_
       refine cj_reg ?_
       refine lp rfl (p_mv rfl) ?_
       refine lp rfl (p_neq rfl rfl) ?_
       refine lj_seq ?_
       refine cj_if (b := y17 != 0) rfl (fun hb => ?_) (fun hb => ?_)
       ·have hm := ifB_t hb hm
        refine cj_seq ?_
        refine cj_reg ?_
        refine lp rfl (p_mv rfl) ?_
        refine lp rfl (p_as rfl) ?_
        refine lj_seq ?_
        have hm := hRk6 _ (Option.some.inj hm).symm
        obtain rfl := Option.some.inj hm
        exact cj_rt () [] Tryz.results94 (.tmp rfl .nil) rfl rfl
       ·have hm := ifB_f hb hm
        refine cj_skip ?_
        refine nj_blk ?_
        exact cnk6 _ _ () () (hJk6 _ (Option.some.inj hm).symm) ⟨rfl, rfl, rfl, rfl, rfl, trivial⟩ (fun _ h => h.picks [1, 1] rfl)
   ·have hm := hk11
    refine lp rfl (p_fab fl96_0 rfl) ?_
    refine lp rfl (p_lbs ty9 rfl (j := 0) rfl rfl) ?_
    obtain ⟨y12, hy12, hm⟩ := bindS hm
    refine r_call [] cf87 rfl rfl (ok_kit_IsKey x2.Key hy12) rfl rfl .nil (fun _ => rfl) rfl (fun _ => ?_)
    refine lp rfl (p_not rfl) ?_
    refine lp rfl (p_mv rfl) ?_
    refine lcase (i := 21) (!y12) rfl (fun hb => ?_) (fun hb => ?_)
    ·have hm := ifB_t hb hm
     refine ls false rfl rfl rfl rfl ?_
     refine ls false rfl rfl rfl rfl ?_
     refine ls false rfl rfl rfl rfl ?_
     refine ls false rfl rfl rfl rfl ?_
     refine lp rfl (p_pkt rfl rfl) ?_
     refine lp rfl (p_as rfl) ?_
     refine lj_nil ?_
     exact cnk11 _ _ true () (Option.some.inj hm).symm ⟨rfl, rfl, rfl, rfl, rfl, rfl, rfl, rfl, trivial⟩ (fun _ h => h.picks [0, 0, 0] rfl)
    ·have hm := ifB_f hb hm
     refine lg false rfl rfl rfl ?_
     refine lp rfl (p_fab fl96_1 rfl) ?_
     refine lg false rfl rfl rfl ?_
     refine lp rfl (p_lbs ty9 rfl (j := 0) rfl rfl) ?_
     refine lg false rfl rfl rfl ?_
     obtain ⟨y13, hy13, hm⟩ := bindS hm
     refine r_call [] cf87 rfl rfl (ok_kit_IsKey x2.Places hy13) rfl rfl .nil (fun _ => rfl) rfl (fun _ => ?_)
     refine lg false rfl rfl rfl ?_
     refine lp rfl (p_not rfl) ?_
     refine lp rfl (p_pkf rfl rfl) ?_
     refine lp rfl (p_as rfl) ?_
     refine lj_nil ?_
     exact cnk11 _ _ (!y13) () (Option.some.inj hm).symm ⟨rfl, rfl, rfl, rfl, rfl, rfl, rfl, rfl, trivial⟩ (fun _ h => h.picks [0, 0, 0] rfl)
theorem ok_concert_CheckProgram (a0 : TProgram) (s0_0_ : SV) (xg0_0_ : List (TItem × SV)) {r : Int} (hm : m_concert_CheckProgram a0 = some r) :
  Ctr Tryz.prog 69 [.agg [s0_0_.v, .int .i64 a0.Change, .int .i64 a0.Clap, .int .i64 a0.Break, .int .i64 a0.Half].toArray].toArray ([] : List Ent) [Lk N96 a0.Items xg0_0_, RdS N96.R (SV.v s0_0_) xg0_0_] (X := Unit) (fun _ => .int .i64 r) (fun _ => []) := by
 unfold m_concert_CheckProgram at hm
 refine ctr_mk (vs := [(0, .agg [s0_0_.v, .int .i64 a0.Change, .int .i64 a0.Clap, .int .i64 a0.Break, .int .i64 a0.Half].toArray)]) Tryz.func69 rfl Tryz.ntmps69 rfl ⟨rfl, trivial⟩ (fun w0 A => ?_)
 refine cj_pure (F := Lk N96 a0.Items xg0_0_) (.ro 0 rfl) (fun _ h => h.1) (fun hL0_0_ => ?_)
 refine cj_seq ?_
 refine cj_reg ?_
 refine r_bx (cs := [s0_0_.v, .int .i64 a0.Change, .int .i64 a0.Clap, .int .i64 a0.Break, .int .i64 a0.Half]) rfl rfl rfl (fun b1 => ?_)
 refine lp rfl (p_as rfl) ?_
 refine lj_seq ?_
 refine cj_seq ?_
 refine cj_seq ?_
 refine cj_reg ?_
 refine lp rfl (p_fab fl99_0 rfl) ?_
 refine lp rfl (p_lbs ty97 rfl (j := 0) rfl rfl) ?_
 obtain ⟨y2, hy2, hm⟩ := bindS hm
 refine r_call [] cf94 rfl rfl (ok_concert_CheckItems s0_0_ xg0_0_ a0.Items hy2) rfl rfl (.cons (.ro 1 rfl) (.cons (.ro 2 rfl) .nil)) (fun _ => rfl) rfl (fun _ => ?_)
 refine lp rfl (p_as rfl) ?_
 refine lj_seq ?_
 refine cj_seq ?_
 refine cj_reg ?_
 refine lp rfl (p_mv rfl) ?_
 refine lp rfl (p_neq rfl rfl) ?_
 refine lj_seq ?_
 refine cj_if (b := y2 != 0) rfl (fun hb => ?_) (fun hb => ?_)
 ·have hm := ifB_t hb hm
  refine cj_seq ?_
  refine cj_reg ?_
  refine lp rfl (p_mv rfl) ?_
  refine lp rfl (p_as rfl) ?_
  refine lj_seq ?_
  obtain rfl := Option.some.inj hm
  exact cj_rt () [] Tryz.results69 (.tmp rfl .nil) rfl rfl
 ·have hm := ifB_f hb hm
  refine cj_skip ?_
  refine nj_seq ?_
  refine cj_seq ?_
  refine cj_seq ?_
  refine cj_reg ?_
  obtain ⟨k5, hk5, hm⟩ := bindS hm
  have hRk5 : ∀ t, k5 = .inr t → some t = some r := fun t e => by rw [e] at hm; exact hm
  refine lj_join (σ := Bool) (γ := Unit) (fun u3 => k5 = .inl u3) (fun u3 g4 => [(2, .int .i64 0), (32, .bool u3)]) (fun u3 g4 => Sat w0 (keys ([] : List Ent)) A []) (fun u3 g4 hq => ?_) (fun J cnk5 => ?_)
  ·have hm := Sum.fin_l hq hm
   refine cj_if (b := u3) rfl (fun hb => ?_) (fun hb => ?_)
   ·have hm := ifB_t hb hm
    refine cj_seq ?_
    refine cj_reg ?_
    refine lp rfl (p_as rfl) ?_
    refine lj_seq ?_
    obtain rfl := Option.some.inj hm
    exact cj_rt () [] Tryz.results69 (.tmp rfl .nil) rfl rfl
   ·have hm := ifB_f hb hm
    refine cj_skip ?_
    refine nj_seq ?_
    refine cj_seq ?_
    refine cj_reg ?_
    refine lp rfl (p_as rfl) ?_
    refine lj_seq ?_
    obtain rfl := Option.some.inj hm
    exact cj_rt () [] Tryz.results69 (.tmp rfl .nil) rfl rfl
  ·have hm := hk5
   refine lp rfl (p_fab fl99_1 rfl) ?_
   refine lp rfl (p_lbs ty3 rfl (j := 0) rfl rfl) ?_
   obtain ⟨y6, hy6, hm⟩ := bindS hm
   refine r_call [] cf83 rfl rfl (ok_kit_Outside a0.Change 0 86400000 hy6) rfl rfl .nil (fun _ => rfl) rfl (fun _ => ?_)
   refine lp rfl (p_mv rfl) ?_
   refine lcase (i := 13) y6 rfl (fun hb => ?_) (fun hb => ?_)
   ·have hm := ifB_t hb hm
    refine ls false rfl rfl rfl rfl ?_
    refine ls false rfl rfl rfl rfl ?_
    refine ls false rfl rfl rfl rfl ?_
    refine lp rfl (p_pkt rfl rfl) ?_
    refine lp rfl (p_mv rfl) ?_
    refine ls false rfl rfl rfl rfl ?_
    refine ls false rfl rfl rfl rfl ?_
    refine ls false rfl rfl rfl rfl ?_
    refine lp rfl (p_pkt rfl rfl) ?_
    refine lp rfl (p_mv rfl) ?_
    refine ls false rfl rfl rfl rfl ?_
    refine ls false rfl rfl rfl rfl ?_
    refine ls false rfl rfl rfl rfl ?_
    refine ls false rfl rfl rfl rfl ?_
    refine ls false rfl rfl rfl rfl ?_
    refine ls false rfl rfl rfl rfl ?_
    refine ls false rfl rfl rfl rfl ?_
    refine ls false rfl rfl rfl rfl ?_
    refine lp rfl (p_pkt rfl rfl) ?_
    refine lj_nil ?_
    exact cnk5 _ _ true () (Option.some.inj hm).symm ⟨rfl, rfl, trivial⟩ (fun _ h => h.picks [] rfl)
   ·have hm := ifB_f hb hm
    refine lg false rfl rfl rfl ?_
    refine lp rfl (p_fab fl99_2 rfl) ?_
    refine lg false rfl rfl rfl ?_
    refine lp rfl (p_lbs ty3 rfl (j := 0) rfl rfl) ?_
    refine lg false rfl rfl rfl ?_
    obtain ⟨y7, hy7, hm⟩ := bindS hm
    refine r_call [] cf83 rfl rfl (ok_kit_Outside a0.Clap 0 86400000 hy7) rfl rfl .nil (fun _ => rfl) rfl (fun _ => ?_)
    refine lp rfl (p_pkf rfl rfl) ?_
    refine lp rfl (p_mv rfl) ?_
    refine lcase (i := 18) y7 rfl (fun hb => ?_) (fun hb => ?_)
    ·have hm := ifB_t hb hm
     refine ls false rfl rfl rfl rfl ?_
     refine ls false rfl rfl rfl rfl ?_
     refine ls false rfl rfl rfl rfl ?_
     refine lp rfl (p_pkt rfl rfl) ?_
     refine lp rfl (p_mv rfl) ?_
     refine ls false rfl rfl rfl rfl ?_
     refine ls false rfl rfl rfl rfl ?_
     refine ls false rfl rfl rfl rfl ?_
     refine ls false rfl rfl rfl rfl ?_
     refine ls false rfl rfl rfl rfl ?_
     refine ls false rfl rfl rfl rfl ?_
     refine ls false rfl rfl rfl rfl ?_
     refine ls false rfl rfl rfl rfl ?_
     refine lp rfl (p_pkt rfl rfl) ?_
     refine lj_nil ?_
     exact cnk5 _ _ true () (Option.some.inj hm).symm ⟨rfl, rfl, trivial⟩ (fun _ h => h.picks [] rfl)
    ·have hm := ifB_f hb hm
     refine lg false rfl rfl rfl ?_
     refine lp rfl (p_fab fl99_3 rfl) ?_
     refine lg false rfl rfl rfl ?_
     refine lp rfl (p_lbs ty3 rfl (j := 0) rfl rfl) ?_
     refine lg false rfl rfl rfl ?_
     obtain ⟨y8, hy8, hm⟩ := bindS hm
     refine r_call [] cf83 rfl rfl (ok_kit_Outside a0.Break 0 86400000 hy8) rfl rfl .nil (fun _ => rfl) rfl (fun _ => ?_)
     refine lp rfl (p_pkf rfl rfl) ?_
     refine lp rfl (p_mv rfl) ?_
     refine lcase (i := 23) y8 rfl (fun hb => ?_) (fun hb => ?_)
     ·have hm := ifB_t hb hm
      refine ls false rfl rfl rfl rfl ?_
      refine ls false rfl rfl rfl rfl ?_
      refine ls false rfl rfl rfl rfl ?_
      refine ls false rfl rfl rfl rfl ?_
      refine ls false rfl rfl rfl rfl ?_
      refine ls false rfl rfl rfl rfl ?_
      refine ls false rfl rfl rfl rfl ?_
      refine ls false rfl rfl rfl rfl ?_
      refine lp rfl (p_pkt rfl rfl) ?_
      refine lj_nil ?_
      exact cnk5 _ _ true () (Option.some.inj hm).symm ⟨rfl, rfl, trivial⟩ (fun _ h => h.picks [] rfl)
     ·have hm := ifB_f hb hm
      refine lg false rfl rfl rfl ?_
      refine lp rfl (p_fab fl99_4 rfl) ?_
      refine lg false rfl rfl rfl ?_
      refine lp rfl (p_lbs ty3 rfl (j := 0) rfl rfl) ?_
      refine lg false rfl rfl rfl ?_
      refine lp rfl (p_fab fl99_0 rfl) ?_
      refine lg false rfl rfl rfl ?_
      refine lp rfl (p_lbs ty97 rfl (j := 0) rfl rfl) ?_
      refine lg false rfl rfl rfl ?_
      refine lp rfl (p_lenG hL0_0_ Tryz.underlying97 rfl (.ro 2 rfl)) ?_
      refine lg false rfl rfl rfl ?_
      refine lp rfl (p_sub rfl rfl) ?_
      refine lg false rfl rfl rfl ?_
      refine lp rfl (p_max rfl rfl) ?_
      refine lg false rfl rfl rfl ?_
      obtain ⟨y9, hy9, hm⟩ := bindS hm
      refine r_call [] cf83 rfl rfl (ok_kit_Outside a0.Half (-1) (max (-1) (w64 ((a0.Items.length : Int) - 2))) hy9) rfl rfl .nil (fun _ => rfl) rfl (fun _ => ?_)
      refine lp rfl (p_pkf rfl rfl) ?_
      refine lj_nil ?_
      exact cnk5 _ _ y9 () (Option.some.inj hm).symm ⟨rfl, rfl, trivial⟩ (fun _ h => h.picks [] rfl)
theorem ok_concert_change (a0 : TProgram) (s0_0_ : SV) (xg0_0_ : List (TItem × SV)) (a1 : TItem) (s1_3_ : SV) (a2 : TItem) (s2_3_ : SV) {r : Int} (hm : m_concert_change a0 a1 a2 = some r) :
  Ctr Tryz.prog 120 [.agg [s0_0_.v, .int .i64 a0.Change, .int .i64 a0.Clap, .int .i64 a0.Break, .int .i64 a0.Half].toArray, .agg [.string a1.Key, .string a1.Places, .int .i64 a1.Long, s1_3_.v].toArray, .agg [.string a2.Key, .string a2.Places, .int .i64 a2.Long, s2_3_.v].toArray].toArray ([] : List Ent) [Lk N96 a0.Items xg0_0_, RdS N96.R (SV.v s0_0_) xg0_0_, RdS R9 (SV.v s1_3_) a1.Parts, RdS R9 (SV.v s2_3_) a2.Parts] (X := Unit) (fun _ => .int .i64 r) (fun _ => []) := by
 unfold m_concert_change at hm
 refine ctr_mk (vs := [(0, .agg [s0_0_.v, .int .i64 a0.Change, .int .i64 a0.Clap, .int .i64 a0.Break, .int .i64 a0.Half].toArray), (1, .agg [.string a1.Key, .string a1.Places, .int .i64 a1.Long, s1_3_.v].toArray), (2, .agg [.string a2.Key, .string a2.Places, .int .i64 a2.Long, s2_3_.v].toArray)]) Tryz.func120 rfl Tryz.ntmps120 rfl ⟨rfl, rfl, rfl, trivial⟩ (fun w0 A => ?_)
 refine cj_pure (F := Lk N96 a0.Items xg0_0_) (.ro 0 rfl) (fun _ h => h.1) (fun hL0_0_ => ?_)
 refine cj_seq ?_
 refine cj_reg ?_
 refine r_bx (cs := [s0_0_.v, .int .i64 a0.Change, .int .i64 a0.Clap, .int .i64 a0.Break, .int .i64 a0.Half]) rfl rfl rfl (fun b1 => ?_)
 refine r_bx (cs := [.string a1.Key, .string a1.Places, .int .i64 a1.Long, s1_3_.v]) rfl rfl rfl (fun b2 => ?_)
 refine r_bx (cs := [.string a2.Key, .string a2.Places, .int .i64 a2.Long, s2_3_.v]) rfl rfl rfl (fun b3 => ?_)
 refine lp rfl (p_as rfl) ?_
 refine lj_seq ?_
 refine cj_seq ?_
 refine cj_seq ?_
 refine cj_reg ?_
 refine lp rfl (p_fab fl96_1 rfl) ?_
 refine lp rfl (p_lbs ty9 rfl (j := 1) rfl rfl) ?_
 refine lp rfl (p_fab fl96_1 rfl) ?_
 refine lp rfl (p_lbs ty9 rfl (j := 0) rfl rfl) ?_
 refine lp rfl (p_nes rfl rfl) ?_
 refine lj_seq ?_
 refine cj_if (b := !(a1.Places.toList == a2.Places.toList)) rfl (fun hb => ?_) (fun hb => ?_)
 ·have hm := ifB_t hb hm
  refine cj_seq ?_
  refine cj_reg ?_
  refine lp rfl (p_fab fl99_1 rfl) ?_
  refine lp rfl (p_lbs ty3 rfl (j := 2) rfl rfl) ?_
  refine lp rfl (p_as rfl) ?_
  refine lj_seq ?_
  obtain rfl := Option.some.inj hm
  exact cj_rt () [] Tryz.results120 (.tmp rfl .nil) rfl rfl
 ·have hm := ifB_f hb hm
  refine cj_skip ?_
  refine nj_seq ?_
  refine cj_seq ?_
  refine cj_reg ?_
  refine lp rfl (p_fab fl99_2 rfl) ?_
  refine lp rfl (p_lbs ty3 rfl (j := 2) rfl rfl) ?_
  refine lp rfl (p_as rfl) ?_
  refine lj_seq ?_
  obtain rfl := Option.some.inj hm
  exact cj_rt () [] Tryz.results120 (.tmp rfl .nil) rfl rfl
theorem ok_concert_behind (a0 : TProgram) (s0_0_ : SV) (xg0_0_ : List (TItem × SV)) (a1 : Int) {r : Int} (hm : m_concert_behind a0 a1 = some r) :
  Ctr Tryz.prog 95 [.agg [s0_0_.v, .int .i64 a0.Change, .int .i64 a0.Clap, .int .i64 a0.Break, .int .i64 a0.Half].toArray, .int .i64 a1].toArray ([] : List Ent) [Lk N96 a0.Items xg0_0_, RdS N96.R (SV.v s0_0_) xg0_0_] (X := Unit) (fun _ => .int .i64 r) (fun _ => []) := by
 unfold m_concert_behind at hm
 refine ctr_mk (vs := [(0, .agg [s0_0_.v, .int .i64 a0.Change, .int .i64 a0.Clap, .int .i64 a0.Break, .int .i64 a0.Half].toArray), (1, .int .i64 a1)]) Tryz.func95 rfl Tryz.ntmps95 rfl ⟨rfl, rfl, trivial⟩ (fun w0 A => ?_)
 refine cj_pure (F := Lk N96 a0.Items xg0_0_) (.ro 0 rfl) (fun _ h => h.1) (fun hL0_0_ => ?_)
 refine cj_seq ?_
 refine cj_reg ?_
 refine r_bx (cs := [s0_0_.v, .int .i64 a0.Change, .int .i64 a0.Clap, .int .i64 a0.Break, .int .i64 a0.Half]) rfl rfl rfl (fun b1 => ?_)
 refine lp rfl (p_as rfl) ?_
 refine lj_seq ?_
 refine cj_seq ?_
 refine cj_seq ?_
 refine cj_reg ?_
 refine lp rfl (p_mv rfl) ?_
 refine lp rfl (p_fab fl99_4 rfl) ?_
 refine lp rfl (p_lbs ty3 rfl (j := 0) rfl rfl) ?_
 refine lp rfl (p_eql rfl rfl) ?_
 refine lj_seq ?_
 refine cj_if (b := a1 == a0.Half) rfl (fun hb => ?_) (fun hb => ?_)
 ·have hm := ifB_t hb hm
  refine cj_seq ?_
  refine cj_reg ?_
  refine lp rfl (p_fab fl99_3 rfl) ?_
  refine lp rfl (p_lbs ty3 rfl (j := 0) rfl rfl) ?_
  refine lp rfl (p_as rfl) ?_
  refine lj_seq ?_
  obtain rfl := Option.some.inj hm
  exact cj_rt () [] Tryz.results95 (.tmp rfl .nil) rfl rfl
 ·have hm := ifB_f hb hm
  refine cj_skip ?_
  refine nj_seq ?_
  refine cj_seq ?_
  refine cj_quiet (by kernel_rfl) (by kernel_rfl) ?_
  refine q_p rfl (p_lbw ty99 rfl (j := 0) rfl rfl) ?_
  refine q_p rfl (p_fab fl99_0 rfl) ?_
  refine q_p rfl (p_lbs ty97 rfl (j := 0) rfl rfl) ?_
  refine q_p rfl (p_mv rfl) ?_
  obtain ⟨e2, he2, hm⟩ := bindS hm
  obtain ⟨ge2, he2G⟩ := lk_getI hL0_0_ he2
  refine q_p rfl (p_idx Tryz.underlying97 ty96 rfl rfl (.ro 2 rfl) he2G) ?_
  refine q_p rfl (p_leaN (cs := [.string e2.Key, .string e2.Places, .int .i64 e2.Long, ge2.v]) ty96 rfl (.ro 2 rfl) (getI_spec he2G).2 rfl) ?_
  refine q_p rfl (p_fab fl99_0 rfl) ?_
  refine q_p rfl (p_lbs ty97 rfl (j := 0) rfl rfl) ?_
  refine q_p rfl (p_mv rfl) ?_
  refine q_p rfl (p_add rfl rfl) ?_
  obtain ⟨e3, he3, hm⟩ := bindS hm
  obtain ⟨ge3, he3G⟩ := lk_getI hL0_0_ he3
  refine q_p rfl (p_idx Tryz.underlying97 ty96 rfl rfl (.ro 2 rfl) he3G) ?_
  refine q_p rfl (p_leaN (cs := [.string e3.Key, .string e3.Places, .int .i64 e3.Long, ge3.v]) ty96 rfl (.ro 2 rfl) (getI_spec he3G).2 rfl) ?_
  obtain ⟨y4, hy4, hm⟩ := bindS hm
  refine q_call (.int .i64 y4) cf120 rfl rfl (ok_concert_change a0 s0_0_ xg0_0_ e2 ge2 e3 ge3 hy4) (.cons (.ro 1 rfl) (.cons (.ro 2 rfl) (.cons (.imp (.ro 1 rfl) (fun _ h => (Lk.at_ h (getI_spec he2G).2))) (.cons (.imp (.ro 1 rfl) (fun _ h => (Lk.at_ h (getI_spec he3G).2))) .nil)))) (fun _ => rfl) (fun _ => rfl) rfl ?_
  refine q_p rfl (p_as rfl) ?_
  refine q_nil ?_
  refine nj_seq ?_
  obtain rfl := Option.some.inj hm
  exact cj_rt () [] Tryz.results95 (.tmp rfl .nil) rfl rfl
theorem ok_concert_begins (a0 : TProgram) (s0_0_ : SV) (xg0_0_ : List (TItem × SV)) {r : (List Int) × Int} (hm : m_concert_begins a0 = some r) :
  Ctr Tryz.prog 70 [.agg [s0_0_.v, .int .i64 a0.Change, .int .i64 a0.Clap, .int .i64 a0.Break, .int .i64 a0.Half].toArray].toArray ([] : List Ent) [Lk N96 a0.Items xg0_0_, RdS N96.R (SV.v s0_0_) xg0_0_] (X := SV) (fun s => .tuple [s.v, .int .i64 r.2].toArray) (fun s => [.row R3 (SV.v s) r.1]) := by
 unfold m_concert_begins at hm
 refine ctr_mk (vs := [(0, .agg [s0_0_.v, .int .i64 a0.Change, .int .i64 a0.Clap, .int .i64 a0.Break, .int .i64 a0.Half].toArray)]) Tryz.func70 rfl Tryz.ntmps70 rfl ⟨rfl, trivial⟩ (fun w0 A => ?_)
 refine cj_pure (F := Lk N96 a0.Items xg0_0_) (.ro 0 rfl) (fun _ h => h.1) (fun hL0_0_ => ?_)
 refine cj_seq ?_
 refine cj_reg ?_
 refine r_bx (cs := [s0_0_.v, .int .i64 a0.Change, .int .i64 a0.Clap, .int .i64 a0.Break, .int .i64 a0.Half]) rfl rfl rfl (fun b1 => ?_)
 refine lp rfl (p_as rfl) ?_
 refine lp rfl (p_as rfl) ?_
 refine lj_seq ?_
 refine cj_seq ?_
 refine cj_reg ?_
 refine lp rfl (p_as rfl) ?_
 refine lj_seq ?_
 refine cj_seq ?_
 refine cj_reg ?_
 refine lp rfl (p_as rfl) ?_
 refine lj_seq ?_
 refine cj_seq ?_
 refine cj_seq ?_
 refine cj_reg ?_
 refine lp rfl (p_fab fl99_0 rfl) ?_
 refine lp rfl (p_lbs ty97 rfl (j := 0) rfl rfl) ?_
 refine lp rfl (p_lenG hL0_0_ Tryz.underlying97 rfl (.ro 2 rfl)) ?_
 refine lp rfl (p_mv rfl) ?_
 refine lj_seq ?_
 refine cj_nil R3 ?_
 obtain ⟨f9, hf9, hm⟩ := bindS hm
 refine cj_range (γ := SV) (m := (a0.Items.length : Int)) hf9 nilS (fun u6 g7 => [(1, .pointer (some ⟨b1, 0, none⟩)), (2, .slice none 0 0), (3, .int .i64 0), (4, g7.v), (5, .int .i64 u6.1), (9, s0_0_.v)]) (fun u6 g7 => Sat w0 (keys ([] : List Ent)) A [.box b1 99 [s0_0_.v, .int .i64 a0.Change, .int .i64 a0.Clap, .int .i64 a0.Break, .int .i64 a0.Half], .ro (Lk N96 a0.Items xg0_0_), .ro (RdS N96.R (SV.v s0_0_) xg0_0_), .row R3 (SV.v g7) u6.2]) ⟨rfl, rfl, rfl, rfl, rfl, rfl, rfl, rfl, trivial⟩ (fun _ h => h.picks [1, 1, 1, 0] rfl) (nat_lt _) (fun _ h => by have h1 := (FactAt.get (F := RdS N96.R (SV.v s0_0_) xg0_0_) (.ro 3 rfl) h).1; rw [lk_len hL0_0_] at h1; exact h1) (fun _ _ => ⟨rfl, rfl, rfl, rfl⟩) ⟨rfl, rfl, rfl, rfl, rfl⟩ rfl rfl rfl (fun u6 g7 e => ?_) (fun aftk8 i2 x3 u6 g7 k8 hx4 hs J hJk8 hBk8 hX I cnk8 => ?_)
 ·have hm := Flow.fin_b e hm
  refine nj_seq ?_
  refine cj_seq ?_
  refine cj_reg ?_
  refine lp rfl (p_mv rfl) ?_
  refine lp rfl (p_mv rfl) ?_
  refine lp rfl (p_as rfl) ?_
  refine lp rfl (p_as rfl) ?_
  refine lj_seq ?_
  obtain rfl := Option.some.inj hm
  exact cj_rt g7 [3] Tryz.results70 (.tmp rfl (.tmp rfl .nil)) rfl rfl
 ·have hRk8 : ∀ t, k8 = .ret t → some t = some r := fun t e => by rw [hX t e] at hm; exact hm
  have hm := hs
  refine cj_seq ?_
  refine cj_reg ?_
  refine lp rfl (p_mv rfl) ?_
  obtain ⟨gx3, hx4G⟩ := lk_get hL0_0_ hx4
  refine lp rfl (p_idx Tryz.underlying97 ty96 rfl rfl (.ro 2 rfl) (getI_nat.trans hx4G)) ?_
  refine lp rfl (p_leaN (cs := [.string x3.Key, .string x3.Places, .int .i64 x3.Long, gx3.v]) ty96 rfl (.ro 2 rfl) hx4G rfl) ?_
  refine r_al ty96 rfl (fun b11 => ?_)
  refine lp rfl (p_as rfl) ?_
  refine r_sb (vs := [.string x3.Key, .string x3.Places, .int .i64 x3.Long, gx3.v]) (j := 0) ty96 rfl rfl rfl rfl rfl rfl rfl ?_
  refine lj_seq ?_
  refine cj_seq ?_
  refine cj_reg ?_
  refine lp rfl (p_mv rfl) ?_
  refine lp rfl (p_mv rfl) ?_
  refine r_bs R3 [u6.1] rfl rfl rfl (fun _ => by kernel_rfl) rfl (fun s12 => ?_)
  obtain ⟨q13, hq13, hm⟩ := bindS hm
  refine r_app (k := 5) Tryz.underlying22 ty3 rfl rfl rfl rfl (.row 0 rfl) hq13 rfl (fun s14 => ?_)
  refine lp rfl (p_as rfl) ?_
  refine lj_seq ?_
  refine cj_seq ?_
  refine cj_reg ?_
  refine lp rfl (p_mv rfl) ?_
  refine lp rfl (p_fab fl96_2 rfl) ?_
  refine lp rfl (p_lbs ty3 rfl (j := 1) rfl rfl) ?_
  refine lp rfl (p_add rfl rfl) ?_
  refine lp rfl (p_as rfl) ?_
  refine lj_seq ?_
  refine cj_seq ?_
  refine cj_reg ?_
  refine lp rfl (p_mv rfl) ?_
  refine lp rfl (p_add rfl rfl) ?_
  refine lp rfl (p_fab fl99_0 rfl) ?_
  refine lp rfl (p_lbs ty97 rfl (j := 2) rfl rfl) ?_
  refine lp rfl (p_lenG hL0_0_ Tryz.underlying97 rfl (.ro 4 rfl)) ?_
  refine lp rfl (p_lss rfl rfl) ?_
  refine lj_seq ?_
  refine cj_if (b := decide ((w64 ((i2 : Int) + 1)) < (a0.Items.length : Int))) rfl (fun hb => ?_) (fun hb => ?_)
  ·have hm := ifB_t hb hm
   refine cj_reg ?_
   refine lp rfl (p_mv rfl) ?_
   refine lp rfl (p_lbw ty99 rfl (j := 2) rfl rfl) ?_
   refine lp rfl (p_mv rfl) ?_
   obtain ⟨y15, hy15, hm⟩ := bindS hm
   refine r_call [] cf95 rfl rfl (ok_concert_behind a0 s0_0_ xg0_0_ (i2 : Int) hy15) rfl rfl (.cons (.ro 3 rfl) (.cons (.ro 4 rfl) .nil)) (fun _ => rfl) rfl (fun _ => ?_)
   refine lp rfl (p_add rfl rfl) ?_
   refine lp rfl (p_as rfl) ?_
   refine lj_nil ?_
   refine nj_blk ?_
   exact cnk8 _ _ (w64 ((w64 (u6.1 + x3.Long)) + y15), q13) s14 (hJk8 _ (Option.some.inj hm).symm) ⟨rfl, rfl, rfl, rfl, rfl, rfl, rfl, rfl, trivial⟩ (fun _ h => h.picks [2, 2, 2, 2] rfl)
  ·have hm := ifB_f hb hm
   refine cj_skip ?_
   refine nj_blk ?_
   exact cnk8 _ _ (w64 (u6.1 + x3.Long), q13) s14 (hJk8 _ (Option.some.inj hm).symm) ⟨rfl, rfl, rfl, rfl, rfl, rfl, rfl, rfl, trivial⟩ (fun _ h => h.picks [2, 2, 2, 2] rfl)
theorem ok_concert_Long (a0 : TProgram) (s0_0_ : SV) (xg0_0_ : List (TItem × SV)) {r : Int × Int} (hm : m_concert_Long a0 = some r) :
  Ctr Tryz.prog 38 [.agg [s0_0_.v, .int .i64 a0.Change, .int .i64 a0.Clap, .int .i64 a0.Break, .int .i64 a0.Half].toArray].toArray ([] : List Ent) [Lk N96 a0.Items xg0_0_, RdS N96.R (SV.v s0_0_) xg0_0_] (X := Unit) (fun _ => .tuple [.int .i64 r.1, .int .i64 r.2].toArray) (fun _ => []) := by
 unfold m_concert_Long at hm
 refine ctr_mk (vs := [(0, .agg [s0_0_.v, .int .i64 a0.Change, .int .i64 a0.Clap, .int .i64 a0.Break, .int .i64 a0.Half].toArray)]) Tryz.func38 rfl Tryz.ntmps38 rfl ⟨rfl, trivial⟩ (fun w0 A => ?_)
 refine cj_pure (F := Lk N96 a0.Items xg0_0_) (.ro 0 rfl) (fun _ h => h.1) (fun hL0_0_ => ?_)
 refine cj_seq ?_
 refine cj_reg ?_
 refine r_bx (cs := [s0_0_.v, .int .i64 a0.Change, .int .i64 a0.Clap, .int .i64 a0.Break, .int .i64 a0.Half]) rfl rfl rfl (fun b1 => ?_)
 refine lp rfl (p_as rfl) ?_
 refine lp rfl (p_as rfl) ?_
 refine lj_seq ?_
 refine cj_seq ?_
 refine cj_seq ?_
 refine cj_reg ?_
 refine lp rfl (p_lbw ty99 rfl (j := 0) rfl rfl) ?_
 obtain ⟨y2, hy2, hm⟩ := bindS hm
 refine r_call [] cf69 rfl rfl (ok_concert_CheckProgram a0 s0_0_ xg0_0_ hy2) rfl rfl (.cons (.ro 1 rfl) (.cons (.ro 2 rfl) .nil)) (fun _ => rfl) rfl (fun _ => ?_)
 refine lp rfl (p_as rfl) ?_
 refine lj_seq ?_
 refine cj_seq ?_
 refine cj_reg ?_
 refine lp rfl (p_mv rfl) ?_
 refine lp rfl (p_neq rfl rfl) ?_
 refine lj_seq ?_
 refine cj_if (b := y2 != 0) rfl (fun hb => ?_) (fun hb => ?_)
 ·have hm := ifB_t hb hm
  refine cj_seq ?_
  refine cj_reg ?_
  refine lp rfl (p_mv rfl) ?_
  refine lp rfl (p_as rfl) ?_
  refine lp rfl (p_as rfl) ?_
  refine lj_seq ?_
  obtain rfl := Option.some.inj hm
  exact cj_rt () [] Tryz.results38 (.tmp rfl (.tmp rfl .nil)) rfl rfl
 ·have hm := ifB_f hb hm
  refine cj_skip ?_
  refine nj_seq ?_
  refine cj_seq ?_
  refine cj_reg ?_
  refine lp rfl (p_lbw ty99 rfl (j := 0) rfl rfl) ?_
  obtain ⟨y3, hy3, hm⟩ := bindS hm
  refine r_call [] cf70 rfl rfl (ok_concert_begins a0 s0_0_ xg0_0_ hy3) rfl rfl (.cons (.ro 1 rfl) (.cons (.ro 2 rfl) .nil)) (fun _ => rfl) rfl (fun s4 => ?_)
  refine lp rfl (p_mv rfl) ?_
  refine lp rfl (p_ext rfl rfl) ?_
  refine lp rfl (p_ext rfl rfl) ?_
  refine lp rfl (p_as rfl) ?_
  refine lp rfl (p_as rfl) ?_
  refine lj_seq ?_
  refine cj_seq ?_
  refine cj_reg ?_
  refine lp rfl (p_mv rfl) ?_
  refine lp rfl (p_as rfl) ?_
  refine lp rfl (p_as rfl) ?_
  refine lj_seq ?_
  obtain rfl := Option.some.inj hm
  exact cj_rt () [] Tryz.results38 (.tmp rfl (.tmp rfl .nil)) rfl rfl
theorem ok_club_usesOf (a0 : Int) {r : Tclub_uses} (hm : m_club_usesOf a0 = some r) :
  Ctr Tryz.prog 176 [.int .i64 a0].toArray ([] : List Ent) [] (X := Unit) (fun _ => .agg (R242.enc r).toArray) (fun _ => []) := by
 unfold m_club_usesOf at hm
 refine ctr_mk (vs := [(0, .int .i64 a0)]) Tryz.func176 rfl Tryz.ntmps176 rfl ⟨rfl, trivial⟩ (fun w0 A => ?_)
 refine cj_seq ?_
 refine cj_reg ?_
 refine r_al ty242 rfl (fun b1 => ?_)
 refine lj_seq ?_
 refine cj_seq ?_
 refine cj_reg ?_
 refine lp rfl (p_mv rfl) ?_
 refine lp rfl (p_eql rfl rfl) ?_
 refine lp rfl (p_mv rfl) ?_
 refine lp rfl (p_eql rfl rfl) ?_
 refine lp rfl (p_mv rfl) ?_
 refine lp rfl (p_eql rfl rfl) ?_
 refine lp rfl (p_as rfl) ?_
 refine lp rfl (p_as rfl) ?_
 refine lp rfl (p_as rfl) ?_
 refine lj_seq ?_
 refine cj_seq ?_
 refine cj_reg ?_
 refine lp rfl (p_mv rfl) ?_
 refine lp rfl (p_mv rfl) ?_
 refine lcase (i := 13) (a0 == 1) rfl (fun hb => ?_) (fun hb => ?_)
 ·have hm := ifB_t hb hm
  refine ls false rfl rfl rfl rfl ?_
  refine ls false rfl rfl rfl rfl ?_
  refine lp rfl (p_pkt rfl rfl) ?_
  refine lp rfl (p_mv rfl) ?_
  refine ls false rfl rfl rfl rfl ?_
  refine lp rfl (p_pkt rfl rfl) ?_
  refine lp rfl (p_mv rfl) ?_
  refine ls false rfl rfl rfl rfl ?_
  refine lp rfl (p_pkt rfl rfl) ?_
  refine lp rfl (p_mv rfl) ?_
  refine lp rfl (p_eql rfl rfl) ?_
  refine lp rfl (p_mv rfl) ?_
  refine lcase (i := 25) (a0 == 4) rfl (fun hb => ?_) (fun hb => ?_)
  ·have hm := ifB_t hb hm
   refine ls false rfl rfl rfl rfl ?_
   refine lp rfl (p_pkt rfl rfl) ?_
   refine lp rfl (p_mv rfl) ?_
   refine ls false rfl rfl rfl rfl ?_
   refine ls false rfl rfl rfl rfl ?_
   refine lp rfl (p_pkt rfl rfl) ?_
   refine lp rfl (p_mv rfl) ?_
   refine lp rfl (p_mv rfl) ?_
   refine lcase (i := 33) (a0 == 1) rfl (fun hb => ?_) (fun hb => ?_)
   ·have hm := ifB_t hb hm
    refine ls false rfl rfl rfl rfl ?_
    refine lp rfl (p_pkt rfl rfl) ?_
    refine lp rfl (p_mv rfl) ?_
    refine lp rfl (p_mv rfl) ?_
    refine lp rfl (p_eql rfl rfl) ?_
    refine lp rfl (p_bld [.bool true, .bool true, .bool true, .bool (a0 == 5), .bool (a0 == 7)] rfl (fun _ => by kernel_rfl)) ?_
    refine r_sb (vs := [.bool true, .bool true, .bool true, .bool (a0 == 5), .bool (a0 == 7)]) (j := 0) ty242 rfl rfl rfl rfl rfl rfl rfl ?_
    refine lj_seq ?_
    obtain rfl := Option.some.inj hm
    exact cj_rt () [] Tryz.results176 (.agg (k := 0) ty242 rfl rfl rfl .nil) rfl rfl
   ·have hm := ifB_f hb hm
    refine lg false rfl rfl rfl ?_
    refine lp rfl (p_mv rfl) ?_
    refine lp rfl (p_pkf rfl rfl) ?_
    refine lp rfl (p_mv rfl) ?_
    refine lp rfl (p_mv rfl) ?_
    refine lp rfl (p_eql rfl rfl) ?_
    refine lp rfl (p_bld [.bool true, .bool true, .bool (a0 == 3), .bool (a0 == 5), .bool (a0 == 7)] rfl (fun _ => by kernel_rfl)) ?_
    refine r_sb (vs := [.bool true, .bool true, .bool (a0 == 3), .bool (a0 == 5), .bool (a0 == 7)]) (j := 0) ty242 rfl rfl rfl rfl rfl rfl rfl ?_
    refine lj_seq ?_
    obtain rfl := Option.some.inj hm
    exact cj_rt () [] Tryz.results176 (.agg (k := 0) ty242 rfl rfl rfl .nil) rfl rfl
  ·have hm := ifB_f hb hm
   refine lg false rfl rfl rfl ?_
   refine lp rfl (p_mv rfl) ?_
   refine lp rfl (p_pkf rfl rfl) ?_
   refine lp rfl (p_mv rfl) ?_
   refine lcase (i := 28) (a0 == 5) rfl (fun hb => ?_) (fun hb => ?_)
   ·have hm := ifB_t hb hm
    refine ls false rfl rfl rfl rfl ?_
    refine ls false rfl rfl rfl rfl ?_
    refine lp rfl (p_pkt rfl rfl) ?_
    refine lp rfl (p_mv rfl) ?_
    refine lp rfl (p_mv rfl) ?_
    refine lcase (i := 33) (a0 == 1) rfl (fun hb => ?_) (fun hb => ?_)
    ·have hm := ifB_t hb hm
     refine ls false rfl rfl rfl rfl ?_
     refine lp rfl (p_pkt rfl rfl) ?_
     refine lp rfl (p_mv rfl) ?_
     refine lp rfl (p_mv rfl) ?_
     refine lp rfl (p_eql rfl rfl) ?_
     refine lp rfl (p_bld [.bool true, .bool true, .bool true, .bool (a0 == 5), .bool (a0 == 7)] rfl (fun _ => by kernel_rfl)) ?_
     refine r_sb (vs := [.bool true, .bool true, .bool true, .bool (a0 == 5), .bool (a0 == 7)]) (j := 0) ty242 rfl rfl rfl rfl rfl rfl rfl ?_
     refine lj_seq ?_
     obtain rfl := Option.some.inj hm
     exact cj_rt () [] Tryz.results176 (.agg (k := 0) ty242 rfl rfl rfl .nil) rfl rfl
    ·have hm := ifB_f hb hm
     refine lg false rfl rfl rfl ?_
     refine lp rfl (p_mv rfl) ?_
     refine lp rfl (p_pkf rfl rfl) ?_
     refine lp rfl (p_mv rfl) ?_
     refine lp rfl (p_mv rfl) ?_
     refine lp rfl (p_eql rfl rfl) ?_
     refine lp rfl (p_bld [.bool true, .bool true, .bool (a0 == 3), .bool (a0 == 5), .bool (a0 == 7)] rfl (fun _ => by kernel_rfl)) ?_
     refine r_sb (vs := [.bool true, .bool true, .bool (a0 == 3), .bool (a0 == 5), .bool (a0 == 7)]) (j := 0) ty242 rfl rfl rfl rfl rfl rfl rfl ?_
     refine lj_seq ?_
     obtain rfl := Option.some.inj hm
     exact cj_rt () [] Tryz.results176 (.agg (k := 0) ty242 rfl rfl rfl .nil) rfl rfl
   ·have hm := ifB_f hb hm
    refine lg false rfl rfl rfl ?_
    refine lp rfl (p_mv rfl) ?_
    refine lg false rfl rfl rfl ?_
    refine lp rfl (p_eql rfl rfl) ?_
    refine lp rfl (p_pkf rfl rfl) ?_
    refine lp rfl (p_mv rfl) ?_
    refine lp rfl (p_mv rfl) ?_
    refine lcase (i := 33) (a0 == 1) rfl (fun hb => ?_) (fun hb => ?_)
    ·have hm := ifB_t hb hm
     refine ls false rfl rfl rfl rfl ?_
     refine lp rfl (p_pkt rfl rfl) ?_
     refine lp rfl (p_mv rfl) ?_
     refine lp rfl (p_mv rfl) ?_
     refine lp rfl (p_eql rfl rfl) ?_
     refine lp rfl (p_bld [.bool true, .bool (a0 == 6), .bool true, .bool (a0 == 5), .bool (a0 == 7)] rfl (fun _ => by kernel_rfl)) ?_
     refine r_sb (vs := [.bool true, .bool (a0 == 6), .bool true, .bool (a0 == 5), .bool (a0 == 7)]) (j := 0) ty242 rfl rfl rfl rfl rfl rfl rfl ?_
     refine lj_seq ?_
     obtain rfl := Option.some.inj hm
     exact cj_rt () [] Tryz.results176 (.agg (k := 0) ty242 rfl rfl rfl .nil) rfl rfl
    ·have hm := ifB_f hb hm
     refine lg false rfl rfl rfl ?_
     refine lp rfl (p_mv rfl) ?_
     refine lp rfl (p_pkf rfl rfl) ?_
     refine lp rfl (p_mv rfl) ?_
     refine lp rfl (p_mv rfl) ?_
     refine lp rfl (p_eql rfl rfl) ?_
     refine lp rfl (p_bld [.bool true, .bool (a0 == 6), .bool (a0 == 3), .bool (a0 == 5), .bool (a0 == 7)] rfl (fun _ => by kernel_rfl)) ?_
     refine r_sb (vs := [.bool true, .bool (a0 == 6), .bool (a0 == 3), .bool (a0 == 5), .bool (a0 == 7)]) (j := 0) ty242 rfl rfl rfl rfl rfl rfl rfl ?_
     refine lj_seq ?_
     obtain rfl := Option.some.inj hm
     exact cj_rt () [] Tryz.results176 (.agg (k := 0) ty242 rfl rfl rfl .nil) rfl rfl
 ·have hm := ifB_f hb hm
  refine lg false rfl rfl rfl ?_
  refine lp rfl (p_mv rfl) ?_
  refine lg false rfl rfl rfl ?_
  refine lp rfl (p_eql rfl rfl) ?_
  refine lp rfl (p_pkf rfl rfl) ?_
  refine lp rfl (p_mv rfl) ?_
  refine lcase (i := 17) (a0 == 2) rfl (fun hb => ?_) (fun hb => ?_)
  ·have hm := ifB_t hb hm
   refine ls false rfl rfl rfl rfl ?_
   refine lp rfl (p_pkt rfl rfl) ?_
   refine lp rfl (p_mv rfl) ?_
   refine ls false rfl rfl rfl rfl ?_
   refine lp rfl (p_pkt rfl rfl) ?_
   refine lp rfl (p_mv rfl) ?_
   refine lp rfl (p_eql rfl rfl) ?_
   refine lp rfl (p_mv rfl) ?_
   refine lcase (i := 25) (a0 == 4) rfl (fun hb => ?_) (fun hb => ?_)
   ·have hm := ifB_t hb hm
    refine ls false rfl rfl rfl rfl ?_
    refine lp rfl (p_pkt rfl rfl) ?_
    refine lp rfl (p_mv rfl) ?_
    refine ls false rfl rfl rfl rfl ?_
    refine ls false rfl rfl rfl rfl ?_
    refine lp rfl (p_pkt rfl rfl) ?_
    refine lp rfl (p_mv rfl) ?_
    refine lp rfl (p_mv rfl) ?_
    refine lcase (i := 33) (a0 == 1) rfl (fun hb => ?_) (fun hb => ?_)
    ·have hm := ifB_t hb hm
     refine ls false rfl rfl rfl rfl ?_
     refine lp rfl (p_pkt rfl rfl) ?_
     refine lp rfl (p_mv rfl) ?_
     refine lp rfl (p_mv rfl) ?_
     refine lp rfl (p_eql rfl rfl) ?_
     refine lp rfl (p_bld [.bool true, .bool true, .bool true, .bool (a0 == 5), .bool (a0 == 7)] rfl (fun _ => by kernel_rfl)) ?_
     refine r_sb (vs := [.bool true, .bool true, .bool true, .bool (a0 == 5), .bool (a0 == 7)]) (j := 0) ty242 rfl rfl rfl rfl rfl rfl rfl ?_
     refine lj_seq ?_
     obtain rfl := Option.some.inj hm
     exact cj_rt () [] Tryz.results176 (.agg (k := 0) ty242 rfl rfl rfl .nil) rfl rfl
    ·have hm := ifB_f hb hm
     refine lg false rfl rfl rfl ?_
     refine lp rfl (p_mv rfl) ?_
     refine lp rfl (p_pkf rfl rfl) ?_
     refine lp rfl (p_mv rfl) ?_
     refine lp rfl (p_mv rfl) ?_
     refine lp rfl (p_eql rfl rfl) ?_
     refine lp rfl (p_bld [.bool true, .bool true, .bool (a0 == 3), .bool (a0 == 5), .bool (a0 == 7)] rfl (fun _ => by kernel_rfl)) ?_
     refine r_sb (vs := [.bool true, .bool true, .bool (a0 == 3), .bool (a0 == 5), .bool (a0 == 7)]) (j := 0) ty242 rfl rfl rfl rfl rfl rfl rfl ?_
     refine lj_seq ?_
     obtain rfl := Option.some.inj hm
     exact cj_rt () [] Tryz.results176 (.agg (k := 0) ty242 rfl rfl rfl .nil) rfl rfl
   ·have hm := ifB_f hb hm
    refine lg false rfl rfl rfl ?_
    refine lp rfl (p_mv rfl) ?_
    refine lp rfl (p_pkf rfl rfl) ?_
    refine lp rfl (p_mv rfl) ?_
    refine lcase (i := 28) (a0 == 5) rfl (fun hb => ?_) (fun hb => ?_)
    ·have hm := ifB_t hb hm
     refine ls false rfl rfl rfl rfl ?_
     refine ls false rfl rfl rfl rfl ?_
     refine lp rfl (p_pkt rfl rfl) ?_
     refine lp rfl (p_mv rfl) ?_
     refine lp rfl (p_mv rfl) ?_
     refine lcase (i := 33) (a0 == 1) rfl (fun hb => ?_) (fun hb => ?_)
     ·have hm := ifB_t hb hm
      refine ls false rfl rfl rfl rfl ?_
      refine lp rfl (p_pkt rfl rfl) ?_
      refine lp rfl (p_mv rfl) ?_
      refine lp rfl (p_mv rfl) ?_
      refine lp rfl (p_eql rfl rfl) ?_
      refine lp rfl (p_bld [.bool true, .bool true, .bool true, .bool (a0 == 5), .bool (a0 == 7)] rfl (fun _ => by kernel_rfl)) ?_
      refine r_sb (vs := [.bool true, .bool true, .bool true, .bool (a0 == 5), .bool (a0 == 7)]) (j := 0) ty242 rfl rfl rfl rfl rfl rfl rfl ?_
      refine lj_seq ?_
      obtain rfl := Option.some.inj hm
      exact cj_rt () [] Tryz.results176 (.agg (k := 0) ty242 rfl rfl rfl .nil) rfl rfl
     ·have hm := ifB_f hb hm
      refine lg false rfl rfl rfl ?_
      refine lp rfl (p_mv rfl) ?_
      refine lp rfl (p_pkf rfl rfl) ?_
      refine lp rfl (p_mv rfl) ?_
      refine lp rfl (p_mv rfl) ?_
      refine lp rfl (p_eql rfl rfl) ?_
      refine lp rfl (p_bld [.bool true, .bool true, .bool (a0 == 3), .bool (a0 == 5), .bool (a0 == 7)] rfl (fun _ => by kernel_rfl)) ?_
      refine r_sb (vs := [.bool true, .bool true, .bool (a0 == 3), .bool (a0 == 5), .bool (a0 == 7)]) (j := 0) ty242 rfl rfl rfl rfl rfl rfl rfl ?_
      refine lj_seq ?_
      obtain rfl := Option.some.inj hm
      exact cj_rt () [] Tryz.results176 (.agg (k := 0) ty242 rfl rfl rfl .nil) rfl rfl
    ·have hm := ifB_f hb hm
     refine lg false rfl rfl rfl ?_
     refine lp rfl (p_mv rfl) ?_
     refine lg false rfl rfl rfl ?_
     refine lp rfl (p_eql rfl rfl) ?_
     refine lp rfl (p_pkf rfl rfl) ?_
     refine lp rfl (p_mv rfl) ?_
     refine lp rfl (p_mv rfl) ?_
     refine lcase (i := 33) (a0 == 1) rfl (fun hb => ?_) (fun hb => ?_)
     ·have hm := ifB_t hb hm
      refine ls false rfl rfl rfl rfl ?_
      refine lp rfl (p_pkt rfl rfl) ?_
      refine lp rfl (p_mv rfl) ?_
      refine lp rfl (p_mv rfl) ?_
      refine lp rfl (p_eql rfl rfl) ?_
      refine lp rfl (p_bld [.bool true, .bool (a0 == 6), .bool true, .bool (a0 == 5), .bool (a0 == 7)] rfl (fun _ => by kernel_rfl)) ?_
      refine r_sb (vs := [.bool true, .bool (a0 == 6), .bool true, .bool (a0 == 5), .bool (a0 == 7)]) (j := 0) ty242 rfl rfl rfl rfl rfl rfl rfl ?_
      refine lj_seq ?_
      obtain rfl := Option.some.inj hm
      exact cj_rt () [] Tryz.results176 (.agg (k := 0) ty242 rfl rfl rfl .nil) rfl rfl
     ·have hm := ifB_f hb hm
      refine lg false rfl rfl rfl ?_
      refine lp rfl (p_mv rfl) ?_
      refine lp rfl (p_pkf rfl rfl) ?_
      refine lp rfl (p_mv rfl) ?_
      refine lp rfl (p_mv rfl) ?_
      refine lp rfl (p_eql rfl rfl) ?_
      refine lp rfl (p_bld [.bool true, .bool (a0 == 6), .bool (a0 == 3), .bool (a0 == 5), .bool (a0 == 7)] rfl (fun _ => by kernel_rfl)) ?_
      refine r_sb (vs := [.bool true, .bool (a0 == 6), .bool (a0 == 3), .bool (a0 == 5), .bool (a0 == 7)]) (j := 0) ty242 rfl rfl rfl rfl rfl rfl rfl ?_
      refine lj_seq ?_
      obtain rfl := Option.some.inj hm
      exact cj_rt () [] Tryz.results176 (.agg (k := 0) ty242 rfl rfl rfl .nil) rfl rfl
  ·have hm := ifB_f hb hm
   refine lg false rfl rfl rfl ?_
   refine lp rfl (p_mv rfl) ?_
   refine lp rfl (p_pkf rfl rfl) ?_
   refine lp rfl (p_mv rfl) ?_
   refine lcase (i := 20) (a0 == 3) rfl (fun hb => ?_) (fun hb => ?_)
   ·have hm := ifB_t hb hm
    refine ls false rfl rfl rfl rfl ?_
    refine lp rfl (p_pkt rfl rfl) ?_
    refine lp rfl (p_mv rfl) ?_
    refine lp rfl (p_eql rfl rfl) ?_
    refine lp rfl (p_mv rfl) ?_
    refine lcase (i := 25) (a0 == 4) rfl (fun hb => ?_) (fun hb => ?_)
    ·have hm := ifB_t hb hm
     refine ls false rfl rfl rfl rfl ?_
     refine lp rfl (p_pkt rfl rfl) ?_
     refine lp rfl (p_mv rfl) ?_
     refine ls false rfl rfl rfl rfl ?_
     refine ls false rfl rfl rfl rfl ?_
     refine lp rfl (p_pkt rfl rfl) ?_
     refine lp rfl (p_mv rfl) ?_
     refine lp rfl (p_mv rfl) ?_
     refine lcase (i := 33) (a0 == 1) rfl (fun hb => ?_) (fun hb => ?_)
     ·have hm := ifB_t hb hm
      refine ls false rfl rfl rfl rfl ?_
      refine lp rfl (p_pkt rfl rfl) ?_
      refine lp rfl (p_mv rfl) ?_
      refine lp rfl (p_mv rfl) ?_
      refine lp rfl (p_eql rfl rfl) ?_
      refine lp rfl (p_bld [.bool true, .bool true, .bool true, .bool (a0 == 5), .bool (a0 == 7)] rfl (fun _ => by kernel_rfl)) ?_
      refine r_sb (vs := [.bool true, .bool true, .bool true, .bool (a0 == 5), .bool (a0 == 7)]) (j := 0) ty242 rfl rfl rfl rfl rfl rfl rfl ?_
      refine lj_seq ?_
      obtain rfl := Option.some.inj hm
      exact cj_rt () [] Tryz.results176 (.agg (k := 0) ty242 rfl rfl rfl .nil) rfl rfl
     ·have hm := ifB_f hb hm
      refine lg false rfl rfl rfl ?_
      refine lp rfl (p_mv rfl) ?_
      refine lp rfl (p_pkf rfl rfl) ?_
      refine lp rfl (p_mv rfl) ?_
      refine lp rfl (p_mv rfl) ?_
      refine lp rfl (p_eql rfl rfl) ?_
      refine lp rfl (p_bld [.bool true, .bool true, .bool (a0 == 3), .bool (a0 == 5), .bool (a0 == 7)] rfl (fun _ => by kernel_rfl)) ?_
      refine r_sb (vs := [.bool true, .bool true, .bool (a0 == 3), .bool (a0 == 5), .bool (a0 == 7)]) (j := 0) ty242 rfl rfl rfl rfl rfl rfl rfl ?_
      refine lj_seq ?_
      obtain rfl := Option.some.inj hm
      exact cj_rt () [] Tryz.results176 (.agg (k := 0) ty242 rfl rfl rfl .nil) rfl rfl
    ·have hm := ifB_f hb hm
     refine lg false rfl rfl rfl ?_
     refine lp rfl (p_mv rfl) ?_
     refine lp rfl (p_pkf rfl rfl) ?_
     refine lp rfl (p_mv rfl) ?_
     refine lcase (i := 28) (a0 == 5) rfl (fun hb => ?_) (fun hb => ?_)
     ·have hm := ifB_t hb hm
      refine ls false rfl rfl rfl rfl ?_
      refine ls false rfl rfl rfl rfl ?_
      refine lp rfl (p_pkt rfl rfl) ?_
      refine lp rfl (p_mv rfl) ?_
      refine lp rfl (p_mv rfl) ?_
      refine lcase (i := 33) (a0 == 1) rfl (fun hb => ?_) (fun hb => ?_)
      ·have hm := ifB_t hb hm
       refine ls false rfl rfl rfl rfl ?_
       refine lp rfl (p_pkt rfl rfl) ?_
       refine lp rfl (p_mv rfl) ?_
       refine lp rfl (p_mv rfl) ?_
       refine lp rfl (p_eql rfl rfl) ?_
       refine lp rfl (p_bld [.bool true, .bool true, .bool true, .bool (a0 == 5), .bool (a0 == 7)] rfl (fun _ => by kernel_rfl)) ?_
       refine r_sb (vs := [.bool true, .bool true, .bool true, .bool (a0 == 5), .bool (a0 == 7)]) (j := 0) ty242 rfl rfl rfl rfl rfl rfl rfl ?_
       refine lj_seq ?_
       obtain rfl := Option.some.inj hm
       exact cj_rt () [] Tryz.results176 (.agg (k := 0) ty242 rfl rfl rfl .nil) rfl rfl
      ·have hm := ifB_f hb hm
       refine lg false rfl rfl rfl ?_
       refine lp rfl (p_mv rfl) ?_
       refine lp rfl (p_pkf rfl rfl) ?_
       refine lp rfl (p_mv rfl) ?_
       refine lp rfl (p_mv rfl) ?_
       refine lp rfl (p_eql rfl rfl) ?_
       refine lp rfl (p_bld [.bool true, .bool true, .bool (a0 == 3), .bool (a0 == 5), .bool (a0 == 7)] rfl (fun _ => by kernel_rfl)) ?_
       refine r_sb (vs := [.bool true, .bool true, .bool (a0 == 3), .bool (a0 == 5), .bool (a0 == 7)]) (j := 0) ty242 rfl rfl rfl rfl rfl rfl rfl ?_
       refine lj_seq ?_
       obtain rfl := Option.some.inj hm
       exact cj_rt () [] Tryz.results176 (.agg (k := 0) ty242 rfl rfl rfl .nil) rfl rfl
     ·have hm := ifB_f hb hm
      refine lg false rfl rfl rfl ?_
      refine lp rfl (p_mv rfl) ?_
      refine lg false rfl rfl rfl ?_
      refine lp rfl (p_eql rfl rfl) ?_
      refine lp rfl (p_pkf rfl rfl) ?_
      refine lp rfl (p_mv rfl) ?_
      refine lp rfl (p_mv rfl) ?_
      refine lcase (i := 33) (a0 == 1) rfl (fun hb => ?_) (fun hb => ?_)
      ·have hm := ifB_t hb hm
       refine ls false rfl rfl rfl rfl ?_
       refine lp rfl (p_pkt rfl rfl) ?_
       refine lp rfl (p_mv rfl) ?_
       refine lp rfl (p_mv rfl) ?_
       refine lp rfl (p_eql rfl rfl) ?_
       refine lp rfl (p_bld [.bool true, .bool (a0 == 6), .bool true, .bool (a0 == 5), .bool (a0 == 7)] rfl (fun _ => by kernel_rfl)) ?_
       refine r_sb (vs := [.bool true, .bool (a0 == 6), .bool true, .bool (a0 == 5), .bool (a0 == 7)]) (j := 0) ty242 rfl rfl rfl rfl rfl rfl rfl ?_
       refine lj_seq ?_
       obtain rfl := Option.some.inj hm
       exact cj_rt () [] Tryz.results176 (.agg (k := 0) ty242 rfl rfl rfl .nil) rfl rfl
      ·have hm := ifB_f hb hm
       refine lg false rfl rfl rfl ?_
       refine lp rfl (p_mv rfl) ?_
       refine lp rfl (p_pkf rfl rfl) ?_
       refine lp rfl (p_mv rfl) ?_
       refine lp rfl (p_mv rfl) ?_
       refine lp rfl (p_eql rfl rfl) ?_
       refine lp rfl (p_bld [.bool true, .bool (a0 == 6), .bool (a0 == 3), .bool (a0 == 5), .bool (a0 == 7)] rfl (fun _ => by kernel_rfl)) ?_
       refine r_sb (vs := [.bool true, .bool (a0 == 6), .bool (a0 == 3), .bool (a0 == 5), .bool (a0 == 7)]) (j := 0) ty242 rfl rfl rfl rfl rfl rfl rfl ?_
       refine lj_seq ?_
       obtain rfl := Option.some.inj hm
       exact cj_rt () [] Tryz.results176 (.agg (k := 0) ty242 rfl rfl rfl .nil) rfl rfl
   ·have hm := ifB_f hb hm
    refine lg false rfl rfl rfl ?_
    refine lp rfl (p_mv rfl) ?_
    refine lp rfl (p_pkf rfl rfl) ?_
    refine lp rfl (p_mv rfl) ?_
    refine lp rfl (p_eql rfl rfl) ?_
    refine lp rfl (p_mv rfl) ?_
    refine lcase (i := 25) (a0 == 4) rfl (fun hb => ?_) (fun hb => ?_)
    ·have hm := ifB_t hb hm
     refine ls false rfl rfl rfl rfl ?_
     refine lp rfl (p_pkt rfl rfl) ?_
     refine lp rfl (p_mv rfl) ?_
     refine ls false rfl rfl rfl rfl ?_
     refine ls false rfl rfl rfl rfl ?_
     refine lp rfl (p_pkt rfl rfl) ?_
     refine lp rfl (p_mv rfl) ?_
     refine lp rfl (p_mv rfl) ?_
     refine lcase (i := 33) (a0 == 1) rfl (fun hb => ?_) (fun hb => ?_)
     ·have hm := ifB_t hb hm
      refine ls false rfl rfl rfl rfl ?_
      refine lp rfl (p_pkt rfl rfl) ?_
      refine lp rfl (p_mv rfl) ?_
      refine lp rfl (p_mv rfl) ?_
      refine lp rfl (p_eql rfl rfl) ?_
      refine lp rfl (p_bld [.bool (a0 == 5), .bool true, .bool true, .bool (a0 == 5), .bool (a0 == 7)] rfl (fun _ => by kernel_rfl)) ?_
      refine r_sb (vs := [.bool (a0 == 5), .bool true, .bool true, .bool (a0 == 5), .bool (a0 == 7)]) (j := 0) ty242 rfl rfl rfl rfl rfl rfl rfl ?_
      refine lj_seq ?_
      obtain rfl := Option.some.inj hm
      exact cj_rt () [] Tryz.results176 (.agg (k := 0) ty242 rfl rfl rfl .nil) rfl rfl
     ·have hm := ifB_f hb hm
      refine lg false rfl rfl rfl ?_
      refine lp rfl (p_mv rfl) ?_
      refine lp rfl (p_pkf rfl rfl) ?_
      refine lp rfl (p_mv rfl) ?_
      refine lp rfl (p_mv rfl) ?_
      refine lp rfl (p_eql rfl rfl) ?_
      refine lp rfl (p_bld [.bool (a0 == 5), .bool true, .bool (a0 == 3), .bool (a0 == 5), .bool (a0 == 7)] rfl (fun _ => by kernel_rfl)) ?_
      refine r_sb (vs := [.bool (a0 == 5), .bool true, .bool (a0 == 3), .bool (a0 == 5), .bool (a0 == 7)]) (j := 0) ty242 rfl rfl rfl rfl rfl rfl rfl ?_
      refine lj_seq ?_
      obtain rfl := Option.some.inj hm
      exact cj_rt () [] Tryz.results176 (.agg (k := 0) ty242 rfl rfl rfl .nil) rfl rfl
    ·have hm := ifB_f hb hm
     refine lg false rfl rfl rfl ?_
     refine lp rfl (p_mv rfl) ?_
     refine lp rfl (p_pkf rfl rfl) ?_
     refine lp rfl (p_mv rfl) ?_
     refine lcase (i := 28) (a0 == 5) rfl (fun hb => ?_) (fun hb => ?_)
     ·have hm := ifB_t hb hm
      refine ls false rfl rfl rfl rfl ?_
      refine ls false rfl rfl rfl rfl ?_
      refine lp rfl (p_pkt rfl rfl) ?_
      refine lp rfl (p_mv rfl) ?_
      refine lp rfl (p_mv rfl) ?_
      refine lcase (i := 33) (a0 == 1) rfl (fun hb => ?_) (fun hb => ?_)
      ·have hm := ifB_t hb hm
       refine ls false rfl rfl rfl rfl ?_
       refine lp rfl (p_pkt rfl rfl) ?_
       refine lp rfl (p_mv rfl) ?_
       refine lp rfl (p_mv rfl) ?_
       refine lp rfl (p_eql rfl rfl) ?_
       refine lp rfl (p_bld [.bool (a0 == 5), .bool true, .bool true, .bool (a0 == 5), .bool (a0 == 7)] rfl (fun _ => by kernel_rfl)) ?_
       refine r_sb (vs := [.bool (a0 == 5), .bool true, .bool true, .bool (a0 == 5), .bool (a0 == 7)]) (j := 0) ty242 rfl rfl rfl rfl rfl rfl rfl ?_
       refine lj_seq ?_
       obtain rfl := Option.some.inj hm
       exact cj_rt () [] Tryz.results176 (.agg (k := 0) ty242 rfl rfl rfl .nil) rfl rfl
      ·have hm := ifB_f hb hm
       refine lg false rfl rfl rfl ?_
       refine lp rfl (p_mv rfl) ?_
       refine lp rfl (p_pkf rfl rfl) ?_
       refine lp rfl (p_mv rfl) ?_
       refine lp rfl (p_mv rfl) ?_
       refine lp rfl (p_eql rfl rfl) ?_
       refine lp rfl (p_bld [.bool (a0 == 5), .bool true, .bool (a0 == 3), .bool (a0 == 5), .bool (a0 == 7)] rfl (fun _ => by kernel_rfl)) ?_
       refine r_sb (vs := [.bool (a0 == 5), .bool true, .bool (a0 == 3), .bool (a0 == 5), .bool (a0 == 7)]) (j := 0) ty242 rfl rfl rfl rfl rfl rfl rfl ?_
       refine lj_seq ?_
       obtain rfl := Option.some.inj hm
       exact cj_rt () [] Tryz.results176 (.agg (k := 0) ty242 rfl rfl rfl .nil) rfl rfl
     ·have hm := ifB_f hb hm
      refine lg false rfl rfl rfl ?_
      refine lp rfl (p_mv rfl) ?_
      refine lg false rfl rfl rfl ?_
      refine lp rfl (p_eql rfl rfl) ?_
      refine lp rfl (p_pkf rfl rfl) ?_
      refine lp rfl (p_mv rfl) ?_
      refine lp rfl (p_mv rfl) ?_
      refine lcase (i := 33) (a0 == 1) rfl (fun hb => ?_) (fun hb => ?_)
      ·have hm := ifB_t hb hm
       refine ls false rfl rfl rfl rfl ?_
       refine lp rfl (p_pkt rfl rfl) ?_
       refine lp rfl (p_mv rfl) ?_
       refine lp rfl (p_mv rfl) ?_
       refine lp rfl (p_eql rfl rfl) ?_
       refine lp rfl (p_bld [.bool (a0 == 5), .bool (a0 == 6), .bool true, .bool (a0 == 5), .bool (a0 == 7)] rfl (fun _ => by kernel_rfl)) ?_
       refine r_sb (vs := [.bool (a0 == 5), .bool (a0 == 6), .bool true, .bool (a0 == 5), .bool (a0 == 7)]) (j := 0) ty242 rfl rfl rfl rfl rfl rfl rfl ?_
       refine lj_seq ?_
       obtain rfl := Option.some.inj hm
       exact cj_rt () [] Tryz.results176 (.agg (k := 0) ty242 rfl rfl rfl .nil) rfl rfl
      ·have hm := ifB_f hb hm
       refine lg false rfl rfl rfl ?_
       refine lp rfl (p_mv rfl) ?_
       refine lp rfl (p_pkf rfl rfl) ?_
       refine lp rfl (p_mv rfl) ?_
       refine lp rfl (p_mv rfl) ?_
       refine lp rfl (p_eql rfl rfl) ?_
       refine lp rfl (p_bld [.bool (a0 == 5), .bool (a0 == 6), .bool (a0 == 3), .bool (a0 == 5), .bool (a0 == 7)] rfl (fun _ => by kernel_rfl)) ?_
       refine r_sb (vs := [.bool (a0 == 5), .bool (a0 == 6), .bool (a0 == 3), .bool (a0 == 5), .bool (a0 == 7)]) (j := 0) ty242 rfl rfl rfl rfl rfl rfl rfl ?_
       refine lj_seq ?_
       obtain rfl := Option.some.inj hm
       exact cj_rt () [] Tryz.results176 (.agg (k := 0) ty242 rfl rfl rfl .nil) rfl rfl
end Go.Proofs.YtdeoejkgmeemaagGreatDoor
