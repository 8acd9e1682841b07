/- The walks. Written by program. -/
import Derived.Test.YtndkkkgkmeijlaaDoorD
import Derived.Test.YtndkkkgkmeijlaaDoorXH
namespace Go.Proofs.YtndkkkgkmeijlaaDoor
open Go Go.J Go.G
set_option maxRecDepth 100000
set_option linter.unusedVariables false
theorem ok_gleemake_Below (a0 : Int) (a1 : Int) {r : Int} (hm : m_gleemake_Below a0 a1 = some r) :
    Ctr Tryd.prog 120 [.int .i64 a0, .int .i64 a1].toArray ([] : List Ent) [] (X := Unit) (fun _ => .int .i64 r) (fun _ => []) := by
  unfold m_gleemake_Below at hm
  refine ctr_mk (vs := [(0, .int .i64 a0), (1, .int .i64 a1)]) Tryd.func120 rfl Tryd.ntmps120 rfl ⟨rfl, rfl, trivial⟩ (fun w0 A => ?_)
  refine cj_seq ?_
  refine cj_reg ?_
  refine lp rfl (p_as rfl) ?_
  refine lj_seq ?_
  refine cj_seq ?_
  refine cj_seq ?_
  refine cj_reg ?_
  refine lp rfl (p_mv rfl) ?_
  refine lp rfl (p_lss rfl rfl) ?_
  refine lj_seq ?_
  refine cj_if (b := decide (a1 < 1)) rfl (fun hb => ?_) (fun hb => ?_)
  · have hm := ifB_t hb hm
    refine cj_seq ?_
    refine cj_reg ?_
    refine lp rfl (p_as rfl) ?_
    refine lj_seq ?_
    obtain rfl := Option.some.inj hm
    exact cj_rt () [] Tryd.results120 (.tmp rfl .nil) rfl rfl
  · have hm := ifB_f hb hm
    refine cj_skip ?_
    refine nj_seq ?_
    refine cj_seq ?_
    refine cj_reg ?_
    refine lp rfl (p_mv rfl) ?_
    refine lp rfl (p_mv rfl) ?_
    obtain ⟨z1, hz1, hm⟩ := bindS hm
    refine lp rfl (p_remM hz1 rfl rfl) ?_
    refine lp rfl (p_as rfl) ?_
    refine lj_seq ?_
    refine cj_seq ?_
    refine cj_seq ?_
    refine cj_reg ?_
    refine lp rfl (p_mv rfl) ?_
    refine lp rfl (p_lss rfl rfl) ?_
    refine lj_seq ?_
    refine cj_if (b := decide (z1 < 0)) rfl (fun hb => ?_) (fun hb => ?_)
    · have hm := ifB_t hb hm
      refine cj_reg ?_
      refine lp rfl (p_mv rfl) ?_
      refine lp rfl (p_mv rfl) ?_
      refine lp rfl (p_add rfl rfl) ?_
      refine lp rfl (p_as rfl) ?_
      refine lj_seq ?_
      refine cj_seq ?_
      refine cj_reg ?_
      refine lp rfl (p_mv rfl) ?_
      refine lp rfl (p_as rfl) ?_
      refine lj_seq ?_
      obtain rfl := Option.some.inj hm
      exact cj_rt () [] Tryd.results120 (.tmp rfl .nil) rfl rfl
    · have hm := ifB_f hb hm
      refine cj_skip ?_
      refine nj_seq ?_
      refine cj_seq ?_
      refine cj_reg ?_
      refine lp rfl (p_mv rfl) ?_
      refine lp rfl (p_as rfl) ?_
      refine lj_seq ?_
      obtain rfl := Option.some.inj hm
      exact cj_rt () [] Tryd.results120 (.tmp rfl .nil) rfl rfl
theorem ok_gleemake_Stream_Next (b0_ : Nat) (s0_0_ : SV) (a0_0 : (List Int)) (a0_1 : Int) (a1 : Int) {r : Int × Int} (hm : m_gleemake_Stream_Next a0_0 a0_1 a1 = some r) :
    Ctr Tryd.prog 63 [.pointer (some ⟨b0_, 0, none⟩), .int .i64 a1].toArray [.box b0_ 25 [s0_0_.v, .int .i64 a0_1]] [RdS R3 (SV.v s0_0_) a0_0] (X := Unit) (fun _ => .int .i64 r.1) (fun _ => [.box b0_ 25 [s0_0_.v, .int .i64 r.2]]) := by
  unfold m_gleemake_Stream_Next at hm
  refine ctr_mk (vs := [(0, .pointer (some ⟨b0_, 0, none⟩)), (1, .int .i64 a1)]) Tryd.func63 rfl Tryd.ntmps63 rfl ⟨rfl, rfl, trivial⟩ (fun w0 A => ?_)
  refine cj_seq ?_
  refine cj_reg ?_
  refine lp rfl (p_as rfl) ?_
  refine lj_seq ?_
  refine cj_seq ?_
  refine cj_reg ?_
  refine lp rfl (p_mv rfl) ?_
  refine lp rfl (p_nc rfl) ?_
  refine lp rfl (p_fab fl25_1 rfl) ?_
  refine lp rfl (p_lbs ty3 rfl (j := 0) rfl rfl) ?_
  refine lp rfl (p_add rfl rfl) ?_
  refine lp rfl (p_nc rfl) ?_
  refine lp rfl (p_fab fl25_1 rfl) ?_
  refine r_sb (vs := [.int .i64 (w64 (a0_1 + 1))]) (j := 0) ty3 rfl rfl rfl rfl rfl rfl rfl ?_
  refine lj_seq ?_
  refine cj_seq ?_
  refine cj_seq ?_
  refine cj_reg ?_
  refine lp rfl (p_mv rfl) ?_
  refine lp rfl (p_nc rfl) ?_
  refine lp rfl (p_fab fl25_0 rfl) ?_
  refine lp rfl (p_lbs ty22 rfl (j := 0) rfl rfl) ?_
  refine lp rfl (p_len Tryd.underlying22 rfl (.ro 1 rfl)) ?_
  refine lp rfl (p_eql rfl rfl) ?_
  refine lj_seq ?_
  refine cj_if (b := (a0_0.length : Int) == 0) rfl (fun hb => ?_) (fun hb => ?_)
  · have hm := ifB_t hb hm
    refine cj_seq ?_
    refine cj_reg ?_
    refine lp rfl (p_mv rfl) ?_
    refine lp rfl (p_nc rfl) ?_
    refine lp rfl (p_fab fl25_1 rfl) ?_
    refine lp rfl (p_lbs ty3 rfl (j := 0) rfl rfl) ?_
    refine lp rfl (p_mul rfl rfl) ?_
    refine lp rfl (p_mv rfl) ?_
    obtain ⟨y1, hy1, hm⟩ := bindS hm
    refine r_call [] cf120 rfl rfl (ok_gleemake_Below (w64 ((w64 (a0_1 + 1)) * 7919)) a1 hy1) rfl rfl .nil (fun _ => rfl) rfl (fun _ => ?_)
    refine lp rfl (p_as rfl) ?_
    refine lj_seq ?_
    obtain rfl := Option.some.inj hm
    exact cj_rt () [0] Tryd.results63 (.tmp rfl .nil) rfl rfl
  · have hm := ifB_f hb hm
    refine cj_skip ?_
    refine nj_seq ?_
    refine cj_seq ?_
    refine cj_quiet (by kernel_rfl) (by kernel_rfl) ?_
    refine q_p rfl (p_mv rfl) ?_
    refine q_p rfl (p_nc rfl) ?_
    refine q_p rfl (p_fab fl25_1 rfl) ?_
    refine q_p rfl (p_lbs ty3 rfl (j := 0) rfl rfl) ?_
    refine q_p rfl (p_sub rfl rfl) ?_
    refine q_p rfl (p_mv rfl) ?_
    refine q_p rfl (p_nc rfl) ?_
    refine q_p rfl (p_fab fl25_0 rfl) ?_
    refine q_p rfl (p_lbs ty22 rfl (j := 0) rfl rfl) ?_
    refine q_p rfl (p_len Tryd.underlying22 rfl (.ro 1 rfl)) ?_
    obtain ⟨z2, hz2, hm⟩ := bindS hm
    refine q_p rfl (p_remM hz2 rfl rfl) ?_
    refine q_p rfl (p_as rfl) ?_
    refine q_nil ?_
    refine nj_seq ?_
    refine cj_seq ?_
    refine cj_quiet (by kernel_rfl) (by kernel_rfl) ?_
    refine q_p rfl (p_mv rfl) ?_
    refine q_p rfl (p_nc rfl) ?_
    refine q_p rfl (p_fab fl25_1 rfl) ?_
    refine q_p rfl (p_lbs ty3 rfl (j := 0) rfl rfl) ?_
    refine q_p rfl (p_sub rfl rfl) ?_
    refine q_p rfl (p_mv rfl) ?_
    refine q_p rfl (p_nc rfl) ?_
    refine q_p rfl (p_fab fl25_0 rfl) ?_
    refine q_p rfl (p_lbs ty22 rfl (j := 0) rfl rfl) ?_
    refine q_p rfl (p_len Tryd.underlying22 rfl (.ro 1 rfl)) ?_
    obtain ⟨z3, hz3, hm⟩ := bindS hm
    refine q_p rfl (p_quoM hz3 rfl rfl) ?_
    refine q_p rfl (p_as rfl) ?_
    refine q_nil ?_
    refine nj_seq ?_
    refine cj_seq ?_
    refine cj_reg ?_
    refine lp rfl (p_mv rfl) ?_
    refine lp rfl (p_nc rfl) ?_
    refine lp rfl (p_fab fl25_0 rfl) ?_
    refine lp rfl (p_lbs ty22 rfl (j := 0) rfl rfl) ?_
    refine lp rfl (p_mv rfl) ?_
    obtain ⟨e4, he4, hm⟩ := bindS hm
    refine lp rfl (p_idx Tryd.underlying22 ty3 rfl rfl (.ro 1 rfl) he4) ?_
    refine lp rfl (p_lde (o := 0) ty3 rfl rfl (.ro 1 rfl) (getI_spec he4).2 rfl) ?_
    obtain ⟨y5, hy5, hm⟩ := bindS hm
    refine r_call [] cf120 rfl rfl (ok_gleemake_Below e4 1073741824 hy5) rfl rfl .nil (fun _ => rfl) rfl (fun _ => ?_)
    refine lp rfl (p_mv rfl) ?_
    refine lp rfl (p_mv rfl) ?_
    refine lp rfl (p_add rfl rfl) ?_
    refine lp rfl (p_mul rfl rfl) ?_
    refine lp rfl (p_add rfl rfl) ?_
    refine lp rfl (p_mv rfl) ?_
    obtain ⟨y6, hy6, hm⟩ := bindS hm
    refine r_call [] cf120 rfl rfl (ok_gleemake_Below (w64 (y5 + (w64 (z3 * (w64 (7919 + z2)))))) a1 hy6) rfl rfl .nil (fun _ => rfl) rfl (fun _ => ?_)
    refine lp rfl (p_as rfl) ?_
    refine lj_seq ?_
    obtain rfl := Option.some.inj hm
    exact cj_rt () [0] Tryd.results63 (.tmp rfl .nil) rfl rfl
theorem ok_gleemake_Stream_Range (b0_ : Nat) (s0_0_ : SV) (a0_0 : (List Int)) (a0_1 : Int) (a1 : Int) (a2 : Int) {r : Int × Int} (hm : m_gleemake_Stream_Range a0_0 a0_1 a1 a2 = some r) :
    Ctr Tryd.prog 12 [.pointer (some ⟨b0_, 0, none⟩), .int .i64 a1, .int .i64 a2].toArray [.box b0_ 25 [s0_0_.v, .int .i64 a0_1]] [RdS R3 (SV.v s0_0_) a0_0] (X := Unit) (fun _ => .int .i64 r.1) (fun _ => [.box b0_ 25 [s0_0_.v, .int .i64 r.2]]) := by
  unfold m_gleemake_Stream_Range at hm
  refine ctr_mk (vs := [(0, .pointer (some ⟨b0_, 0, none⟩)), (1, .int .i64 a1), (2, .int .i64 a2)]) Tryd.func12 rfl Tryd.ntmps12 rfl ⟨rfl, rfl, rfl, trivial⟩ (fun w0 A => ?_)
  refine cj_seq ?_
  refine cj_reg ?_
  refine lp rfl (p_as rfl) ?_
  refine lj_seq ?_
  refine cj_seq ?_
  refine cj_seq ?_
  refine cj_reg ?_
  refine lp rfl (p_mv rfl) ?_
  refine lp rfl (p_mv rfl) ?_
  refine lp rfl (p_lss rfl rfl) ?_
  refine lj_seq ?_
  refine cj_if (b := decide (a2 < a1)) rfl (fun hb => ?_) (fun hb => ?_)
  · have hm := ifB_t hb hm
    refine cj_seq ?_
    refine cj_reg ?_
    refine lp rfl (p_mv rfl) ?_
    refine lp rfl (p_as rfl) ?_
    refine lj_seq ?_
    obtain rfl := Option.some.inj hm
    exact cj_rt () [0] Tryd.results12 (.tmp rfl .nil) rfl rfl
  · have hm := ifB_f hb hm
    refine cj_skip ?_
    refine nj_seq ?_
    refine cj_seq ?_
    refine cj_reg ?_
    refine lp rfl (p_mv rfl) ?_
    refine lp rfl (p_mv rfl) ?_
    refine lp rfl (p_mv rfl) ?_
    refine lp rfl (p_mv rfl) ?_
    refine lp rfl (p_sub rfl rfl) ?_
    refine lp rfl (p_add rfl rfl) ?_
    obtain ⟨y1, hy1, hm⟩ := bindS hm
    refine r_call [0] cf63 rfl rfl (ok_gleemake_Stream_Next b0_ s0_0_ a0_0 a0_1 (w64 ((w64 (a2 - a1)) + 1)) hy1) rfl rfl (.cons (.ro 0 rfl) .nil) (fun _ => rfl) rfl (fun _ => ?_)
    refine lp rfl (p_add rfl rfl) ?_
    refine lp rfl (p_as rfl) ?_
    refine lj_seq ?_
    obtain rfl := Option.some.inj hm
    exact cj_rt () [0] Tryd.results12 (.tmp rfl .nil) rfl rfl
theorem ok_gleeref2_kindTones (a0 : Int) {r : (List Int)} (hm : m_gleeref2_kindTones a0 = some r) :
    Ctr Tryd.prog 78 [.int .i64 a0].toArray ([] : List Ent) [] (X := SV) (fun s => s.v) (fun s => [.ro (RdS R3 (SV.v s) r)]) := by
  unfold m_gleeref2_kindTones at hm
  refine ctr_mk (vs := [(0, .int .i64 a0)]) Tryd.func78 rfl Tryd.ntmps78 rfl ⟨rfl, trivial⟩ (fun w0 A => ?_)
  refine cj_seq ?_
  refine cj_reg ?_
  refine lp rfl (p_as rfl) ?_
  refine lj_seq ?_
  refine cj_seq ?_
  refine cj_reg ?_
  refine r_bs R3 [0, 4, 7] rfl rfl rfl (fun _ => by kernel_rfl) rfl (fun s1 => ?_)
  refine r_bs R3 [0, 3, 7] rfl rfl rfl (fun _ => by kernel_rfl) rfl (fun s2 => ?_)
  refine r_bs R3 [0, 3, 6] rfl rfl rfl (fun _ => by kernel_rfl) rfl (fun s3 => ?_)
  refine r_bs R3 [0, 4, 8] rfl rfl rfl (fun _ => by kernel_rfl) rfl (fun s4 => ?_)
  refine r_bs R3 [0, 4, 7, 10] rfl rfl rfl (fun _ => by kernel_rfl) rfl (fun s5 => ?_)
  refine r_bs R3 [0, 4, 7, 11] rfl rfl rfl (fun _ => by kernel_rfl) rfl (fun s6 => ?_)
  refine r_bs R3 [0, 3, 7, 10] rfl rfl rfl (fun _ => by kernel_rfl) rfl (fun s7 => ?_)
  refine r_fz 6 rfl ?_
  refine r_fz 6 rfl ?_
  refine r_fz 6 rfl ?_
  refine r_fz 6 rfl ?_
  refine r_fz 6 rfl ?_
  refine r_fz 6 rfl ?_
  refine r_fz 6 rfl ?_
  refine r_fact (F := Lk N22 [[], [0, 4, 7], [0, 3, 7], [0, 3, 6], [0, 4, 8], [0, 4, 7, 10], [0, 4, 7, 11], [0, 3, 7, 10]] [([], nilS), ([0, 4, 7], s1), ([0, 3, 7], s2), ([0, 3, 6], s3), ([0, 4, 8], s4), ([0, 4, 7, 10], s5), ([0, 4, 7, 11], s6), ([0, 3, 7, 10], s7)]) (.imp (.and (.nilS R3) (.imp (.and (.ro 6 rfl) (.imp (.and (.ro 5 rfl) (.imp (.and (.ro 4 rfl) (.imp (.and (.ro 3 rfl) (.imp (.and (.ro 2 rfl) (.imp (.and (.ro 1 rfl) (.imp (.and (.ro 0 rfl) (.nilL N22)) (fun _ h => Lk.cons h.1 h.2))) (fun _ h => Lk.cons h.1 h.2))) (fun _ h => Lk.cons h.1 h.2))) (fun _ h => Lk.cons h.1 h.2))) (fun _ h => Lk.cons h.1 h.2))) (fun _ h => Lk.cons h.1 h.2))) (fun _ h => Lk.cons h.1 h.2))) (fun _ h => Lk.cons h.1 h.2)) ?_
  have hLs8 : (([([], nilS), ([0, 4, 7], s1), ([0, 3, 7], s2), ([0, 3, 6], s3), ([0, 4, 8], s4), ([0, 4, 7, 10], s5), ([0, 4, 7, 11], s6), ([0, 3, 7, 10], s7)] : List ((List Int) × SV)).map Prod.fst) = ([[], [0, 4, 7], [0, 3, 7], [0, 3, 6], [0, 4, 8], [0, 4, 7, 10], [0, 4, 7, 11], [0, 3, 7, 10]] : List (List Int)) := rfl
  refine r_bs N22.R [([], nilS), ([0, 4, 7], s1), ([0, 3, 7], s2), ([0, 3, 6], s3), ([0, 4, 8], s4), ([0, 4, 7, 10], s5), ([0, 4, 7, 11], s6), ([0, 3, 7, 10], s7)] rfl rfl rfl (fun _ => by kernel_rfl) rfl (fun s8 => ?_)
  refine lp rfl (p_mv rfl) ?_
  obtain ⟨e12, he12, hm⟩ := bindS hm
  obtain ⟨ge12, he12G⟩ := lk_getI hLs8 he12
  refine lp rfl (p_idx Tryd.underlying56 ty22 rfl rfl (.row 0 rfl) he12G) ?_
  refine lp rfl (p_lde (o := 0) ty22 rfl rfl (.row 0 rfl) (getI_spec he12G).2 rfl) ?_
  refine lp rfl (p_as rfl) ?_
  refine lj_seq ?_
  obtain rfl := Option.some.inj hm
  refine cj_fact (F := RdS R3 (SV.v ge12) e12) (.imp (.ro 1 rfl) (fun _ h => (Lk.at_ h (getI_spec he12G).2))) ?_
  exact cj_rt ge12 [0] Tryd.results78 (.tmp rfl .nil) rfl rfl
theorem ok_gleeref2_TonesOf (a0 : TChord) {r : (List Int)} (hm : m_gleeref2_TonesOf a0 = some r) :
    Ctr Tryd.prog 58 [.agg (R28.enc a0).toArray].toArray ([] : List Ent) [] (X := SV) (fun s => s.v) (fun s => [.ro (RdS R3 (SV.v s) r)]) := by
  unfold m_gleeref2_TonesOf at hm
  refine ctr_mk (vs := [(0, .agg (R28.enc a0).toArray)]) Tryd.func58 rfl Tryd.ntmps58 rfl ⟨rfl, trivial⟩ (fun w0 A => ?_)
  refine cj_seq ?_
  refine cj_reg ?_
  refine r_bx (cs := [.int .i64 a0.Root, .int .i64 a0.Kind, .int .i64 a0.Turn]) rfl rfl rfl (fun b1 => ?_)
  refine lp rfl (p_as rfl) ?_
  refine lj_seq ?_
  refine cj_seq ?_
  refine cj_reg ?_
  refine lp rfl (p_as rfl) ?_
  refine lj_seq ?_
  refine cj_seq ?_
  refine cj_seq ?_
  refine cj_reg ?_
  refine lp rfl (p_fab fl28_1 rfl) ?_
  refine lp rfl (p_lbs ty3 rfl (j := 0) rfl rfl) ?_
  obtain ⟨y2, hy2, hm⟩ := bindS hm
  refine r_callN [] cf78 rfl rfl (ok_gleeref2_kindTones a0.Kind hy2) rfl rfl .nil rfl (fun s3 => ?_)
  refine lp rfl (p_len Tryd.underlying22 rfl (.ro 0 rfl)) ?_
  refine lp rfl (p_mv rfl) ?_
  refine lj_seq ?_
  refine cj_nil R3 ?_
  obtain ⟨f11, hf11, hm⟩ := bindS hm
  refine cj_range (γ := SV) (m := (y2.length : Int)) hf11 nilS (fun u8 g9 => [(1, .pointer (some ⟨b1, 0, none⟩)), (2, .slice none 0 0), (3, g9.v), (8, s3.v)]) (fun u8 g9 => Sat w0 (keys ([] : List Ent)) A [.ro (RdS R3 (SV.v s3) y2), .box b1 28 [.int .i64 a0.Root, .int .i64 a0.Kind, .int .i64 a0.Turn], .row R3 (SV.v g9) u8]) ⟨rfl, rfl, rfl, rfl, rfl, rfl, trivial⟩ (fun _ h => h.picks [1, 1, 0] rfl) (nat_lt _) (fun _ h => (FactAt.get (.ro 1 rfl) h).1) (fun _ _ => ⟨rfl, rfl, rfl, rfl⟩) ⟨rfl, rfl, rfl, rfl, rfl⟩ rfl rfl rfl (fun u8 g9 e => ?_) (fun aftk10 i4 x5 u8 g9 k10 hx6 hs J hJk10 hBk10 hX I cnk10 => ?_)
  · have hm := Flow.fin_b e hm
    refine nj_seq ?_
    refine cj_seq ?_
    refine cj_tail 12 (by kernel_rfl) (by kernel_rfl) ?_
    refine s_p rfl (p_mv rfl) ?_
    refine s_p rfl (p_fab fl28_2 rfl) ?_
    refine s_p rfl (p_lbs ty3 rfl (j := 1) rfl rfl) ?_
    refine s_p rfl (p_mv rfl) ?_
    refine s_p rfl (p_len Tryd.underlying22 rfl (.row 2 rfl)) ?_
    refine s_p rfl (p_mv rfl) ?_
    refine s_p rfl (p_len Tryd.underlying22 rfl (.row 2 rfl)) ?_
    obtain ⟨q17, hq17, hm⟩ := bindS hm
    refine s_p rfl (p_cut3 Tryd.underlying22 ty3 rfl rfl rfl rfl rfl (.row 2 rfl) rfl hq17) ?_
    refine s_p rfl (p_mv rfl) ?_
    refine s_p rfl (p_fab fl28_2 rfl) ?_
    refine s_p rfl (p_lbs ty3 rfl (j := 1) rfl rfl) ?_
    obtain ⟨q18, hq18, hm⟩ := bindS hm
    refine s_p rfl (p_cut Tryd.underlying22 ty3 rfl rfl rfl rfl rfl (.row 2 rfl) rfl rfl hq18) ?_
    refine s_nil ?_
    refine r_fz 2 rfl ?_
    obtain ⟨q19, hq19, hm⟩ := bindS hm
    refine r_appF Tryd.underlying22 ty3 rfl rfl rfl (.imp (.ro 0 rfl) (fun _ h => h.cut3 hq17)) rfl (.imp (.ro 0 rfl) (fun _ h => h.cut hq18)) hq19 rfl (fun s20 => ?_)
    refine lp rfl (p_as rfl) ?_
    refine lj_seq ?_
    obtain rfl := Option.some.inj hm
    exact cj_rt s20 [0] Tryd.results58 (.tmp rfl .nil) rfl rfl
  · have hRk10 : ∀ t, k10 = .ret t → some t = some r := fun t e => by rw [hX t e] at hm; exact hm
    have hm := hs
    refine cj_seq ?_
    refine cj_reg ?_
    refine lp rfl (p_idx Tryd.underlying22 ty3 rfl rfl (.ro 0 rfl) (getI_nat.trans hx6)) ?_
    refine lp rfl (p_lde (o := 0) ty3 rfl rfl (.ro 0 rfl) hx6 rfl) ?_
    refine lp rfl (p_as rfl) ?_
    refine lj_seq ?_
    refine cj_reg ?_
    refine lp rfl (p_mv rfl) ?_
    refine lp rfl (p_fab fl28_0 rfl) ?_
    refine lp rfl (p_lbs ty3 rfl (j := 1) rfl rfl) ?_
    refine lp rfl (p_mv rfl) ?_
    refine lp rfl (p_add rfl rfl) ?_
    refine lp rfl (p_rem rfl rfl (by decide)) ?_
    refine r_bs R3 [(w64 (a0.Root + x5)).tmod 12] rfl rfl rfl (fun _ => by kernel_rfl) rfl (fun s13 => ?_)
    obtain ⟨q14, hq14, hm⟩ := bindS hm
    refine r_app (k := 3) Tryd.underlying22 ty3 rfl rfl rfl rfl (.row 0 rfl) hq14 rfl (fun s15 => ?_)
    refine lp rfl (p_as rfl) ?_
    refine lj_nil ?_
    refine nj_blk ?_
    exact cnk10 _ _ q14 s15 (hJk10 _ (Option.some.inj hm).symm) ⟨rfl, rfl, rfl, rfl, rfl, rfl, trivial⟩ (fun _ h => h.picks [1, 1, 1] rfl)
theorem ok_gleemake_Stream_Flip (b0_ : Nat) (s0_0_ : SV) (a0_0 : (List Int)) (a0_1 : Int) (a1 : Int) {r : Bool × Int} (hm : m_gleemake_Stream_Flip a0_0 a0_1 a1 = some r) :
    Ctr Tryd.prog 31 [.pointer (some ⟨b0_, 0, none⟩), .int .i64 a1].toArray [.box b0_ 25 [s0_0_.v, .int .i64 a0_1]] [RdS R3 (SV.v s0_0_) a0_0] (X := Unit) (fun _ => .bool r.1) (fun _ => [.box b0_ 25 [s0_0_.v, .int .i64 r.2]]) := by
  unfold m_gleemake_Stream_Flip at hm
  refine ctr_mk (vs := [(0, .pointer (some ⟨b0_, 0, none⟩)), (1, .int .i64 a1)]) Tryd.func31 rfl Tryd.ntmps31 rfl ⟨rfl, rfl, trivial⟩ (fun w0 A => ?_)
  refine cj_seq ?_
  refine cj_reg ?_
  refine lp rfl (p_as rfl) ?_
  refine lj_seq ?_
  refine cj_seq ?_
  refine cj_reg ?_
  refine lp rfl (p_mv rfl) ?_
  refine lp rfl (p_mv rfl) ?_
  obtain ⟨y1, hy1, hm⟩ := bindS hm
  refine r_call [0] cf63 rfl rfl (ok_gleemake_Stream_Next b0_ s0_0_ a0_0 a0_1 a1 hy1) rfl rfl (.cons (.ro 0 rfl) .nil) (fun _ => rfl) rfl (fun _ => ?_)
  refine lp rfl (p_eql rfl rfl) ?_
  refine lp rfl (p_as rfl) ?_
  refine lj_seq ?_
  obtain rfl := Option.some.inj hm
  exact cj_rt () [0] Tryd.results31 (.tmp rfl .nil) rfl rfl
theorem ok_gleemake_Stream_Pick (b0_ : Nat) (s0_0_ : SV) (a0_0 : (List Int)) (a0_1 : Int) (s1_ : SV) (a1 : (List Int)) {r : Int × Int} (hm : m_gleemake_Stream_Pick a0_0 a0_1 a1 = some r) :
    Ctr Tryd.prog 10 [.pointer (some ⟨b0_, 0, none⟩), s1_.v].toArray [.box b0_ 25 [s0_0_.v, .int .i64 a0_1]] [RdS R3 (SV.v s0_0_) a0_0, RdS R3 (SV.v s1_) a1] (X := Unit) (fun _ => .int .i64 r.1) (fun _ => [.box b0_ 25 [s0_0_.v, .int .i64 r.2]]) := by
  unfold m_gleemake_Stream_Pick at hm
  refine ctr_mk (vs := [(0, .pointer (some ⟨b0_, 0, none⟩)), (1, s1_.v)]) Tryd.func10 rfl Tryd.ntmps10 rfl ⟨rfl, rfl, trivial⟩ (fun w0 A => ?_)
  refine cj_seq ?_
  refine cj_reg ?_
  refine lp rfl (p_as rfl) ?_
  refine lj_seq ?_
  refine cj_seq ?_
  refine cj_reg ?_
  refine lp rfl (p_mv rfl) ?_
  refine lp rfl (p_mv rfl) ?_
  refine lp rfl (p_mv rfl) ?_
  refine lp rfl (p_len Tryd.underlying22 rfl (.ro 2 rfl)) ?_
  obtain ⟨y1, hy1, hm⟩ := bindS hm
  refine r_call [0] cf63 rfl rfl (ok_gleemake_Stream_Next b0_ s0_0_ a0_0 a0_1 (a1.length : Int) hy1) rfl rfl (.cons (.ro 0 rfl) .nil) (fun _ => rfl) rfl (fun _ => ?_)
  obtain ⟨e2, he2, hm⟩ := bindS hm
  refine lp rfl (p_idx Tryd.underlying22 ty3 rfl rfl (.ro 2 rfl) he2) ?_
  refine lp rfl (p_lde (o := 0) ty3 rfl rfl (.ro 2 rfl) (getI_spec he2).2 rfl) ?_
  refine lp rfl (p_as rfl) ?_
  refine lj_seq ?_
  obtain rfl := Option.some.inj hm
  exact cj_rt () [0] Tryd.results10 (.tmp rfl .nil) rfl rfl
theorem ok_gleemake_Stream_Odd (b0_ : Nat) (s0_0_ : SV) (a0_0 : (List Int)) (a0_1 : Int) (a1 : Int) (a2 : Int) {r : Int × Int} (hm : m_gleemake_Stream_Odd a0_0 a0_1 a1 a2 = some r) :
    Ctr Tryd.prog 62 [.pointer (some ⟨b0_, 0, none⟩), .int .i64 a1, .int .i64 a2].toArray [.box b0_ 25 [s0_0_.v, .int .i64 a0_1]] [RdS R3 (SV.v s0_0_) a0_0] (X := Unit) (fun _ => .int .i64 r.1) (fun _ => [.box b0_ 25 [s0_0_.v, .int .i64 r.2]]) := by
  unfold m_gleemake_Stream_Odd at hm
  refine ctr_mk (vs := [(0, .pointer (some ⟨b0_, 0, none⟩)), (1, .int .i64 a1), (2, .int .i64 a2)]) Tryd.func62 rfl Tryd.ntmps62 rfl ⟨rfl, rfl, rfl, trivial⟩ (fun w0 A => ?_)
  refine cj_seq ?_
  refine cj_reg ?_
  refine lp rfl (p_as rfl) ?_
  refine lj_seq ?_
  refine cj_seq ?_
  refine cj_seq ?_
  refine cj_reg ?_
  refine lp rfl (p_mv rfl) ?_
  obtain ⟨y1, hy1, hm⟩ := bindS hm
  refine r_call [0] cf31 rfl rfl (ok_gleemake_Stream_Flip b0_ s0_0_ a0_0 a0_1 12 hy1) rfl rfl (.cons (.ro 0 rfl) .nil) (fun _ => rfl) rfl (fun _ => ?_)
  refine lj_seq ?_
  refine cj_if (b := y1.1) rfl (fun hb => ?_) (fun hb => ?_)
  · have hm := ifB_t hb hm
    refine cj_seq ?_
    refine cj_reg ?_
    refine lp rfl (p_mv rfl) ?_
    refine lp rfl (p_mv rfl) ?_
    refine lp rfl (p_sub rfl rfl) ?_
    refine lp rfl (p_mv rfl) ?_
    refine lp rfl (p_add rfl rfl) ?_
    refine lp rfl (p_mv rfl) ?_
    refine lp rfl (p_mv rfl) ?_
    refine r_bs R3 [w64 (a1 - 1), w64 (a2 + 1), a1, a2, (-1099511627776), 1099511627776] rfl rfl rfl (fun _ => by kernel_rfl) rfl (fun s2 => ?_)
    obtain ⟨y3, hy3, hm⟩ := bindS hm
    refine r_call [1] cf10 rfl rfl (ok_gleemake_Stream_Pick b0_ s0_0_ a0_0 y1.2 s2 [w64 (a1 - 1), w64 (a2 + 1), a1, a2, (-1099511627776), 1099511627776] hy3) rfl rfl (.cons (.ro 1 rfl) (.cons (.row 0 rfl) .nil)) (fun _ => rfl) rfl (fun _ => ?_)
    refine lp rfl (p_as rfl) ?_
    refine lj_seq ?_
    obtain rfl := Option.some.inj hm
    exact cj_rt () [0] Tryd.results62 (.tmp rfl .nil) rfl rfl
  · have hm := ifB_f hb hm
    refine cj_skip ?_
    refine nj_seq ?_
    refine cj_seq ?_
    refine cj_reg ?_
    refine lp rfl (p_mv rfl) ?_
    refine lp rfl (p_mv rfl) ?_
    refine lp rfl (p_mv rfl) ?_
    obtain ⟨y4, hy4, hm⟩ := bindS hm
    refine r_call [0] cf12 rfl rfl (ok_gleemake_Stream_Range b0_ s0_0_ a0_0 y1.2 a1 a2 hy4) rfl rfl (.cons (.ro 0 rfl) .nil) (fun _ => rfl) rfl (fun _ => ?_)
    refine lp rfl (p_as rfl) ?_
    refine lj_seq ?_
    obtain rfl := Option.some.inj hm
    exact cj_rt () [0] Tryd.results62 (.tmp rfl .nil) rfl rfl
theorem ok_gleemake_Stream_Notes (b0_ : Nat) (s0_0_ : SV) (a0_0 : (List Int)) (a0_1 : Int) {r : (List Int) × Int} (hm : m_gleemake_Stream_Notes a0_0 a0_1 = some r) :
    Ctr Tryd.prog 8 [.pointer (some ⟨b0_, 0, none⟩)].toArray [.box b0_ 25 [s0_0_.v, .int .i64 a0_1]] [RdS R3 (SV.v s0_0_) a0_0] (X := SV) (fun s => s.v) (fun s => [.row R3 (SV.v s) r.1, .box b0_ 25 [s0_0_.v, .int .i64 r.2]]) := by
  unfold m_gleemake_Stream_Notes at hm
  refine ctr_mk (vs := [(0, .pointer (some ⟨b0_, 0, none⟩))]) Tryd.func8 rfl Tryd.ntmps8 rfl ⟨rfl, trivial⟩ (fun w0 A => ?_)
  refine cj_seq ?_
  refine cj_reg ?_
  refine lp rfl (p_as rfl) ?_
  refine lj_seq ?_
  refine cj_seq ?_
  refine cj_reg ?_
  refine lp rfl (p_mv rfl) ?_
  obtain ⟨y1, hy1, hm⟩ := bindS hm
  refine r_call [0] cf12 rfl rfl (ok_gleemake_Stream_Range b0_ s0_0_ a0_0 a0_1 0 11 hy1) rfl rfl (.cons (.ro 0 rfl) .nil) (fun _ => rfl) rfl (fun _ => ?_)
  refine lp rfl (p_mv rfl) ?_
  obtain ⟨y2, hy2, hm⟩ := bindS hm
  refine r_call [0] cf12 rfl rfl (ok_gleemake_Stream_Range b0_ s0_0_ a0_0 y1.2 1 7 hy2) rfl rfl (.cons (.ro 0 rfl) .nil) (fun _ => rfl) rfl (fun _ => ?_)
  refine lp rfl (p_bld [.int .i64 y1.1, .int .i64 y2.1, .int .i64 0] rfl (fun _ => by kernel_rfl)) ?_
  refine r_al ty28 rfl (fun b3 => ?_)
  refine r_sb (vs := [.int .i64 y1.1, .int .i64 y2.1, .int .i64 0]) (j := 0) ty28 rfl rfl rfl rfl rfl rfl rfl ?_
  refine lj_seq ?_
  refine cj_seq ?_
  refine cj_reg ?_
  refine lp rfl (p_as rfl) ?_
  refine lj_seq ?_
  refine cj_seq ?_
  refine cj_seq ?_
  refine cj_reg ?_
  refine lp rfl (p_lbw ty28 rfl (j := 0) rfl rfl) ?_
  obtain ⟨y4, hy4, hm⟩ := bindS hm
  refine r_callN [] cf58 rfl rfl (ok_gleeref2_TonesOf (TChord.mk y1.1 y2.1 0) hy4) rfl rfl .nil rfl (fun s5 => ?_)
  refine lp rfl (p_len Tryd.underlying22 rfl (.ro 0 rfl)) ?_
  refine lp rfl (p_mv rfl) ?_
  refine lj_seq ?_
  refine cj_nil R3 ?_
  obtain ⟨f13, hf13, hm⟩ := bindS hm
  refine cj_range (γ := SV) (m := (y4.length : Int)) hf13 nilS (fun u10 g11 => [(0, .pointer (some ⟨b0_, 0, none⟩)), (2, .slice none 0 0), (3, .pointer (some ⟨b3, 0, none⟩)), (4, g11.v), (13, s5.v)]) (fun u10 g11 => Sat w0 (keys [.box b0_ 25 [s0_0_.v, .int .i64 a0_1]]) A [.ro (RdS R3 (SV.v s5) y4), .box b3 28 [.int .i64 y1.1, .int .i64 y2.1, .int .i64 0], .box b0_ 25 [s0_0_.v, .int .i64 u10.1], .ro (RdS R3 (SV.v s0_0_) a0_0), .row R3 (SV.v g11) u10.2]) ⟨rfl, rfl, rfl, rfl, rfl, rfl, rfl, trivial⟩ (fun _ h => h.picks [1, 1, 1, 1, 0] rfl) (nat_lt _) (fun _ h => (FactAt.get (.ro 1 rfl) h).1) (fun _ _ => ⟨rfl, rfl, rfl, rfl⟩) ⟨rfl, rfl, rfl, rfl, rfl⟩ rfl rfl rfl (fun u10 g11 e => ?_) (fun aftk12 i6 x7 u10 g11 k12 hx8 hs J hJk12 hBk12 hX I cnk12 => ?_)
  · have hm := Flow.fin_b e hm
    refine nj_seq ?_
    refine cj_seq ?_
    refine cj_seq ?_
    refine cj_reg ?_
    refine lp rfl (p_mv rfl) ?_
    obtain ⟨y21, hy21, hm⟩ := bindS hm
    refine r_call [2] cf31 rfl rfl (ok_gleemake_Stream_Flip b0_ s0_0_ a0_0 u10.1 4 hy21) rfl rfl (.cons (.ro 2 rfl) .nil) (fun _ => rfl) rfl (fun _ => ?_)
    refine lj_seq ?_
    obtain ⟨k25, hk25, hm⟩ := bindS hm
    have hRk25 : ∀ t, k25 = .inr t → some t = some r := fun t e => by rw [e] at hm; exact hm
    refine cj_joinK (σ := (List Int)) (γ := SV) (fun u22 => k25 = .inl u22) (fun u22 g23 => [(0, .pointer (some ⟨b0_, 0, none⟩)), (2, .slice none 0 0), (4, g23.v)]) (fun u22 g23 => Sat w0 (keys [.box b0_ 25 [s0_0_.v, .int .i64 a0_1]]) A [.box b0_ 25 [s0_0_.v, .int .i64 y21.2], .ro (RdS R3 (SV.v s0_0_) a0_0), .row R3 (SV.v g23) u22]) (fun u22 g23 hq => ?_) (fun J cnk25 => ?_)
    · have hm := Sum.fin_l hq hm
      refine cj_seq ?_
      refine cj_seq ?_
      refine cj_reg ?_
      obtain ⟨k31, hk31, hm⟩ := bindS hm
      have hRk31 : ∀ t, k31 = .inr t → some t = some r := fun t e => by rw [e] at hm; exact hm
      refine lj_join (σ := (Bool × Int)) (γ := Unit) (fun u29 => k31 = .inl u29) (fun u29 g30 => [(0, .pointer (some ⟨b0_, 0, none⟩)), (2, .slice none 0 0), (4, g23.v), (46, .bool u29.1)]) (fun u29 g30 => Sat w0 (keys [.box b0_ 25 [s0_0_.v, .int .i64 a0_1]]) A [.box b0_ 25 [s0_0_.v, .int .i64 u29.2], .ro (RdS R3 (SV.v s0_0_) a0_0), .row R3 (SV.v g23) u22]) (fun u29 g30 hq => ?_) (fun J cnk31 => ?_)
      · have hm := Sum.fin_l hq hm
        refine cj_if (b := u29.1) rfl (fun hb => ?_) (fun hb => ?_)
        · have hm := ifB_t hb hm
          refine cj_reg ?_
          refine lp rfl (p_mv rfl) ?_
          refine lp rfl (p_mv rfl) ?_
          refine lp rfl (p_mv rfl) ?_
          refine lp rfl (p_len Tryd.underlying22 rfl (.row 2 rfl)) ?_
          obtain ⟨y33, hy33, hm⟩ := bindS hm
          refine r_call [0] cf63 rfl rfl (ok_gleemake_Stream_Next b0_ s0_0_ a0_0 u29.2 (u22.length : Int) hy33) rfl rfl (.cons (.ro 0 rfl) .nil) (fun _ => rfl) rfl (fun _ => ?_)
          refine lp rfl (p_mv rfl) ?_
          obtain ⟨y34, hy34, hm⟩ := bindS hm
          refine r_call [0] cf62 rfl rfl (ok_gleemake_Stream_Odd b0_ s0_0_ a0_0 y33.2 0 127 hy34) rfl rfl (.cons (.ro 0 rfl) .nil) (fun _ => rfl) rfl (fun _ => ?_)
          obtain ⟨e35, he35, hm⟩ := bindS hm
          refine lp rfl (p_idx Tryd.underlying22 ty3 rfl rfl (.row 2 rfl) he35) ?_
          refine r_ste (k := 2) (o := 0) (vs := [.int .i64 y34.1]) ty3 rfl rfl rfl rfl rfl rfl rfl (getI_spec he35).2 y34.1 rfl rfl ?_
          refine lj_seq ?_
          refine cj_seq ?_
          refine cj_reg ?_
          refine lp rfl (p_mv rfl) ?_
          refine lp rfl (p_as rfl) ?_
          refine lj_seq ?_
          obtain rfl := Option.some.inj hm
          exact cj_rt g23 [2, 0] Tryd.results8 (.tmp rfl .nil) rfl rfl
        · have hm := ifB_f hb hm
          refine cj_skip ?_
          refine nj_seq ?_
          refine cj_seq ?_
          refine cj_reg ?_
          refine lp rfl (p_mv rfl) ?_
          refine lp rfl (p_as rfl) ?_
          refine lj_seq ?_
          obtain rfl := Option.some.inj hm
          exact cj_rt g23 [2, 0] Tryd.results8 (.tmp rfl .nil) rfl rfl
      · have hm := hk31
        refine lp rfl (p_mv rfl) ?_
        refine lp rfl (p_len Tryd.underlying22 rfl (.row 2 rfl)) ?_
        refine lp rfl (p_gtr rfl rfl) ?_
        refine lp rfl (p_mv rfl) ?_
        refine lcase (i := 43) (decide ((u22.length : Int) > 0)) rfl (fun hb => ?_) (fun hb => ?_)
        · have hm := ifB_t hb hm
          refine lg true rfl rfl rfl ?_
          refine lp rfl (p_mv rfl) ?_
          refine lg true rfl rfl rfl ?_
          obtain ⟨y32, hy32, hm⟩ := bindS hm
          refine r_call [0] cf31 rfl rfl (ok_gleemake_Stream_Flip b0_ s0_0_ a0_0 y21.2 10 hy32) rfl rfl (.cons (.ro 0 rfl) .nil) (fun _ => rfl) rfl (fun _ => ?_)
          refine lp rfl (p_pkt rfl rfl) ?_
          refine lj_nil ?_
          exact cnk31 _ _ (y32.1, y32.2) () (Option.some.inj hm).symm ⟨rfl, rfl, rfl, rfl, trivial⟩ (fun _ h => h.picks [0, 0, 0] rfl)
        · have hm := ifB_f hb hm
          refine ls true rfl rfl rfl rfl ?_
          refine ls true rfl rfl rfl rfl ?_
          refine lp rfl (p_pkf rfl rfl) ?_
          refine lj_nil ?_
          exact cnk31 _ _ (false, y21.2) () (Option.some.inj hm).symm ⟨rfl, rfl, rfl, rfl, trivial⟩ (fun _ h => h.picks [0, 0, 0] rfl)
    · have hm := hk25
      refine cj_if (b := y21.1) rfl (fun hb => ?_) (fun hb => ?_)
      · have hm := ifB_t hb hm
        refine cj_reg ?_
        refine lp rfl (p_mv rfl) ?_
        refine lp rfl (p_fab fl28_0 rfl) ?_
        refine lp rfl (p_lbs ty3 rfl (j := 2) rfl rfl) ?_
        refine lp rfl (p_add rfl rfl) ?_
        refine r_bs R3 [w64 (24 + y1.1)] rfl rfl rfl (fun _ => by kernel_rfl) rfl (fun s26 => ?_)
        obtain ⟨q27, hq27, hm⟩ := bindS hm
        refine r_app (k := 5) Tryd.underlying22 ty3 rfl rfl rfl rfl (.row 0 rfl) hq27 rfl (fun s28 => ?_)
        refine lp rfl (p_as rfl) ?_
        refine lj_nil ?_
        exact cnk25 _ _ q27 s28 (Option.some.inj hm).symm ⟨rfl, rfl, rfl, trivial⟩ (fun _ h => h.picks [1, 3, 3] rfl)
      · have hm := ifB_f hb hm
        refine cj_skip ?_
        exact cnk25 _ _ u10.2 g11 (Option.some.inj hm).symm ⟨rfl, rfl, rfl, trivial⟩ (fun _ h => h.picks [0, 2, 2] rfl)
  · have hRk12 : ∀ t, k12 = .ret t → some t = some r := fun t e => by rw [hX t e] at hm; exact hm
    have hm := hs
    refine cj_seq ?_
    refine cj_reg ?_
    refine lp rfl (p_idx Tryd.underlying22 ty3 rfl rfl (.ro 0 rfl) (getI_nat.trans hx8)) ?_
    refine lp rfl (p_lde (o := 0) ty3 rfl rfl (.ro 0 rfl) hx8 rfl) ?_
    refine lp rfl (p_as rfl) ?_
    refine lj_seq ?_
    refine cj_seq ?_
    refine cj_reg ?_
    refine lp rfl (p_mv rfl) ?_
    obtain ⟨y15, hy15, hm⟩ := bindS hm
    refine r_call [2] cf31 rfl rfl (ok_gleemake_Stream_Flip b0_ s0_0_ a0_0 u10.1 12 hy15) rfl rfl (.cons (.ro 2 rfl) .nil) (fun _ => rfl) rfl (fun _ => ?_)
    refine lp rfl (p_not rfl) ?_
    refine lj_seq ?_
    refine cj_if (b := !y15.1) rfl (fun hb => ?_) (fun hb => ?_)
    · have hm := ifB_t hb hm
      refine cj_reg ?_
      refine lp rfl (p_mv rfl) ?_
      refine lp rfl (p_mv rfl) ?_
      refine lp rfl (p_add rfl rfl) ?_
      refine lp rfl (p_mv rfl) ?_
      obtain ⟨y16, hy16, hm⟩ := bindS hm
      refine r_call [0] cf12 rfl rfl (ok_gleemake_Stream_Range b0_ s0_0_ a0_0 y15.2 0 3 hy16) rfl rfl (.cons (.ro 2 rfl) .nil) (fun _ => rfl) rfl (fun _ => ?_)
      refine lp rfl (p_mul rfl rfl) ?_
      refine lp rfl (p_add rfl rfl) ?_
      refine r_bs R3 [w64 ((w64 (36 + x7)) + (w64 (12 * y16.1)))] rfl rfl rfl (fun _ => by kernel_rfl) rfl (fun s17 => ?_)
      obtain ⟨q18, hq18, hm⟩ := bindS hm
      refine r_app (k := 5) Tryd.underlying22 ty3 rfl rfl rfl rfl (.row 0 rfl) hq18 rfl (fun s19 => ?_)
      refine lp rfl (p_as rfl) ?_
      refine lj_nil ?_
      refine nj_blk ?_
      exact cnk12 _ _ (y16.2, q18) s19 (hJk12 _ (Option.some.inj hm).symm) ⟨rfl, rfl, rfl, rfl, rfl, rfl, rfl, trivial⟩ (fun _ h => h.picks [2, 2, 1, 1, 1] rfl)
    · have hm := ifB_f hb hm
      refine cj_skip ?_
      refine nj_blk ?_
      exact cnk12 _ _ (y15.2, u10.2) g11 (hJk12 _ (Option.some.inj hm).symm) ⟨rfl, rfl, rfl, rfl, rfl, rfl, rfl, trivial⟩ (fun _ h => h.picks [1, 1, 0, 0, 0] rfl)
theorem ok_gleemake_Stream_AChord (b0_ : Nat) (s0_0_ : SV) (a0_0 : (List Int)) (a0_1 : Int) {r : TChord × Int} (hm : m_gleemake_Stream_AChord a0_0 a0_1 = some r) :
    Ctr Tryd.prog 9 [.pointer (some ⟨b0_, 0, none⟩)].toArray [.box b0_ 25 [s0_0_.v, .int .i64 a0_1]] [RdS R3 (SV.v s0_0_) a0_0] (X := Unit) (fun _ => .agg (R28.enc r.1).toArray) (fun _ => [.box b0_ 25 [s0_0_.v, .int .i64 r.2]]) := by
  unfold m_gleemake_Stream_AChord at hm
  refine ctr_mk (vs := [(0, .pointer (some ⟨b0_, 0, none⟩))]) Tryd.func9 rfl Tryd.ntmps9 rfl ⟨rfl, trivial⟩ (fun w0 A => ?_)
  refine cj_seq ?_
  refine cj_reg ?_
  refine r_al ty28 rfl (fun b1 => ?_)
  refine lj_seq ?_
  refine cj_seq ?_
  refine cj_seq ?_
  refine cj_reg ?_
  refine lp rfl (p_mv rfl) ?_
  obtain ⟨y2, hy2, hm⟩ := bindS hm
  refine r_call [1] cf31 rfl rfl (ok_gleemake_Stream_Flip b0_ s0_0_ a0_0 a0_1 40 hy2) rfl rfl (.cons (.ro 1 rfl) .nil) (fun _ => rfl) rfl (fun _ => ?_)
  refine lj_seq ?_
  refine cj_if (b := y2.1) rfl (fun hb => ?_) (fun hb => ?_)
  · have hm := ifB_t hb hm
    refine cj_seq ?_
    refine cj_reg ?_
    refine lp rfl (p_mv rfl) ?_
    obtain ⟨y3, hy3, hm⟩ := bindS hm
    refine r_call [0] cf62 rfl rfl (ok_gleemake_Stream_Odd b0_ s0_0_ a0_0 y2.2 0 11 hy3) rfl rfl (.cons (.ro 1 rfl) .nil) (fun _ => rfl) rfl (fun _ => ?_)
    refine lp rfl (p_mv rfl) ?_
    obtain ⟨y4, hy4, hm⟩ := bindS hm
    refine r_call [0] cf62 rfl rfl (ok_gleemake_Stream_Odd b0_ s0_0_ a0_0 y3.2 1 7 hy4) rfl rfl (.cons (.ro 1 rfl) .nil) (fun _ => rfl) rfl (fun _ => ?_)
    refine lp rfl (p_mv rfl) ?_
    obtain ⟨y5, hy5, hm⟩ := bindS hm
    refine r_call [0] cf62 rfl rfl (ok_gleemake_Stream_Odd b0_ s0_0_ a0_0 y4.2 0 3 hy5) rfl rfl (.cons (.ro 1 rfl) .nil) (fun _ => rfl) rfl (fun _ => ?_)
    refine lp rfl (p_bld [.int .i64 y3.1, .int .i64 y4.1, .int .i64 y5.1] rfl (fun _ => by kernel_rfl)) ?_
    refine r_sb (vs := [.int .i64 y3.1, .int .i64 y4.1, .int .i64 y5.1]) (j := 1) ty28 rfl rfl rfl rfl rfl rfl rfl ?_
    refine lj_seq ?_
    obtain rfl := Option.some.inj hm
    exact cj_rt () [0] Tryd.results9 (.agg (k := 1) ty28 rfl rfl rfl .nil) rfl rfl
  · have hm := ifB_f hb hm
    refine cj_skip ?_
    refine nj_seq ?_
    refine cj_seq ?_
    refine cj_reg ?_
    refine lp rfl (p_mv rfl) ?_
    obtain ⟨y6, hy6, hm⟩ := bindS hm
    refine r_call [0] cf12 rfl rfl (ok_gleemake_Stream_Range b0_ s0_0_ a0_0 y2.2 0 11 hy6) rfl rfl (.cons (.ro 1 rfl) .nil) (fun _ => rfl) rfl (fun _ => ?_)
    refine lp rfl (p_mv rfl) ?_
    obtain ⟨y7, hy7, hm⟩ := bindS hm
    refine r_call [0] cf12 rfl rfl (ok_gleemake_Stream_Range b0_ s0_0_ a0_0 y6.2 1 7 hy7) rfl rfl (.cons (.ro 1 rfl) .nil) (fun _ => rfl) rfl (fun _ => ?_)
    refine lp rfl (p_mv rfl) ?_
    refine r_bs R3 [0, 0, 0, 1, 2] rfl rfl rfl (fun _ => by kernel_rfl) rfl (fun s8 => ?_)
    obtain ⟨y9, hy9, hm⟩ := bindS hm
    refine r_call [1] cf10 rfl rfl (ok_gleemake_Stream_Pick b0_ s0_0_ a0_0 y7.2 s8 [0, 0, 0, 1, 2] hy9) rfl rfl (.cons (.ro 2 rfl) (.cons (.row 0 rfl) .nil)) (fun _ => rfl) rfl (fun _ => ?_)
    refine lp rfl (p_bld [.int .i64 y6.1, .int .i64 y7.1, .int .i64 y9.1] rfl (fun _ => by kernel_rfl)) ?_
    refine r_sb (vs := [.int .i64 y6.1, .int .i64 y7.1, .int .i64 y9.1]) (j := 2) ty28 rfl rfl rfl rfl rfl rfl rfl ?_
    refine lj_seq ?_
    obtain rfl := Option.some.inj hm
    exact cj_rt () [0] Tryd.results9 (.agg (k := 2) ty28 rfl rfl rfl .nil) rfl rfl
theorem ok_gleemake_Stream_Chords (b0_ : Nat) (s0_0_ : SV) (a0_0 : (List Int)) (a0_1 : Int) (a1 : Int) {r : (List TChord) × Int} (hm : m_gleemake_Stream_Chords a0_0 a0_1 a1 = some r) :
    Ctr Tryd.prog 11 [.pointer (some ⟨b0_, 0, none⟩), .int .i64 a1].toArray [.box b0_ 25 [s0_0_.v, .int .i64 a0_1]] [RdS R3 (SV.v s0_0_) a0_0] (X := SV) (fun s => s.v) (fun s => [.row R28 (SV.v s) r.1, .box b0_ 25 [s0_0_.v, .int .i64 r.2]]) := by
  unfold m_gleemake_Stream_Chords at hm
  refine ctr_mk (vs := [(0, .pointer (some ⟨b0_, 0, none⟩)), (1, .int .i64 a1)]) Tryd.func11 rfl Tryd.ntmps11 rfl ⟨rfl, rfl, trivial⟩ (fun w0 A => ?_)
  refine cj_seq ?_
  refine cj_reg ?_
  refine lp rfl (p_as rfl) ?_
  refine lj_seq ?_
  refine cj_seq ?_
  refine cj_reg ?_
  refine lp rfl (p_as rfl) ?_
  refine lj_seq ?_
  refine cj_seq ?_
  refine cj_seq ?_
  refine cj_reg ?_
  refine lp rfl (p_mv rfl) ?_
  refine lp rfl (p_mv rfl) ?_
  refine lj_seq ?_
  refine cj_nil R28 ?_
  obtain ⟨L22, hL22, hm⟩ := bindS hm
  obtain ⟨f8, hf8, hm⟩ := bindS hm
  refine cj_range (γ := SV) (m := a1) hf8 nilS (fun u5 g6 => [(0, .pointer (some ⟨b0_, 0, none⟩)), (4, .slice none 0 0), (5, g6.v)]) (fun u5 g6 => Sat w0 (keys [.box b0_ 25 [s0_0_.v, .int .i64 a0_1]]) A [.box b0_ 25 [s0_0_.v, .int .i64 u5.1], .ro (RdS R3 (SV.v s0_0_) a0_0), .row R28 (SV.v g6) u5.2]) ⟨rfl, rfl, rfl, rfl, rfl, trivial⟩ (fun _ h => h.picks [1, 1, 0] rfl) (rangeI_spec hL22).1 (fun _ _ => (rangeI_spec hL22).2) (fun _ _ => ⟨rfl, rfl, rfl, rfl⟩) ⟨rfl, rfl, rfl, rfl, rfl⟩ rfl rfl rfl (fun u5 g6 e => ?_) (fun aftk7 i1 x2 u5 g6 k7 hx3 hs J hJk7 hBk7 hX I cnk7 => ?_)
  · have hm := Flow.fin_b e hm
    refine nj_seq ?_
    refine cj_seq ?_
    refine cj_reg ?_
    refine lp rfl (p_mv rfl) ?_
    refine lp rfl (p_as rfl) ?_
    refine lj_seq ?_
    obtain rfl := Option.some.inj hm
    exact cj_rt g6 [2, 0] Tryd.results11 (.tmp rfl .nil) rfl rfl
  · have hRk7 : ∀ t, k7 = .ret t → some t = some r := fun t e => by rw [hX t e] at hm; exact hm
    have hm := hs
    refine cj_seq ?_
    refine cj_reg ?_
    refine lp rfl (p_mv rfl) ?_
    obtain ⟨y10, hy10, hm⟩ := bindS hm
    refine r_call [0] cf9 rfl rfl (ok_gleemake_Stream_AChord b0_ s0_0_ a0_0 u5.1 hy10) rfl rfl (.cons (.ro 0 rfl) .nil) (fun _ => rfl) rfl (fun _ => ?_)
    refine r_al ty28 rfl (fun b11 => ?_)
    refine r_sb (vs := [.int .i64 y10.1.Root, .int .i64 y10.1.Kind, .int .i64 y10.1.Turn]) (j := 0) ty28 rfl rfl rfl rfl rfl rfl rfl ?_
    refine lj_seq ?_
    refine cj_seq ?_
    refine cj_seq ?_
    refine cj_reg ?_
    refine lp rfl (p_mv rfl) ?_
    obtain ⟨y12, hy12, hm⟩ := bindS hm
    refine r_call [1] cf31 rfl rfl (ok_gleemake_Stream_Flip b0_ s0_0_ a0_0 y10.2 2 hy12) rfl rfl (.cons (.ro 1 rfl) .nil) (fun _ => rfl) rfl (fun _ => ?_)
    refine lj_seq ?_
    obtain ⟨k15, hk15, hm⟩ := bindS hm
    have hRk15 : ∀ t, k15 = .inr t → some t = some k7 := fun t e => by rw [e] at hm; exact hm
    refine cj_joinK (σ := (Int × Int × Int × Int)) (γ := Unit) (fun u13 => k15 = .inl u13) (fun u13 g14 => [(0, .pointer (some ⟨b0_, 0, none⟩)), (4, .slice none 0 0), (5, g6.v), (6, .pointer (some ⟨b11, 0, none⟩)), (7, .int .i64 a1), (8, .int .i64 (i1 : Int))]) (fun u13 g14 => Sat w0 (keys [.box b0_ 25 [s0_0_.v, .int .i64 a0_1]]) A [.box b0_ 25 [s0_0_.v, .int .i64 u13.1], .box b11 28 [.int .i64 u13.2.1, .int .i64 u13.2.2.1, .int .i64 u13.2.2.2], .ro (RdS R3 (SV.v s0_0_) a0_0), .row R28 (SV.v g6) u5.2]) (fun u13 g14 hq => ?_) (fun J cnk15 => ?_)
    · have hm := Sum.fin_l hq hm
      refine cj_reg ?_
      refine lp rfl (p_mv rfl) ?_
      refine lp rfl (p_lbw ty28 rfl (j := 1) rfl rfl) ?_
      refine r_bs R28 [(TChord.mk u13.2.1 u13.2.2.1 u13.2.2.2)] rfl rfl rfl (fun _ => by kernel_rfl) rfl (fun s18 => ?_)
      obtain ⟨q19, hq19, hm⟩ := bindS hm
      refine r_app (k := 4) Tryd.underlying31 ty28 rfl rfl rfl rfl (.row 0 rfl) hq19 rfl (fun s20 => ?_)
      refine lp rfl (p_as rfl) ?_
      refine lj_nil ?_
      refine nj_blk ?_
      exact cnk7 _ _ (u13.1, q19) s20 (hJk7 _ (Option.some.inj hm).symm) ⟨rfl, rfl, rfl, rfl, rfl, trivial⟩ (fun _ h => h.picks [1, 2, 2] rfl)
    · have hm := hk15
      refine cj_if (b := y12.1) rfl (fun hb => ?_) (fun hb => ?_)
      · have hm := ifB_t hb hm
        refine cj_reg ?_
        refine lp rfl (p_mv rfl) ?_
        refine r_bs R3 [0, 5, 7] rfl rfl rfl (fun _ => by kernel_rfl) rfl (fun s16 => ?_)
        obtain ⟨y17, hy17, hm⟩ := bindS hm
        refine r_call [1] cf10 rfl rfl (ok_gleemake_Stream_Pick b0_ s0_0_ a0_0 y12.2 s16 [0, 5, 7] hy17) rfl rfl (.cons (.ro 2 rfl) (.cons (.row 0 rfl) .nil)) (fun _ => rfl) rfl (fun _ => ?_)
        refine lp rfl (p_bld [.int .i64 y17.1, .int .i64 1, .int .i64 0] rfl (fun _ => by kernel_rfl)) ?_
        refine r_sb (vs := [.int .i64 y17.1, .int .i64 1, .int .i64 0]) (j := 2) ty28 rfl rfl rfl rfl rfl rfl rfl ?_
        refine lj_nil ?_
        exact cnk15 _ _ (y17.2, y17.1, 1, 0) () (Option.some.inj hm).symm ⟨rfl, rfl, rfl, rfl, rfl, rfl, trivial⟩ (fun _ h => h.picks [0, 1, 1, 1] rfl)
      · have hm := ifB_f hb hm
        refine cj_skip ?_
        exact cnk15 _ _ (y12.2, y10.1.Root, y10.1.Kind, y10.1.Turn) () (Option.some.inj hm).symm ⟨rfl, rfl, rfl, rfl, rfl, rfl, trivial⟩ (fun _ h => h.picks [0, 0, 0, 0] rfl)
theorem ok_kit_Outside (a0 : Int) (a1 : Int) (a2 : Int) {r : Bool} (hm : m_kit_Outside a0 a1 a2 = some r) :
    Ctr Tryd.prog 71 [.int .i64 a0, .int .i64 a1, .int .i64 a2].toArray ([] : List Ent) [] (X := Unit) (fun _ => .bool r) (fun _ => []) := by
  unfold m_kit_Outside at hm
  refine ctr_mk (vs := [(0, .int .i64 a0), (1, .int .i64 a1), (2, .int .i64 a2)]) Tryd.func71 rfl Tryd.ntmps71 rfl ⟨rfl, rfl, rfl, trivial⟩ (fun w0 A => ?_)
  refine cj_seq ?_
  refine cj_reg ?_
  refine lp rfl (p_as rfl) ?_
  refine lj_seq ?_
  refine cj_seq ?_
  refine cj_reg ?_
  refine lp rfl (p_mv rfl) ?_
  refine lp rfl (p_mv rfl) ?_
  refine lp rfl (p_lss rfl rfl) ?_
  refine lp rfl (p_mv rfl) ?_
  refine lcase (i := 10) (decide (a0 < a1)) rfl (fun hb => ?_) (fun hb => ?_)
  · have hm := ifB_t hb hm
    refine ls false rfl rfl rfl rfl ?_
    refine ls false rfl rfl rfl rfl ?_
    refine ls false rfl rfl rfl rfl ?_
    refine lp rfl (p_pkt rfl rfl) ?_
    refine lp rfl (p_as rfl) ?_
    refine lj_seq ?_
    obtain rfl := Option.some.inj hm
    exact cj_rt () [] Tryd.results71 (.tmp rfl .nil) rfl rfl
  · have hm := ifB_f hb hm
    refine lg false rfl rfl rfl ?_
    refine lp rfl (p_mv rfl) ?_
    refine lg false rfl rfl rfl ?_
    refine lp rfl (p_mv rfl) ?_
    refine lg false rfl rfl rfl ?_
    refine lp rfl (p_gtr rfl rfl) ?_
    refine lp rfl (p_pkf rfl rfl) ?_
    refine lp rfl (p_as rfl) ?_
    refine lj_seq ?_
    obtain rfl := Option.some.inj hm
    exact cj_rt () [] Tryd.results71 (.tmp rfl .nil) rfl rfl
theorem ok_chord_notesFault_1 (a0 : Int) {r : Bool} (hm : m_chord_notesFault_1 a0 = some r) :
    Ctr Tryd.prog 121 [.int .i64 a0].toArray ([] : List Ent) [] (X := Unit) (fun _ => .bool r) (fun _ => []) := by
  unfold m_chord_notesFault_1 at hm
  refine ctr_mk (vs := [(0, .int .i64 a0)]) Tryd.func121 rfl Tryd.ntmps121 rfl ⟨rfl, trivial⟩ (fun w0 A => ?_)
  refine cj_seq ?_
  refine cj_reg ?_
  refine lp rfl (p_as rfl) ?_
  refine lj_seq ?_
  refine cj_seq ?_
  refine cj_reg ?_
  refine lp rfl (p_mv rfl) ?_
  obtain ⟨y1, hy1, hm⟩ := bindS hm
  refine r_call [] cf71 rfl rfl (ok_kit_Outside a0 0 127 hy1) rfl rfl .nil (fun _ => rfl) rfl (fun _ => ?_)
  refine lp rfl (p_as rfl) ?_
  refine lj_seq ?_
  obtain rfl := Option.some.inj hm
  exact cj_rt () [] Tryd.results121 (.tmp rfl .nil) rfl rfl
theorem ok_slices_IndexFunc_int_int__chord_notesFault_1 (s0_ : SV) (a0 : (List Int)) {r : Int} (hm : m_slices_IndexFunc_int_int__chord_notesFault_1 a0 = some r) :
    Ctr Tryd.prog 125 [s0_.v, .func (.func 121) #[] [].toArray].toArray ([] : List Ent) [RdS R3 (SV.v s0_) a0] (X := Unit) (fun _ => .int .i64 r) (fun _ => []) := by
  unfold m_slices_IndexFunc_int_int__chord_notesFault_1 at hm
  refine ctr_mk (vs := [(0, s0_.v), (1, .func (.func 121) #[] [].toArray)]) Tryd.func125 rfl Tryd.ntmps125 rfl ⟨rfl, rfl, trivial⟩ (fun w0 A => ?_)
  refine cj_seq ?_
  refine cj_reg ?_
  refine lp rfl (p_as rfl) ?_
  refine lj_seq ?_
  refine cj_seq ?_
  refine cj_seq ?_
  refine cj_reg ?_
  refine lp rfl (p_mv rfl) ?_
  refine lp rfl (p_len Tryd.underlying22 rfl (.ro 0 rfl)) ?_
  refine lp rfl (p_mv rfl) ?_
  refine lj_seq ?_
  obtain ⟨f7, hf7, hm⟩ := bindS hm
  refine cj_range (γ := Unit) (m := (a0.length : Int)) hf7 () (fun u4 g5 => [(0, s0_.v), (1, .func (.func 121) #[] [].toArray), (4, .int .i64 0)]) (fun u4 g5 => Sat w0 (keys ([] : List Ent)) A [.ro (RdS R3 (SV.v s0_) a0)]) ⟨rfl, rfl, rfl, rfl, rfl, trivial⟩ (fun _ h => h.picks [0] rfl) (nat_lt _) (fun _ h => (FactAt.get (.ro 0 rfl) h).1) (fun _ _ => ⟨rfl, rfl, rfl, rfl⟩) ⟨rfl, rfl, rfl, rfl, rfl⟩ rfl rfl rfl (fun u4 g5 e => ?_) (fun aftk6 i1 x2 u4 g5 k6 hx3 hs J hJk6 hBk6 hX I cnk6 => ?_)
  · have hm := Flow.fin_b e hm
    refine nj_seq ?_
    refine cj_seq ?_
    refine cj_reg ?_
    refine lp rfl (p_as rfl) ?_
    refine lj_seq ?_
    obtain rfl := Option.some.inj hm
    exact cj_rt () [] Tryd.results125 (.tmp rfl .nil) rfl rfl
  · have hRk6 : ∀ t, k6 = .ret t → some t = some r := fun t e => by rw [hX t e] at hm; exact hm
    have hm := hs
    refine cj_seq ?_
    refine cj_reg ?_
    refine lp rfl (p_mv rfl) ?_
    refine lp rfl (p_as rfl) ?_
    refine lj_seq ?_
    refine cj_seq ?_
    refine cj_reg ?_
    refine lp rfl (p_mv rfl) ?_
    refine lp rfl (p_mv rfl) ?_
    refine lp rfl (p_mv rfl) ?_
    refine lp rfl (p_idx Tryd.underlying22 ty3 rfl rfl (.ro 0 rfl) (getI_nat.trans hx3)) ?_
    refine lp rfl (p_lde (o := 0) ty3 rfl rfl (.ro 0 rfl) hx3 rfl) ?_
    obtain ⟨y8, hy8, hm⟩ := bindS hm
    refine r_call [] cf121 rfl rfl (ok_chord_notesFault_1 x2 hy8) rfl rfl .nil (fun _ => rfl) rfl (fun _ => ?_)
    refine lj_seq ?_
    refine cj_if (b := y8) rfl (fun hb => ?_) (fun hb => ?_)
    · have hm := ifB_t hb hm
      refine cj_seq ?_
      refine cj_reg ?_
      refine lp rfl (p_mv rfl) ?_
      refine lp rfl (p_as rfl) ?_
      refine lj_seq ?_
      have hm := hRk6 _ (Option.some.inj hm).symm
      obtain rfl := Option.some.inj hm
      exact cj_rt () [] Tryd.results125 (.tmp rfl .nil) rfl rfl
    · have hm := ifB_f hb hm
      refine cj_skip ?_
      refine nj_blk ?_
      exact cnk6 _ _ () () (hJk6 _ (Option.some.inj hm).symm) ⟨rfl, rfl, rfl, rfl, rfl, trivial⟩ (fun _ h => h.picks [0] rfl)
theorem ok_slices_ContainsFunc_int_int__chord_notesFault_1 (s0_ : SV) (a0 : (List Int)) {r : Bool} (hm : m_slices_ContainsFunc_int_int__chord_notesFault_1 a0 = some r) :
    Ctr Tryd.prog 76 [s0_.v, .func (.func 121) #[] [].toArray].toArray ([] : List Ent) [RdS R3 (SV.v s0_) a0] (X := Unit) (fun _ => .bool r) (fun _ => []) := by
  unfold m_slices_ContainsFunc_int_int__chord_notesFault_1 at hm
  refine ctr_mk (vs := [(0, s0_.v), (1, .func (.func 121) #[] [].toArray)]) Tryd.func76 rfl Tryd.ntmps76 rfl ⟨rfl, rfl, trivial⟩ (fun w0 A => ?_)
  refine cj_seq ?_
  refine cj_reg ?_
  refine lp rfl (p_as rfl) ?_
  refine lj_seq ?_
  refine cj_seq ?_
  refine cj_reg ?_
  refine lp rfl (p_mv rfl) ?_
  refine lp rfl (p_mv rfl) ?_
  obtain ⟨y1, hy1, hm⟩ := bindS hm
  refine r_call [] cf125 rfl rfl (ok_slices_IndexFunc_int_int__chord_notesFault_1 s0_ a0 hy1) rfl rfl (.cons (.ro 0 rfl) .nil) (fun _ => rfl) rfl (fun _ => ?_)
  refine lp rfl (p_geq rfl rfl) ?_
  refine lp rfl (p_as rfl) ?_
  refine lj_seq ?_
  obtain rfl := Option.some.inj hm
  exact cj_rt () [] Tryd.results76 (.tmp rfl .nil) rfl rfl
theorem ok_chord_notesFault (s0_ : SV) (a0 : (List Int)) (a1 : Int) {r : Int} (hm : m_chord_notesFault a0 a1 = some r) :
    Ctr Tryd.prog 64 [s0_.v, .int .i64 a1].toArray ([] : List Ent) [RdS R3 (SV.v s0_) a0] (X := Unit) (fun _ => .int .i64 r) (fun _ => []) := by
  unfold m_chord_notesFault at hm
  refine ctr_mk (vs := [(0, s0_.v), (1, .int .i64 a1)]) Tryd.func64 rfl Tryd.ntmps64 rfl ⟨rfl, rfl, trivial⟩ (fun w0 A => ?_)
  refine cj_seq ?_
  refine cj_reg ?_
  refine lp rfl (p_as rfl) ?_
  refine lj_seq ?_
  refine cj_seq ?_
  refine cj_blk ?_
  refine cj_seq ?_
  refine cj_reg ?_
  refine lp rfl (p_mv rfl) ?_
  refine lp rfl (p_len Tryd.underlying22 rfl (.ro 0 rfl)) ?_
  refine lp rfl (p_eql rfl rfl) ?_
  refine lp rfl (p_as rfl) ?_
  refine lj_seq ?_
  refine cj_if (b := (a0.length : Int) == 0) rfl (fun hb => ?_) (fun hb => ?_)
  · have hm := ifB_t hb hm
    refine cj_seq ?_
    refine cj_reg ?_
    refine lp rfl (p_as rfl) ?_
    refine lj_seq ?_
    obtain rfl := Option.some.inj hm
    exact cj_rt () [] Tryd.results64 (.tmp rfl .nil) rfl rfl
  · have hm := ifB_f hb hm
    refine cj_seq ?_
    refine cj_reg ?_
    refine lp rfl (p_mv rfl) ?_
    refine lp rfl (p_len Tryd.underlying22 rfl (.ro 0 rfl)) ?_
    refine lp rfl (p_mv rfl) ?_
    refine lp rfl (p_gtr rfl rfl) ?_
    refine lp rfl (p_as rfl) ?_
    refine lj_seq ?_
    refine cj_if (b := decide ((a0.length : Int) > a1)) rfl (fun hb => ?_) (fun hb => ?_)
    · have hm := ifB_t hb hm
      refine cj_seq ?_
      refine cj_reg ?_
      refine lp rfl (p_as rfl) ?_
      refine lj_seq ?_
      obtain rfl := Option.some.inj hm
      exact cj_rt () [] Tryd.results64 (.tmp rfl .nil) rfl rfl
    · have hm := ifB_f hb hm
      refine cj_seq ?_
      refine cj_reg ?_
      refine lp rfl (p_mv rfl) ?_
      obtain ⟨y1, hy1, hm⟩ := bindS hm
      refine r_call [] cf76 rfl rfl (ok_slices_ContainsFunc_int_int__chord_notesFault_1 s0_ a0 hy1) rfl rfl (.cons (.ro 0 rfl) .nil) (fun _ => rfl) rfl (fun _ => ?_)
      refine lp rfl (p_as rfl) ?_
      refine lj_seq ?_
      refine cj_if (b := y1) rfl (fun hb => ?_) (fun hb => ?_)
      · have hm := ifB_t hb hm
        refine cj_seq ?_
        refine cj_reg ?_
        refine lp rfl (p_as rfl) ?_
        refine lj_seq ?_
        obtain rfl := Option.some.inj hm
        exact cj_rt () [] Tryd.results64 (.tmp rfl .nil) rfl rfl
      · have hm := ifB_f hb hm
        refine cj_skip ?_
        refine nj_blk ?_
        refine nj_seq ?_
        refine cj_seq ?_
        refine cj_reg ?_
        refine lp rfl (p_as rfl) ?_
        refine lj_seq ?_
        obtain rfl := Option.some.inj hm
        exact cj_rt () [] Tryd.results64 (.tmp rfl .nil) rfl rfl
theorem ok_chord_set (s0_ : SV) (a0 : (List Int)) {r : (List Int)} (hm : m_chord_set a0 = some r) :
    Ctr Tryd.prog 65 [s0_.v].toArray ([] : List Ent) [RdS R3 (SV.v s0_) a0] (X := SV) (fun s => s.v) (fun s => [.row R3 (SV.v s) r]) := by
  unfold m_chord_set at hm
  refine ctr_mk (vs := [(0, s0_.v)]) Tryd.func65 rfl Tryd.ntmps65 rfl ⟨rfl, trivial⟩ (fun w0 A => ?_)
  refine cj_seq ?_
  refine cj_reg ?_
  refine lp rfl (p_as rfl) ?_
  refine lj_seq ?_
  refine cj_seq ?_
  refine cj_reg ?_
  refine lp rfl (p_as rfl) ?_
  refine lj_seq ?_
  refine cj_seq ?_
  refine cj_seq ?_
  refine cj_reg ?_
  refine lp rfl (p_mv rfl) ?_
  refine lp rfl (p_len Tryd.underlying22 rfl (.ro 0 rfl)) ?_
  refine lp rfl (p_mv rfl) ?_
  refine lj_seq ?_
  refine cj_nil R3 ?_
  obtain ⟨f8, hf8, hm⟩ := bindS hm
  refine cj_range (γ := SV) (m := (a0.length : Int)) hf8 nilS (fun u5 g6 => [(2, .slice none 0 0), (3, g6.v), (6, s0_.v)]) (fun u5 g6 => Sat w0 (keys ([] : List Ent)) A [.ro (RdS R3 (SV.v s0_) a0), .row R3 (SV.v g6) u5]) ⟨rfl, rfl, rfl, rfl, rfl, trivial⟩ (fun _ h => h.picks [1, 0] rfl) (nat_lt _) (fun _ h => (FactAt.get (.ro 1 rfl) h).1) (fun _ _ => ⟨rfl, rfl, rfl, rfl⟩) ⟨rfl, rfl, rfl, rfl, rfl⟩ rfl rfl rfl (fun u5 g6 e => ?_) (fun aftk7 i1 x2 u5 g6 k7 hx3 hs J hJk7 hBk7 hX I cnk7 => ?_)
  · have hm := Flow.fin_b e hm
    refine nj_seq ?_
    refine cj_seq ?_
    refine cj_reg ?_
    refine lp rfl (p_mv rfl) ?_
    obtain ⟨y14, hy14, hm⟩ := bindS hm
    refine r_call [1] cf122 rfl rfl (ok_slices_Sort_int_int g6 u5 hy14) rfl rfl .nil (fun _ => rfl) rfl (fun _ => ?_)
    refine lj_seq ?_
    refine cj_seq ?_
    refine cj_reg ?_
    refine lp rfl (p_mv rfl) ?_
    obtain ⟨y15, hy15, hm⟩ := bindS hm
    refine r_call [0] cf123 rfl rfl (ok_slices_Compact_int_int g6 y14 hy15) rfl rfl .nil (fun _ => rfl) rfl (fun s16 => ?_)
    refine lp rfl (p_as rfl) ?_
    refine lj_seq ?_
    obtain rfl := Option.some.inj hm
    exact cj_rt s16 [0] Tryd.results65 (.tmp rfl .nil) rfl rfl
  · have hRk7 : ∀ t, k7 = .ret t → some t = some r := fun t e => by rw [hX t e] at hm; exact hm
    have hm := hs
    refine cj_seq ?_
    refine cj_reg ?_
    refine lp rfl (p_idx Tryd.underlying22 ty3 rfl rfl (.ro 0 rfl) (getI_nat.trans hx3)) ?_
    refine lp rfl (p_lde (o := 0) ty3 rfl rfl (.ro 0 rfl) hx3 rfl) ?_
    refine lp rfl (p_as rfl) ?_
    refine lj_seq ?_
    refine cj_reg ?_
    refine lp rfl (p_mv rfl) ?_
    refine lp rfl (p_mv rfl) ?_
    refine lp rfl (p_rem rfl rfl (by decide)) ?_
    refine r_bs R3 [x2.tmod 12] rfl rfl rfl (fun _ => by kernel_rfl) rfl (fun s10 => ?_)
    obtain ⟨q11, hq11, hm⟩ := bindS hm
    refine r_app (k := 2) Tryd.underlying22 ty3 rfl rfl rfl rfl (.row 0 rfl) hq11 rfl (fun s12 => ?_)
    refine lp rfl (p_as rfl) ?_
    refine lj_nil ?_
    refine nj_blk ?_
    exact cnk7 _ _ q11 s12 (hJk7 _ (Option.some.inj hm).symm) ⟨rfl, rfl, rfl, rfl, rfl, trivial⟩ (fun _ h => h.picks [1, 1] rfl)
theorem ok_slices_Min_int_int (s0_ : SV) (a0 : (List Int)) {r : Int} (hm : m_slices_Min_int_int a0 = some r) :
    Ctr Tryd.prog 66 [s0_.v].toArray ([] : List Ent) [RdS R3 (SV.v s0_) a0] (X := Unit) (fun _ => .int .i64 r) (fun _ => []) := by
  unfold m_slices_Min_int_int at hm
  refine ctr_mk (vs := [(0, s0_.v)]) Tryd.func66 rfl Tryd.ntmps66 rfl ⟨rfl, trivial⟩ (fun w0 A => ?_)
  refine cj_seq ?_
  refine cj_reg ?_
  refine lp rfl (p_as rfl) ?_
  refine lj_seq ?_
  refine cj_seq ?_
  refine cj_seq ?_
  refine cj_reg ?_
  refine lp rfl (p_mv rfl) ?_
  refine lp rfl (p_len Tryd.underlying22 rfl (.ro 0 rfl)) ?_
  refine lp rfl (p_lss rfl rfl) ?_
  refine lj_seq ?_
  refine cj_if (b := decide ((a0.length : Int) < 1)) rfl (fun hb => ?_) (fun hb => ?_)
  · have hm := ifB_t hb hm
    cases hm
  · have hm := ifB_f hb hm
    refine cj_skip ?_
    refine nj_seq ?_
    refine cj_seq ?_
    refine cj_reg ?_
    refine lp rfl (p_mv rfl) ?_
    obtain ⟨e1, he1, hm⟩ := bindS hm
    refine lp rfl (p_idx Tryd.underlying22 ty3 rfl rfl (.ro 0 rfl) he1) ?_
    refine lp rfl (p_lde (o := 0) ty3 rfl rfl (.ro 0 rfl) (getI_spec he1).2 rfl) ?_
    refine lp rfl (p_as rfl) ?_
    refine lj_seq ?_
    refine cj_seq ?_
    refine cj_seq ?_
    refine cj_reg ?_
    refine lp rfl (p_as rfl) ?_
    refine lj_seq ?_
    obtain ⟨f5, hf5, hm⟩ := bindS hm
    refine cj_whileA (γ := Unit) hf5 () (fun u2 g3 => [(0, s0_.v), (2, .int .i64 0), (3, .int .i64 u2.1), (4, .int .i64 u2.2)]) (fun u2 g3 => Sat w0 (keys ([] : List Ent)) A [.ro (RdS R3 (SV.v s0_) a0)]) ⟨rfl, rfl, rfl, rfl, trivial⟩ (fun _ h => h.picks [0] rfl) (fun u2 g3 e => ?_) (fun aftk4 u2 g3 k4 hs J hJk4 hBk4 hX I cnk4 => ?_)
    · have hm := Flow.fin_b e hm
      refine nj_seq ?_
      refine cj_seq ?_
      refine cj_reg ?_
      refine lp rfl (p_mv rfl) ?_
      refine lp rfl (p_as rfl) ?_
      refine lj_seq ?_
      obtain rfl := Option.some.inj hm
      exact cj_rt () [] Tryd.results66 (.tmp rfl .nil) rfl rfl
    · have hRk4 : ∀ t, k4 = .ret t → some t = some r := fun t e => by rw [hX t e] at hm; exact hm
      have hm := hs
      refine cj_seq ?_
      refine cj_seq ?_
      refine cj_reg ?_
      refine lp rfl (p_mv rfl) ?_
      refine lp rfl (p_mv rfl) ?_
      refine lp rfl (p_len Tryd.underlying22 rfl (.ro 0 rfl)) ?_
      refine lp rfl (p_lss rfl rfl) ?_
      refine lj_seq ?_
      refine cj_if (b := decide (u2.2 < (a0.length : Int))) rfl (fun hb => ?_) (fun hb => ?_)
      · have hm := ifB_t hb hm
        refine cj_skip ?_
        refine nj_seq ?_
        refine cj_seq ?_
        refine cj_blk ?_
        refine cj_reg ?_
        refine lp rfl (p_mv rfl) ?_
        refine lp rfl (p_mv rfl) ?_
        refine lp rfl (p_mv rfl) ?_
        obtain ⟨e6, he6, hm⟩ := bindS hm
        refine lp rfl (p_idx Tryd.underlying22 ty3 rfl rfl (.ro 0 rfl) he6) ?_
        refine lp rfl (p_lde (o := 0) ty3 rfl rfl (.ro 0 rfl) (getI_spec he6).2 rfl) ?_
        refine lp rfl (p_min rfl rfl) ?_
        refine lp rfl (p_as rfl) ?_
        refine lj_nil ?_
        refine nj_blk ?_
        refine nj_seq ?_
        refine cj_reg ?_
        refine lp rfl (p_mv rfl) ?_
        refine lp rfl (p_add rfl rfl) ?_
        refine lp rfl (p_as rfl) ?_
        refine lj_nil ?_
        exact cnk4 _ _ (min u2.1 e6, w64 (u2.2 + 1)) () (hJk4 _ (Option.some.inj hm).symm) ⟨rfl, rfl, rfl, rfl, trivial⟩ (fun _ h => h.picks [0] rfl)
      · have hm := ifB_f hb hm
        refine cj_exit rfl ?_
        exact (aftk4 (u2.1, u2.2) () (hBk4 _ (Option.some.inj hm).symm)).sub ⟨rfl, rfl, rfl, rfl, trivial⟩ (fun _ h => h.picks [0] rfl)
theorem ok_chord_above (a0 : Int) {r : (List Int)} (hm : m_chord_above a0 = some r) :
    Ctr Tryd.prog 119 [.int .i64 a0].toArray ([] : List Ent) [] (X := SV) (fun s => s.v) (fun s => [.ro (RdS R3 (SV.v s) r)]) := by
  unfold m_chord_above at hm
  refine ctr_mk (vs := [(0, .int .i64 a0)]) Tryd.func119 rfl Tryd.ntmps119 rfl ⟨rfl, trivial⟩ (fun w0 A => ?_)
  refine cj_seq ?_
  refine cj_reg ?_
  refine lp rfl (p_as rfl) ?_
  refine lj_seq ?_
  refine cj_seq ?_
  refine cj_reg ?_
  refine r_bs R3 [0, 4, 7] rfl rfl rfl (fun _ => by kernel_rfl) rfl (fun s1 => ?_)
  refine r_bs R3 [0, 3, 7] rfl rfl rfl (fun _ => by kernel_rfl) rfl (fun s2 => ?_)
  refine r_bs R3 [0, 3, 6] rfl rfl rfl (fun _ => by kernel_rfl) rfl (fun s3 => ?_)
  refine r_bs R3 [0, 4, 8] rfl rfl rfl (fun _ => by kernel_rfl) rfl (fun s4 => ?_)
  refine r_bs R3 [0, 4, 7, 10] rfl rfl rfl (fun _ => by kernel_rfl) rfl (fun s5 => ?_)
  refine r_bs R3 [0, 4, 7, 11] rfl rfl rfl (fun _ => by kernel_rfl) rfl (fun s6 => ?_)
  refine r_bs R3 [0, 3, 7, 10] rfl rfl rfl (fun _ => by kernel_rfl) rfl (fun s7 => ?_)
  refine r_fz 6 rfl ?_
  refine r_fz 6 rfl ?_
  refine r_fz 6 rfl ?_
  refine r_fz 6 rfl ?_
  refine r_fz 6 rfl ?_
  refine r_fz 6 rfl ?_
  refine r_fz 6 rfl ?_
  refine r_fact (F := Lk N22 [[], [0, 4, 7], [0, 3, 7], [0, 3, 6], [0, 4, 8], [0, 4, 7, 10], [0, 4, 7, 11], [0, 3, 7, 10]] [([], nilS), ([0, 4, 7], s1), ([0, 3, 7], s2), ([0, 3, 6], s3), ([0, 4, 8], s4), ([0, 4, 7, 10], s5), ([0, 4, 7, 11], s6), ([0, 3, 7, 10], s7)]) (.imp (.and (.nilS R3) (.imp (.and (.ro 6 rfl) (.imp (.and (.ro 5 rfl) (.imp (.and (.ro 4 rfl) (.imp (.and (.ro 3 rfl) (.imp (.and (.ro 2 rfl) (.imp (.and (.ro 1 rfl) (.imp (.and (.ro 0 rfl) (.nilL N22)) (fun _ h => Lk.cons h.1 h.2))) (fun _ h => Lk.cons h.1 h.2))) (fun _ h => Lk.cons h.1 h.2))) (fun _ h => Lk.cons h.1 h.2))) (fun _ h => Lk.cons h.1 h.2))) (fun _ h => Lk.cons h.1 h.2))) (fun _ h => Lk.cons h.1 h.2))) (fun _ h => Lk.cons h.1 h.2)) ?_
  have hLs8 : (([([], nilS), ([0, 4, 7], s1), ([0, 3, 7], s2), ([0, 3, 6], s3), ([0, 4, 8], s4), ([0, 4, 7, 10], s5), ([0, 4, 7, 11], s6), ([0, 3, 7, 10], s7)] : List ((List Int) × SV)).map Prod.fst) = ([[], [0, 4, 7], [0, 3, 7], [0, 3, 6], [0, 4, 8], [0, 4, 7, 10], [0, 4, 7, 11], [0, 3, 7, 10]] : List (List Int)) := rfl
  refine r_bs N22.R [([], nilS), ([0, 4, 7], s1), ([0, 3, 7], s2), ([0, 3, 6], s3), ([0, 4, 8], s4), ([0, 4, 7, 10], s5), ([0, 4, 7, 11], s6), ([0, 3, 7, 10], s7)] rfl rfl rfl (fun _ => by kernel_rfl) rfl (fun s8 => ?_)
  refine lp rfl (p_mv rfl) ?_
  obtain ⟨e12, he12, hm⟩ := bindS hm
  obtain ⟨ge12, he12G⟩ := lk_getI hLs8 he12
  refine lp rfl (p_idx Tryd.underlying56 ty22 rfl rfl (.row 0 rfl) he12G) ?_
  refine lp rfl (p_lde (o := 0) ty22 rfl rfl (.row 0 rfl) (getI_spec he12G).2 rfl) ?_
  refine lp rfl (p_as rfl) ?_
  refine lj_seq ?_
  obtain rfl := Option.some.inj hm
  refine cj_fact (F := RdS R3 (SV.v ge12) e12) (.imp (.ro 1 rfl) (fun _ h => (Lk.at_ h (getI_spec he12G).2))) ?_
  exact cj_rt ge12 [0] Tryd.results119 (.tmp rfl .nil) rfl rfl
theorem ok_chord_tones (a0 : TChord) {r : (List Int)} (hm : m_chord_tones a0 = some r) :
    Ctr Tryd.prog 67 [.agg (R28.enc a0).toArray].toArray ([] : List Ent) [] (X := SV) (fun s => s.v) (fun s => [.row R3 (SV.v s) r]) := by
  unfold m_chord_tones at hm
  refine ctr_mk (vs := [(0, .agg (R28.enc a0).toArray)]) Tryd.func67 rfl Tryd.ntmps67 rfl ⟨rfl, trivial⟩ (fun w0 A => ?_)
  refine cj_seq ?_
  refine cj_reg ?_
  refine r_bx (cs := [.int .i64 a0.Root, .int .i64 a0.Kind, .int .i64 a0.Turn]) rfl rfl rfl (fun b1 => ?_)
  refine lp rfl (p_as rfl) ?_
  refine lj_seq ?_
  refine cj_seq ?_
  refine cj_reg ?_
  refine lp rfl (p_fab fl28_1 rfl) ?_
  refine lp rfl (p_lbs ty3 rfl (j := 0) rfl rfl) ?_
  obtain ⟨y2, hy2, hm⟩ := bindS hm
  refine r_callN [] cf119 rfl rfl (ok_chord_above a0.Kind hy2) rfl rfl .nil rfl (fun s3 => ?_)
  refine lp rfl (p_as rfl) ?_
  refine lj_seq ?_
  refine cj_seq ?_
  refine cj_reg ?_
  refine lp rfl (p_as rfl) ?_
  refine lj_seq ?_
  refine cj_seq ?_
  refine cj_seq ?_
  refine cj_reg ?_
  refine lp rfl (p_mv rfl) ?_
  refine lp rfl (p_len Tryd.underlying22 rfl (.ro 0 rfl)) ?_
  refine lp rfl (p_mv rfl) ?_
  refine lj_seq ?_
  refine cj_nil R3 ?_
  obtain ⟨f11, hf11, hm⟩ := bindS hm
  refine cj_range (γ := SV) (m := (y2.length : Int)) hf11 nilS (fun u8 g9 => [(1, .pointer (some ⟨b1, 0, none⟩)), (2, .slice none 0 0), (3, s3.v), (4, g9.v)]) (fun u8 g9 => Sat w0 (keys ([] : List Ent)) A [.ro (RdS R3 (SV.v s3) y2), .box b1 28 [.int .i64 a0.Root, .int .i64 a0.Kind, .int .i64 a0.Turn], .row R3 (SV.v g9) u8]) ⟨rfl, rfl, rfl, rfl, rfl, rfl, trivial⟩ (fun _ h => h.picks [1, 1, 0] rfl) (nat_lt _) (fun _ h => (FactAt.get (.ro 1 rfl) h).1) (fun _ _ => ⟨rfl, rfl, rfl, rfl⟩) ⟨rfl, rfl, rfl, rfl, rfl⟩ rfl rfl rfl (fun u8 g9 e => ?_) (fun aftk10 i4 x5 u8 g9 k10 hx6 hs J hJk10 hBk10 hX I cnk10 => ?_)
  · have hm := Flow.fin_b e hm
    refine nj_seq ?_
    refine cj_seq ?_
    refine cj_reg ?_
    refine lp rfl (p_mv rfl) ?_
    refine lp rfl (p_as rfl) ?_
    refine lj_seq ?_
    obtain rfl := Option.some.inj hm
    exact cj_rt g9 [2] Tryd.results67 (.tmp rfl .nil) rfl rfl
  · have hRk10 : ∀ t, k10 = .ret t → some t = some r := fun t e => by rw [hX t e] at hm; exact hm
    have hm := hs
    refine cj_seq ?_
    refine cj_reg ?_
    refine lp rfl (p_mv rfl) ?_
    refine lp rfl (p_as rfl) ?_
    refine lj_seq ?_
    refine cj_pure (F := RdS R3 (SV.v g9) u8) (.row 2 rfl) (fun _ h => h.pures) (fun hq18 => ?_)
    obtain ⟨z13, hz13, hm⟩ := bindS hm
    obtain ⟨e14, he14, hm⟩ := bindS hm
    obtain ⟨q16, hq16, hm⟩ := bindS hm
    refine cj_anyT [0, 1, 2, 3, 4, 5, 6, 7, 8, 9, 10, 11, 12, 13, 14, 17] [] (Sat w0 (keys ([] : List Ent)) A [.ro (RdS R3 (SV.v s3) y2), .box b1 28 [.int .i64 a0.Root, .int .i64 a0.Kind, .int .i64 a0.Turn]]) (Sat w0 (keys ([] : List Ent)) A [.ro (RdS R3 (SV.v s3) y2), .box b1 28 [.int .i64 a0.Root, .int .i64 a0.Kind, .int .i64 a0.Turn]]) (by kernel_rfl) ?_
    refine at_take2 0 rfl (by kernel_rfl) (by kernel_rfl) (by kernel_rfl) (fun _ h => h.picks [0, 0] rfl) rfl rfl (p_mv rfl) (fun _ h => h.picks [0, 0] rfl) ?_
    refine at_take2 1 rfl (by kernel_rfl) (by kernel_rfl) (by kernel_rfl) (fun _ h => h.picks [0, 0] rfl) rfl rfl (p_fab fl28_0 rfl) (fun _ h => h.picks [0, 0] rfl) ?_
    refine at_take2 2 rfl (by kernel_rfl) (by kernel_rfl) (by kernel_rfl) (fun _ h => h.picks [0, 0] rfl) rfl rfl (p_lbs ty3 rfl (j := 1) rfl rfl) (fun _ h => h.picks [0, 0] rfl) ?_
    refine at_take2 3 rfl (by kernel_rfl) (by kernel_rfl) (by kernel_rfl) (fun _ h => h.picks [0, 0] rfl) rfl rfl (p_mv rfl) (fun _ h => h.picks [0, 0] rfl) ?_
    refine at_take2 4 rfl (by kernel_rfl) (by kernel_rfl) (by kernel_rfl) (fun _ h => h.picks [0, 0] rfl) rfl rfl (p_mv rfl) (fun _ h => h.picks [0, 0] rfl) ?_
    refine at_take2 5 rfl (by kernel_rfl) (by kernel_rfl) (by kernel_rfl) (fun _ h => h.picks [0, 0] rfl) rfl rfl (p_fab fl28_2 rfl) (fun _ h => h.picks [0, 0] rfl) ?_
    refine at_take2 6 rfl (by kernel_rfl) (by kernel_rfl) (by kernel_rfl) (fun _ h => h.picks [0, 0] rfl) rfl rfl (p_lbs ty3 rfl (j := 1) rfl rfl) (fun _ h => h.picks [0, 0] rfl) ?_
    refine at_take2 7 rfl (by kernel_rfl) (by kernel_rfl) (by kernel_rfl) (fun _ h => h.picks [0, 0] rfl) rfl rfl (p_add rfl rfl) (fun _ h => h.picks [0, 0] rfl) ?_
    refine at_take2 8 rfl (by kernel_rfl) (by kernel_rfl) (by kernel_rfl) (fun _ h => h.picks [0, 0] rfl) rfl rfl (p_mv rfl) (fun _ h => h.picks [0, 0] rfl) ?_
    refine at_take2 9 rfl (by kernel_rfl) (by kernel_rfl) (by kernel_rfl) (fun _ h => h.picks [0, 0] rfl) rfl rfl (p_len Tryd.underlying22 rfl (.ro 0 rfl)) (fun _ h => h.picks [0, 0] rfl) ?_
    refine at_take2 10 rfl (by kernel_rfl) (by kernel_rfl) (by kernel_rfl) (fun _ h => h.picks [0, 0] rfl) rfl rfl (p_remM hz13 rfl rfl) (fun _ h => h.picks [0, 0] rfl) ?_
    refine at_take2 11 rfl (by kernel_rfl) (by kernel_rfl) (by kernel_rfl) (fun _ h => h.picks [0, 0] rfl) rfl rfl (p_idx Tryd.underlying22 ty3 rfl rfl (.ro 0 rfl) he14) (fun _ h => h.picks [0, 0] rfl) ?_
    refine at_take2 12 rfl (by kernel_rfl) (by kernel_rfl) (by kernel_rfl) (fun _ h => h.picks [0, 0] rfl) rfl rfl (p_lde (o := 0) ty3 rfl rfl (.ro 0 rfl) (getI_spec he14).2 rfl) (fun _ h => h.picks [0, 0] rfl) ?_
    refine at_take2 13 rfl (by kernel_rfl) (by kernel_rfl) (by kernel_rfl) (fun _ h => h.picks [0, 0] rfl) rfl rfl (p_add rfl rfl) (fun _ h => h.picks [0, 0] rfl) ?_
    refine at_take2 14 rfl (by kernel_rfl) (by kernel_rfl) (by kernel_rfl) (fun _ h => h.picks [0, 0] rfl) rfl rfl (p_rem rfl rfl (by decide)) (fun _ h => h.picks [0, 0] rfl) ?_
    refine at_each (rs := [15]) (by kernel_rfl) (by decide) ?_
    refine (.cons rfl (fun I cnI => ?_) .nil)
    · refine r_bs R3 [(w64 (a0.Root + e14)).tmod 12] rfl rfl rfl (fun _ => by kernel_rfl) rfl (fun s19 => ?_)
      refine lj_nil ?_
      refine cnI _ _ (sof1 rfl rfl (fun _ h => h.picks [1, 1] rfl)) ?_
      refine at_each (rs := [16]) (by kernel_rfl) (by decide) ?_
      refine (.cons rfl (fun I cnI => ?_) .nil)
      · refine r_app (k := 3) Tryd.underlying22 ty3 rfl rfl rfl rfl (.row 0 rfl) hq16 rfl (fun s20 => ?_)
        refine lj_nil ?_
        refine cnI _ _ (sof1 rfl rfl (fun _ h => h.picks [1, 1] rfl)) ?_
        refine at_take2 17 rfl (by kernel_rfl) (by kernel_rfl) (by kernel_rfl) (fun _ h => h.picks [0, 0] rfl) rfl rfl (p_as rfl) (fun _ h => h.picks [1, 1] rfl) ?_
        refine at_done (by kernel_rfl) ?_
        refine nj_blk ?_
        exact cnk10 _ _ q16 s20 (hJk10 _ (Option.some.inj hm).symm) ⟨rfl, rfl, rfl, rfl, rfl, rfl, trivial⟩ (fun _ h => h.picks [1, 1, 1] rfl)
theorem ok_slices_Equal_int_int (s0_ : SV) (a0 : (List Int)) (s1_ : SV) (a1 : (List Int)) {r : Bool} (hm : m_slices_Equal_int_int a0 a1 = some r) :
    Ctr Tryd.prog 27 [s0_.v, s1_.v].toArray ([] : List Ent) [RdS R3 (SV.v s0_) a0, RdS R3 (SV.v s1_) a1] (X := Unit) (fun _ => .bool r) (fun _ => []) := by
  unfold m_slices_Equal_int_int at hm
  refine ctr_mk (vs := [(0, s0_.v), (1, s1_.v)]) Tryd.func27 rfl Tryd.ntmps27 rfl ⟨rfl, rfl, trivial⟩ (fun w0 A => ?_)
  refine cj_seq ?_
  refine cj_reg ?_
  refine lp rfl (p_as rfl) ?_
  refine lj_seq ?_
  refine cj_seq ?_
  refine cj_seq ?_
  refine cj_reg ?_
  refine lp rfl (p_mv rfl) ?_
  refine lp rfl (p_len Tryd.underlying22 rfl (.ro 0 rfl)) ?_
  refine lp rfl (p_mv rfl) ?_
  refine lp rfl (p_len Tryd.underlying22 rfl (.ro 1 rfl)) ?_
  refine lp rfl (p_neq rfl rfl) ?_
  refine lj_seq ?_
  refine cj_if (b := (a0.length : Int) != (a1.length : Int)) rfl (fun hb => ?_) (fun hb => ?_)
  · have hm := ifB_t hb hm
    refine cj_seq ?_
    refine cj_reg ?_
    refine lp rfl (p_as rfl) ?_
    refine lj_seq ?_
    obtain rfl := Option.some.inj hm
    exact cj_rt () [] Tryd.results27 (.tmp rfl .nil) rfl rfl
  · have hm := ifB_f hb hm
    refine cj_skip ?_
    refine nj_seq ?_
    refine cj_seq ?_
    refine cj_seq ?_
    refine cj_reg ?_
    refine lp rfl (p_mv rfl) ?_
    refine lp rfl (p_len Tryd.underlying22 rfl (.ro 0 rfl)) ?_
    refine lp rfl (p_mv rfl) ?_
    refine lj_seq ?_
    obtain ⟨f7, hf7, hm⟩ := bindS hm
    refine cj_range (γ := Unit) (m := (a0.length : Int)) hf7 () (fun u4 g5 => [(0, s0_.v), (1, s1_.v), (4, .bool false)]) (fun u4 g5 => Sat w0 (keys ([] : List Ent)) A [.ro (RdS R3 (SV.v s0_) a0), .ro (RdS R3 (SV.v s1_) a1)]) ⟨rfl, rfl, rfl, rfl, rfl, trivial⟩ (fun _ h => h.picks [0, 0] rfl) (nat_lt _) (fun _ h => (FactAt.get (.ro 0 rfl) h).1) (fun _ _ => ⟨rfl, rfl, rfl, rfl⟩) ⟨rfl, rfl, rfl, rfl, rfl⟩ rfl rfl rfl (fun u4 g5 e => ?_) (fun aftk6 i1 x2 u4 g5 k6 hx3 hs J hJk6 hBk6 hX I cnk6 => ?_)
    · have hm := Flow.fin_b e hm
      refine nj_seq ?_
      refine cj_seq ?_
      refine cj_reg ?_
      refine lp rfl (p_as rfl) ?_
      refine lj_seq ?_
      obtain rfl := Option.some.inj hm
      exact cj_rt () [] Tryd.results27 (.tmp rfl .nil) rfl rfl
    · have hRk6 : ∀ t, k6 = .ret t → some t = some r := fun t e => by rw [hX t e] at hm; exact hm
      have hm := hs
      refine cj_seq ?_
      refine cj_reg ?_
      refine lp rfl (p_mv rfl) ?_
      refine lp rfl (p_as rfl) ?_
      refine lj_seq ?_
      refine cj_seq ?_
      refine cj_quiet (by kernel_rfl) (by kernel_rfl) ?_
      refine q_p rfl (p_mv rfl) ?_
      refine q_p rfl (p_mv rfl) ?_
      refine q_p rfl (p_idx Tryd.underlying22 ty3 rfl rfl (.ro 0 rfl) (getI_nat.trans hx3)) ?_
      refine q_p rfl (p_lde (o := 0) ty3 rfl rfl (.ro 0 rfl) hx3 rfl) ?_
      refine q_p rfl (p_mv rfl) ?_
      refine q_p rfl (p_mv rfl) ?_
      obtain ⟨e8, he8, hm⟩ := bindS hm
      refine q_p rfl (p_idx Tryd.underlying22 ty3 rfl rfl (.ro 1 rfl) he8) ?_
      refine q_p rfl (p_lde (o := 0) ty3 rfl rfl (.ro 1 rfl) (getI_spec he8).2 rfl) ?_
      refine q_p rfl (p_neq rfl rfl) ?_
      refine q_nil ?_
      refine nj_seq ?_
      refine cj_if (b := x2 != e8) rfl (fun hb => ?_) (fun hb => ?_)
      · have hm := ifB_t hb hm
        refine cj_seq ?_
        refine cj_reg ?_
        refine lp rfl (p_as rfl) ?_
        refine lj_seq ?_
        have hm := hRk6 _ (Option.some.inj hm).symm
        obtain rfl := Option.some.inj hm
        exact cj_rt () [] Tryd.results27 (.tmp rfl .nil) rfl rfl
      · have hm := ifB_f hb hm
        refine cj_skip ?_
        refine nj_blk ?_
        exact cnk6 _ _ () () (hJk6 _ (Option.some.inj hm).symm) ⟨rfl, rfl, rfl, rfl, rfl, trivial⟩ (fun _ h => h.picks [0, 0] rfl)
theorem ok_slices_Index_int_int (s0_ : SV) (a0 : (List Int)) (a1 : Int) {r : Int} (hm : m_slices_Index_int_int a0 a1 = some r) :
    Ctr Tryd.prog 68 [s0_.v, .int .i64 a1].toArray ([] : List Ent) [RdS R3 (SV.v s0_) a0] (X := Unit) (fun _ => .int .i64 r) (fun _ => []) := by
  unfold m_slices_Index_int_int at hm
  refine ctr_mk (vs := [(0, s0_.v), (1, .int .i64 a1)]) Tryd.func68 rfl Tryd.ntmps68 rfl ⟨rfl, rfl, trivial⟩ (fun w0 A => ?_)
  refine cj_seq ?_
  refine cj_reg ?_
  refine lp rfl (p_as rfl) ?_
  refine lj_seq ?_
  refine cj_seq ?_
  refine cj_seq ?_
  refine cj_reg ?_
  refine lp rfl (p_mv rfl) ?_
  refine lp rfl (p_len Tryd.underlying22 rfl (.ro 0 rfl)) ?_
  refine lp rfl (p_mv rfl) ?_
  refine lj_seq ?_
  obtain ⟨f7, hf7, hm⟩ := bindS hm
  refine cj_range (γ := Unit) (m := (a0.length : Int)) hf7 () (fun u4 g5 => [(0, s0_.v), (1, .int .i64 a1), (4, .int .i64 0)]) (fun u4 g5 => Sat w0 (keys ([] : List Ent)) A [.ro (RdS R3 (SV.v s0_) a0)]) ⟨rfl, rfl, rfl, rfl, rfl, trivial⟩ (fun _ h => h.picks [0] rfl) (nat_lt _) (fun _ h => (FactAt.get (.ro 0 rfl) h).1) (fun _ _ => ⟨rfl, rfl, rfl, rfl⟩) ⟨rfl, rfl, rfl, rfl, rfl⟩ rfl rfl rfl (fun u4 g5 e => ?_) (fun aftk6 i1 x2 u4 g5 k6 hx3 hs J hJk6 hBk6 hX I cnk6 => ?_)
  · have hm := Flow.fin_b e hm
    refine nj_seq ?_
    refine cj_seq ?_
    refine cj_reg ?_
    refine lp rfl (p_as rfl) ?_
    refine lj_seq ?_
    obtain rfl := Option.some.inj hm
    exact cj_rt () [] Tryd.results68 (.tmp rfl .nil) rfl rfl
  · have hRk6 : ∀ t, k6 = .ret t → some t = some r := fun t e => by rw [hX t e] at hm; exact hm
    have hm := hs
    refine cj_seq ?_
    refine cj_reg ?_
    refine lp rfl (p_mv rfl) ?_
    refine lp rfl (p_as rfl) ?_
    refine lj_seq ?_
    refine cj_seq ?_
    refine cj_reg ?_
    refine lp rfl (p_mv rfl) ?_
    refine lp rfl (p_mv rfl) ?_
    refine lp rfl (p_mv rfl) ?_
    refine lp rfl (p_idx Tryd.underlying22 ty3 rfl rfl (.ro 0 rfl) (getI_nat.trans hx3)) ?_
    refine lp rfl (p_lde (o := 0) ty3 rfl rfl (.ro 0 rfl) hx3 rfl) ?_
    refine lp rfl (p_eql rfl rfl) ?_
    refine lj_seq ?_
    refine cj_if (b := a1 == x2) rfl (fun hb => ?_) (fun hb => ?_)
    · have hm := ifB_t hb hm
      refine cj_seq ?_
      refine cj_reg ?_
      refine lp rfl (p_mv rfl) ?_
      refine lp rfl (p_as rfl) ?_
      refine lj_seq ?_
      have hm := hRk6 _ (Option.some.inj hm).symm
      obtain rfl := Option.some.inj hm
      exact cj_rt () [] Tryd.results68 (.tmp rfl .nil) rfl rfl
    · have hm := ifB_f hb hm
      refine cj_skip ?_
      refine nj_blk ?_
      exact cnk6 _ _ () () (hJk6 _ (Option.some.inj hm).symm) ⟨rfl, rfl, rfl, rfl, rfl, trivial⟩ (fun _ h => h.picks [0] rfl)
theorem ok_chord_Of (s0_ : SV) (a0 : (List Int)) {r : (List TChord) × Int} (hm : m_chord_Of a0 = some r) :
    Ctr Tryd.prog 13 [s0_.v].toArray ([] : List Ent) [RdS R3 (SV.v s0_) a0] (X := SV) (fun s => .tuple [s.v, .int .i64 r.2].toArray) (fun s => [.row R28 (SV.v s) r.1]) := by
  unfold m_chord_Of at hm
  refine ctr_mk (vs := [(0, s0_.v)]) Tryd.func13 rfl Tryd.ntmps13 rfl ⟨rfl, trivial⟩ (fun w0 A => ?_)
  refine cj_seq ?_
  refine cj_reg ?_
  refine lp rfl (p_as rfl) ?_
  refine lp rfl (p_as rfl) ?_
  refine lj_seq ?_
  refine cj_seq ?_
  refine cj_seq ?_
  refine cj_reg ?_
  refine lp rfl (p_mv rfl) ?_
  obtain ⟨y1, hy1, hm⟩ := bindS hm
  refine r_call [] cf64 rfl rfl (ok_chord_notesFault s0_ a0 12 hy1) rfl rfl (.cons (.ro 0 rfl) .nil) (fun _ => rfl) rfl (fun _ => ?_)
  refine lp rfl (p_as rfl) ?_
  refine lj_seq ?_
  refine cj_seq ?_
  refine cj_reg ?_
  refine lp rfl (p_mv rfl) ?_
  refine lp rfl (p_neq rfl rfl) ?_
  refine lj_seq ?_
  refine cj_if (b := y1 != 0) rfl (fun hb => ?_) (fun hb => ?_)
  · have hm := ifB_t hb hm
    refine cj_seq ?_
    refine cj_reg ?_
    refine lp rfl (p_mv rfl) ?_
    refine lp rfl (p_as rfl) ?_
    refine lp rfl (p_as rfl) ?_
    refine lj_seq ?_
    obtain rfl := Option.some.inj hm
    refine cj_nil R28 ?_
    exact cj_rt nilS [0] Tryd.results13 (.tmp rfl (.tmp rfl .nil)) rfl rfl
  · have hm := ifB_f hb hm
    refine cj_skip ?_
    refine nj_seq ?_
    refine cj_seq ?_
    refine cj_reg ?_
    refine lp rfl (p_mv rfl) ?_
    obtain ⟨y3, hy3, hm⟩ := bindS hm
    refine r_call [] cf65 rfl rfl (ok_chord_set s0_ a0 hy3) rfl rfl (.cons (.ro 0 rfl) .nil) (fun _ => rfl) rfl (fun s4 => ?_)
    refine lp rfl (p_as rfl) ?_
    refine lj_seq ?_
    refine cj_seq ?_
    refine cj_reg ?_
    refine lp rfl (p_mv rfl) ?_
    obtain ⟨y5, hy5, hm⟩ := bindS hm
    refine r_call [] cf66 rfl rfl (ok_slices_Min_int_int s0_ a0 hy5) rfl rfl (.cons (.ro 1 rfl) .nil) (fun _ => rfl) rfl (fun _ => ?_)
    refine lp rfl (p_rem rfl rfl (by decide)) ?_
    refine lp rfl (p_as rfl) ?_
    refine lj_seq ?_
    refine cj_seq ?_
    refine cj_reg ?_
    refine lp rfl (p_as rfl) ?_
    refine lj_seq ?_
    refine cj_seq ?_
    refine cj_seq ?_
    refine cj_reg ?_
    refine lp rfl (p_mv rfl) ?_
    refine lj_seq ?_
    refine cj_nil R28 ?_
    obtain ⟨L32, hL32, hm⟩ := bindS hm
    obtain ⟨f13, hf13, hm⟩ := bindS hm
    refine cj_rangeC (γ := SV) (m := 12) hf13 nilS (fun u10 g11 => [(2, .slice none 0 0), (3, .int .i64 0), (5, s4.v), (6, .int .i64 (y5.tmod 12)), (7, g11.v)]) (fun u10 g11 => Sat w0 (keys ([] : List Ent)) A [.row R3 (SV.v s4) y3, .row R28 (SV.v g11) u10]) ⟨rfl, rfl, rfl, rfl, rfl, rfl, trivial⟩ (fun _ h => h.picks [1, 0] rfl) (rangeI_spec hL32).1 (fun _ _ => (rangeI_spec hL32).2) (fun _ _ => ⟨rfl, rfl, rfl⟩) ⟨rfl, rfl⟩ rfl rfl rfl (fun u10 g11 e => ?_) (fun aftk12 i6 x7 u10 g11 k12 hx8 hs J hJk12 hBk12 hX I cnk12 => ?_)
    · have hm := Flow.fin_b e hm
      refine nj_seq ?_
      refine cj_seq ?_
      refine cj_reg ?_
      refine lp rfl (p_mv rfl) ?_
      refine lp rfl (p_as rfl) ?_
      refine lp rfl (p_as rfl) ?_
      refine lj_seq ?_
      obtain rfl := Option.some.inj hm
      exact cj_rt g11 [1] Tryd.results13 (.tmp rfl (.tmp rfl .nil)) rfl rfl
    · have hRk12 : ∀ t, k12 = .ret t → some t = some r := fun t e => by rw [hX t e] at hm; exact hm
      have hm := hs
      refine cj_seq ?_
      refine cj_reg ?_
      refine lp rfl (p_mv rfl) ?_
      refine lp rfl (p_as rfl) ?_
      refine lj_seq ?_
      refine cj_seq ?_
      refine cj_reg ?_
      refine lp rfl (p_as rfl) ?_
      refine lj_seq ?_
      obtain ⟨f18, hf18, hm⟩ := bindS hm
      refine cj_whileA (γ := SV) hf18 g11 (fun u15 g16 => [(2, .slice none 0 0), (3, .int .i64 0), (5, s4.v), (6, .int .i64 (y5.tmod 12)), (7, g16.v), (8, .int .i64 (i6 : Int)), (9, .int .i64 u15.1), (22, .int .i64 (i6 : Int))]) (fun u15 g16 => Sat w0 (keys ([] : List Ent)) A [.row R3 (SV.v s4) y3, .row R28 (SV.v g16) u15.2]) ⟨rfl, rfl, rfl, rfl, rfl, rfl, rfl, rfl, trivial⟩ (fun _ h => h.picks [0, 0] rfl) (fun u15 g16 e => ?_) (fun aftk17 u15 g16 k17 hs J hJk17 hBk17 hX I cnk17 => ?_)
      · have hm := Flow.fin_b e hm
        refine nj_blk ?_
        exact cnk12 _ _ u15.2 g16 (hJk12 _ (Option.some.inj hm).symm) ⟨rfl, rfl, rfl, rfl, rfl, rfl, trivial⟩ (fun _ h => h.picks [0, 0] rfl)
      · have hRk17 : ∀ t, k17 = .ret t → some t = some k12 := fun t e => by rw [hX t e] at hm; exact hm
        have hm := hs
        refine cj_seq ?_
        refine cj_seq ?_
        refine cj_reg ?_
        refine lp rfl (p_mv rfl) ?_
        refine lp rfl (p_leq rfl rfl) ?_
        refine lj_seq ?_
        refine cj_if (b := decide (u15.1 ≤ 7)) rfl (fun hb => ?_) (fun hb => ?_)
        · have hm := ifB_t hb hm
          refine cj_skip ?_
          refine nj_seq ?_
          refine cj_seq ?_
          refine cj_blk ?_
          refine cj_seq ?_
          refine cj_reg ?_
          refine lp rfl (p_mv rfl) ?_
          refine lp rfl (p_mv rfl) ?_
          refine lp rfl (p_bld [.int .i64 (i6 : Int), .int .i64 u15.1, .int .i64 0] rfl (fun _ => by kernel_rfl)) ?_
          refine r_al ty28 rfl (fun b20 => ?_)
          refine r_sb (vs := [.int .i64 (i6 : Int), .int .i64 u15.1, .int .i64 0]) (j := 0) ty28 rfl rfl rfl rfl rfl rfl rfl ?_
          refine lj_seq ?_
          refine cj_seq ?_
          refine cj_reg ?_
          refine lp rfl (p_lbw ty28 rfl (j := 0) rfl rfl) ?_
          obtain ⟨y21, hy21, hm⟩ := bindS hm
          refine r_call [] cf67 rfl rfl (ok_chord_tones (TChord.mk (i6 : Int) u15.1 0) hy21) rfl rfl .nil (fun _ => rfl) rfl (fun s22 => ?_)
          refine lp rfl (p_as rfl) ?_
          refine lj_seq ?_
          refine cj_seq ?_
          refine cj_reg ?_
          refine lp rfl (p_mv rfl) ?_
          obtain ⟨y23, hy23, hm⟩ := bindS hm
          refine r_call [] cf65 rfl rfl (ok_chord_set s22 y21 hy23) rfl rfl (.cons (.row 0 rfl) .nil) (fun _ => rfl) rfl (fun s24 => ?_)
          refine lp rfl (p_mv rfl) ?_
          obtain ⟨y25, hy25, hm⟩ := bindS hm
          refine r_call [] cf27 rfl rfl (ok_slices_Equal_int_int s24 y23 s4 y3 hy25) rfl rfl (.cons (.row 0 rfl) (.cons (.row 3 rfl) .nil)) (fun _ => rfl) rfl (fun _ => ?_)
          refine lj_seq ?_
          refine cj_if (b := y25) rfl (fun hb => ?_) (fun hb => ?_)
          · have hm := ifB_t hb hm
            refine cj_seq ?_
            refine cj_reg ?_
            refine lp rfl (p_mv rfl) ?_
            refine lp rfl (p_mv rfl) ?_
            obtain ⟨y26, hy26, hm⟩ := bindS hm
            refine r_call [] cf68 rfl rfl (ok_slices_Index_int_int s22 y21 (y5.tmod 12) hy26) rfl rfl (.cons (.row 1 rfl) .nil) (fun _ => rfl) rfl (fun _ => ?_)
            refine lp rfl (p_fab fl28_2 rfl) ?_
            refine r_sb (vs := [.int .i64 y26]) (j := 2) ty3 rfl rfl rfl rfl rfl rfl rfl ?_
            refine lj_seq ?_
            refine cj_reg ?_
            refine lp rfl (p_mv rfl) ?_
            refine lp rfl (p_lbw ty28 rfl (j := 2) rfl rfl) ?_
            refine r_bs R28 [(TChord.mk (i6 : Int) u15.1 y26)] rfl rfl rfl (fun _ => by kernel_rfl) rfl (fun s27 => ?_)
            obtain ⟨q28, hq28, hm⟩ := bindS hm
            refine r_app (k := 5) Tryd.underlying31 ty28 rfl rfl rfl rfl (.row 0 rfl) hq28 rfl (fun s29 => ?_)
            refine lp rfl (p_as rfl) ?_
            refine lj_nil ?_
            refine nj_blk ?_
            refine nj_seq ?_
            refine cj_reg ?_
            refine lp rfl (p_mv rfl) ?_
            refine lp rfl (p_add rfl rfl) ?_
            refine lp rfl (p_as rfl) ?_
            refine lj_nil ?_
            exact cnk17 _ _ (w64 (u15.1 + 1), q28) s29 (hJk17 _ (Option.some.inj hm).symm) ⟨rfl, rfl, rfl, rfl, rfl, rfl, rfl, rfl, trivial⟩ (fun _ h => h.picks [4, 4] rfl)
          · have hm := ifB_f hb hm
            refine cj_skip ?_
            refine nj_blk ?_
            refine nj_seq ?_
            refine cj_reg ?_
            refine lp rfl (p_mv rfl) ?_
            refine lp rfl (p_add rfl rfl) ?_
            refine lp rfl (p_as rfl) ?_
            refine lj_nil ?_
            exact cnk17 _ _ (w64 (u15.1 + 1), u15.2) g16 (hJk17 _ (Option.some.inj hm).symm) ⟨rfl, rfl, rfl, rfl, rfl, rfl, rfl, rfl, trivial⟩ (fun _ h => h.picks [3, 3] rfl)
        · have hm := ifB_f hb hm
          refine cj_exit rfl ?_
          exact (aftk17 (u15.1, u15.2) g16 (hBk17 _ (Option.some.inj hm).symm)).sub ⟨rfl, rfl, rfl, rfl, rfl, rfl, rfl, rfl, trivial⟩ (fun _ h => h.picks [0, 0] rfl)
theorem ok_chord_isKind (a0 : Int) {r : Bool} (hm : m_chord_isKind a0 = some r) :
    Ctr Tryd.prog 100 [.int .i64 a0].toArray ([] : List Ent) [] (X := Unit) (fun _ => .bool r) (fun _ => []) := by
  unfold m_chord_isKind at hm
  refine ctr_mk (vs := [(0, .int .i64 a0)]) Tryd.func100 rfl Tryd.ntmps100 rfl ⟨rfl, trivial⟩ (fun w0 A => ?_)
  refine cj_seq ?_
  refine cj_reg ?_
  refine lp rfl (p_as rfl) ?_
  refine lj_seq ?_
  refine cj_seq ?_
  refine cj_reg ?_
  refine lp rfl (p_mv rfl) ?_
  obtain ⟨y1, hy1, hm⟩ := bindS hm
  refine r_call [] cf71 rfl rfl (ok_kit_Outside a0 1 7 hy1) rfl rfl .nil (fun _ => rfl) rfl (fun _ => ?_)
  refine lp rfl (p_not rfl) ?_
  refine lp rfl (p_as rfl) ?_
  refine lj_seq ?_
  obtain rfl := Option.some.inj hm
  exact cj_rt () [] Tryd.results100 (.tmp rfl .nil) rfl rfl
theorem ok_chord_CheckChord (a0 : TChord) {r : Int} (hm : m_chord_CheckChord a0 = some r) :
    Ctr Tryd.prog 61 [.agg (R28.enc a0).toArray].toArray ([] : List Ent) [] (X := Unit) (fun _ => .int .i64 r) (fun _ => []) := by
  unfold m_chord_CheckChord at hm
  refine ctr_mk (vs := [(0, .agg (R28.enc a0).toArray)]) Tryd.func61 rfl Tryd.ntmps61 rfl ⟨rfl, trivial⟩ (fun w0 A => ?_)
  refine cj_seq ?_
  refine cj_reg ?_
  refine r_bx (cs := [.int .i64 a0.Root, .int .i64 a0.Kind, .int .i64 a0.Turn]) rfl rfl rfl (fun b1 => ?_)
  refine lp rfl (p_as rfl) ?_
  refine lj_seq ?_
  refine cj_seq ?_
  refine cj_seq ?_
  refine cj_reg ?_
  refine lp rfl (p_fab fl28_0 rfl) ?_
  refine lp rfl (p_lbs ty3 rfl (j := 0) rfl rfl) ?_
  obtain ⟨y2, hy2, hm⟩ := bindS hm
  refine r_call [] cf71 rfl rfl (ok_kit_Outside a0.Root 0 11 hy2) rfl rfl .nil (fun _ => rfl) rfl (fun _ => ?_)
  refine lj_seq ?_
  refine cj_if (b := y2) rfl (fun hb => ?_) (fun hb => ?_)
  · have hm := ifB_t hb hm
    refine cj_seq ?_
    refine cj_reg ?_
    refine lp rfl (p_as rfl) ?_
    refine lj_seq ?_
    obtain rfl := Option.some.inj hm
    exact cj_rt () [] Tryd.results61 (.tmp rfl .nil) rfl rfl
  · have hm := ifB_f hb hm
    refine cj_skip ?_
    refine nj_seq ?_
    refine cj_seq ?_
    refine cj_seq ?_
    refine cj_reg ?_
    refine lp rfl (p_fab fl28_1 rfl) ?_
    refine lp rfl (p_lbs ty3 rfl (j := 0) rfl rfl) ?_
    obtain ⟨y3, hy3, hm⟩ := bindS hm
    refine r_call [] cf100 rfl rfl (ok_chord_isKind a0.Kind hy3) rfl rfl .nil (fun _ => rfl) rfl (fun _ => ?_)
    refine lp rfl (p_not rfl) ?_
    refine lj_seq ?_
    refine cj_if (b := !y3) rfl (fun hb => ?_) (fun hb => ?_)
    · have hm := ifB_t hb hm
      refine cj_seq ?_
      refine cj_reg ?_
      refine lp rfl (p_as rfl) ?_
      refine lj_seq ?_
      obtain rfl := Option.some.inj hm
      exact cj_rt () [] Tryd.results61 (.tmp rfl .nil) rfl rfl
    · have hm := ifB_f hb hm
      refine cj_skip ?_
      refine nj_seq ?_
      refine cj_seq ?_
      refine cj_seq ?_
      obtain ⟨y4, hy4, hm⟩ := bindS hm
      obtain ⟨y6, hy6, hm⟩ := bindS hm
      refine cj_anyT [0, 1, 2, 3, 6] [] (Sat w0 (keys ([] : List Ent)) A [.box b1 28 [.int .i64 a0.Root, .int .i64 a0.Kind, .int .i64 a0.Turn]]) (Sat w0 (keys ([] : List Ent)) A [.box b1 28 [.int .i64 a0.Root, .int .i64 a0.Kind, .int .i64 a0.Turn]]) (by kernel_rfl) ?_
      refine at_take2 0 rfl (by kernel_rfl) (by kernel_rfl) (by kernel_rfl) (fun _ h => h.picks [0] rfl) rfl rfl (p_fab fl28_2 rfl) (fun _ h => h.picks [0] rfl) ?_
      refine at_take2 1 rfl (by kernel_rfl) (by kernel_rfl) (by kernel_rfl) (fun _ h => h.picks [0] rfl) rfl rfl (p_lbs ty3 rfl (j := 0) rfl rfl) (fun _ h => h.picks [0] rfl) ?_
      refine at_take2 2 rfl (by kernel_rfl) (by kernel_rfl) (by kernel_rfl) (fun _ h => h.picks [0] rfl) rfl rfl (p_fab fl28_1 rfl) (fun _ h => h.picks [0] rfl) ?_
      refine at_take2 3 rfl (by kernel_rfl) (by kernel_rfl) (by kernel_rfl) (fun _ h => h.picks [0] rfl) rfl rfl (p_lbs ty3 rfl (j := 0) rfl rfl) (fun _ h => h.picks [0] rfl) ?_
      refine at_each (rs := [4]) (by kernel_rfl) (by decide) ?_
      refine (.cons rfl (fun I cnI => ?_) .nil)
      · refine r_callN [] cf119 rfl rfl (ok_chord_above a0.Kind hy4) rfl rfl .nil rfl (fun s7 => ?_)
        refine lj_nil ?_
        refine cnI _ _ (sof1 rfl rfl (fun _ h => h.picks [1] rfl)) ?_
        refine at_each (rs := [5]) (by kernel_rfl) (by decide) ?_
        refine (.cons rfl (fun I cnI => ?_) .nil)
        · refine lp rfl (p_len Tryd.underlying22 rfl (.ro 0 rfl)) ?_
          refine lj_nil ?_
          refine cnI _ _ (sof1 rfl rfl (fun _ h => h.picks [1] rfl)) ?_
          refine at_take2 6 rfl (by kernel_rfl) (by kernel_rfl) (by kernel_rfl) (fun _ h => h.picks [0] rfl) rfl rfl (p_sub rfl rfl) (fun _ h => h.picks [1] rfl) ?_
          refine at_each (rs := [7]) (by kernel_rfl) (by decide) ?_
          refine (.cons rfl (fun I cnI => ?_) .nil)
          · refine r_call [] cf71 rfl rfl (ok_kit_Outside a0.Turn 0 (w64 ((y4.length : Int) - 1)) hy6) rfl rfl .nil (fun _ => rfl) rfl (fun _ => ?_)
            refine lj_nil ?_
            refine cnI _ _ (sof1 rfl rfl (fun _ h => h.picks [1] rfl)) ?_
            refine at_done (by kernel_rfl) ?_
            refine nj_seq ?_
            refine cj_if (b := y6) rfl (fun hb => ?_) (fun hb => ?_)
            · have hm := ifB_t hb hm
              refine cj_seq ?_
              refine cj_reg ?_
              refine lp rfl (p_as rfl) ?_
              refine lj_seq ?_
              obtain rfl := Option.some.inj hm
              exact cj_rt () [] Tryd.results61 (.tmp rfl .nil) rfl rfl
            · have hm := ifB_f hb hm
              refine cj_skip ?_
              refine nj_seq ?_
              refine cj_seq ?_
              refine cj_reg ?_
              refine lp rfl (p_as rfl) ?_
              refine lj_seq ?_
              obtain rfl := Option.some.inj hm
              exact cj_rt () [] Tryd.results61 (.tmp rfl .nil) rfl rfl
theorem ok_chord_checkAll (s0_ : SV) (a0 : (List TChord)) {r : Int} (hm : m_chord_checkAll a0 = some r) :
    Ctr Tryd.prog 69 [s0_.v].toArray ([] : List Ent) [RdS R28 (SV.v s0_) a0] (X := Unit) (fun _ => .int .i64 r) (fun _ => []) := by
  unfold m_chord_checkAll at hm
  refine ctr_mk (vs := [(0, s0_.v)]) Tryd.func69 rfl Tryd.ntmps69 rfl ⟨rfl, trivial⟩ (fun w0 A => ?_)
  refine cj_seq ?_
  refine cj_reg ?_
  refine lp rfl (p_as rfl) ?_
  refine lj_seq ?_
  refine cj_seq ?_
  refine cj_seq ?_
  refine cj_reg ?_
  refine lp rfl (p_mv rfl) ?_
  refine lp rfl (p_len Tryd.underlying31 rfl (.ro 0 rfl)) ?_
  refine lp rfl (p_mv rfl) ?_
  refine lj_seq ?_
  obtain ⟨f7, hf7, hm⟩ := bindS hm
  refine cj_range (γ := Unit) (m := (a0.length : Int)) hf7 () (fun u4 g5 => [(2, .int .i64 0), (6, s0_.v)]) (fun u4 g5 => Sat w0 (keys ([] : List Ent)) A [.ro (RdS R28 (SV.v s0_) a0)]) ⟨rfl, rfl, rfl, rfl, trivial⟩ (fun _ h => h.picks [0] rfl) (nat_lt _) (fun _ h => (FactAt.get (.ro 0 rfl) h).1) (fun _ _ => ⟨rfl, rfl, rfl, rfl⟩) ⟨rfl, rfl, rfl, rfl, rfl⟩ rfl rfl rfl (fun u4 g5 e => ?_) (fun aftk6 i1 x2 u4 g5 k6 hx3 hs J hJk6 hBk6 hX I cnk6 => ?_)
  · have hm := Flow.fin_b e hm
    refine nj_seq ?_
    refine cj_seq ?_
    refine cj_reg ?_
    refine lp rfl (p_as rfl) ?_
    refine lj_seq ?_
    obtain rfl := Option.some.inj hm
    exact cj_rt () [] Tryd.results69 (.tmp rfl .nil) rfl rfl
  · have hRk6 : ∀ t, k6 = .ret t → some t = some r := fun t e => by rw [hX t e] at hm; exact hm
    have hm := hs
    refine cj_seq ?_
    refine cj_reg ?_
    refine lp rfl (p_idx Tryd.underlying31 ty28 rfl rfl (.ro 0 rfl) (getI_nat.trans hx3)) ?_
    refine lp rfl (p_lea ty28 rfl (.ro 0 rfl) hx3) ?_
    refine r_al ty28 rfl (fun b8 => ?_)
    refine r_sb (vs := [.int .i64 x2.Root, .int .i64 x2.Kind, .int .i64 x2.Turn]) (j := 0) ty28 rfl rfl rfl rfl rfl rfl rfl ?_
    refine lj_seq ?_
    refine cj_seq ?_
    refine cj_reg ?_
    refine lp rfl (p_lbw ty28 rfl (j := 0) rfl rfl) ?_
    obtain ⟨y9, hy9, hm⟩ := bindS hm
    refine r_call [] cf61 rfl rfl (ok_chord_CheckChord x2 hy9) rfl rfl .nil (fun _ => rfl) rfl (fun _ => ?_)
    refine lp rfl (p_as rfl) ?_
    refine lj_seq ?_
    refine cj_seq ?_
    refine cj_reg ?_
    refine lp rfl (p_mv rfl) ?_
    refine lp rfl (p_neq rfl rfl) ?_
    refine lj_seq ?_
    refine cj_if (b := y9 != 0) rfl (fun hb => ?_) (fun hb => ?_)
    · have hm := ifB_t hb hm
      refine cj_seq ?_
      refine cj_reg ?_
      refine lp rfl (p_mv rfl) ?_
      refine lp rfl (p_as rfl) ?_
      refine lj_seq ?_
      have hm := hRk6 _ (Option.some.inj hm).symm
      obtain rfl := Option.some.inj hm
      exact cj_rt () [] Tryd.results69 (.tmp rfl .nil) rfl rfl
    · have hm := ifB_f hb hm
      refine cj_skip ?_
      refine nj_blk ?_
      exact cnk6 _ _ () () (hJk6 _ (Option.some.inj hm).symm) ⟨rfl, rfl, rfl, rfl, trivial⟩ (fun _ h => h.picks [1] rfl)
theorem ok_slices_Contains_int_int (s0_ : SV) (a0 : (List Int)) (a1 : Int) {r : Bool} (hm : m_slices_Contains_int_int a0 a1 = some r) :
    Ctr Tryd.prog 70 [s0_.v, .int .i64 a1].toArray ([] : List Ent) [RdS R3 (SV.v s0_) a0] (X := Unit) (fun _ => .bool r) (fun _ => []) := by
  unfold m_slices_Contains_int_int at hm
  refine ctr_mk (vs := [(0, s0_.v), (1, .int .i64 a1)]) Tryd.func70 rfl Tryd.ntmps70 rfl ⟨rfl, rfl, trivial⟩ (fun w0 A => ?_)
  refine cj_seq ?_
  refine cj_reg ?_
  refine lp rfl (p_as rfl) ?_
  refine lj_seq ?_
  refine cj_seq ?_
  refine cj_reg ?_
  refine lp rfl (p_mv rfl) ?_
  refine lp rfl (p_mv rfl) ?_
  obtain ⟨y1, hy1, hm⟩ := bindS hm
  refine r_call [] cf68 rfl rfl (ok_slices_Index_int_int s0_ a0 a1 hy1) rfl rfl (.cons (.ro 0 rfl) .nil) (fun _ => rfl) rfl (fun _ => ?_)
  refine lp rfl (p_geq rfl rfl) ?_
  refine lp rfl (p_as rfl) ?_
  refine lj_seq ?_
  obtain rfl := Option.some.inj hm
  exact cj_rt () [] Tryd.results70 (.tmp rfl .nil) rfl rfl
theorem ok_chord_Shared (a0 : TChord) (a1 : TChord) {r : Int × Int} (hm : m_chord_Shared a0 a1 = some r) :
    Ctr Tryd.prog 14 [.agg (R28.enc a0).toArray, .agg (R28.enc a1).toArray].toArray ([] : List Ent) [] (X := Unit) (fun _ => .tuple [.int .i64 r.1, .int .i64 r.2].toArray) (fun _ => []) := by
  unfold m_chord_Shared at hm
  refine ctr_mk (vs := [(0, .agg (R28.enc a0).toArray), (1, .agg (R28.enc a1).toArray)]) Tryd.func14 rfl Tryd.ntmps14 rfl ⟨rfl, rfl, trivial⟩ (fun w0 A => ?_)
  refine cj_seq ?_
  refine cj_reg ?_
  refine r_bx (cs := [.int .i64 a0.Root, .int .i64 a0.Kind, .int .i64 a0.Turn]) rfl rfl rfl (fun b1 => ?_)
  refine r_bx (cs := [.int .i64 a1.Root, .int .i64 a1.Kind, .int .i64 a1.Turn]) rfl rfl rfl (fun b2 => ?_)
  refine lp rfl (p_as rfl) ?_
  refine lp rfl (p_as rfl) ?_
  refine lj_seq ?_
  refine cj_seq ?_
  refine cj_seq ?_
  refine cj_reg ?_
  refine lp rfl (p_lbw ty28 rfl (j := 1) rfl rfl) ?_
  refine lp rfl (p_lbw ty28 rfl (j := 0) rfl rfl) ?_
  refine r_bs R28 [a0, a1] rfl rfl rfl (fun _ => by kernel_rfl) rfl (fun s3 => ?_)
  obtain ⟨y4, hy4, hm⟩ := bindS hm
  refine r_call [] cf69 rfl rfl (ok_chord_checkAll s3 [a0, a1] hy4) rfl rfl (.cons (.row 0 rfl) .nil) (fun _ => rfl) rfl (fun _ => ?_)
  refine lp rfl (p_as rfl) ?_
  refine lj_seq ?_
  refine cj_seq ?_
  refine cj_reg ?_
  refine lp rfl (p_mv rfl) ?_
  refine lp rfl (p_neq rfl rfl) ?_
  refine lj_seq ?_
  refine cj_if (b := y4 != 0) rfl (fun hb => ?_) (fun hb => ?_)
  · have hm := ifB_t hb hm
    refine cj_seq ?_
    refine cj_reg ?_
    refine lp rfl (p_mv rfl) ?_
    refine lp rfl (p_as rfl) ?_
    refine lp rfl (p_as rfl) ?_
    refine lj_seq ?_
    obtain rfl := Option.some.inj hm
    exact cj_rt () [] Tryd.results14 (.tmp rfl (.tmp rfl .nil)) rfl rfl
  · have hm := ifB_f hb hm
    refine cj_skip ?_
    refine nj_seq ?_
    refine cj_seq ?_
    refine cj_reg ?_
    refine lp rfl (p_as rfl) ?_
    refine lj_seq ?_
    refine cj_seq ?_
    refine cj_seq ?_
    refine cj_reg ?_
    refine lp rfl (p_lbw ty28 rfl (j := 2) rfl rfl) ?_
    obtain ⟨y5, hy5, hm⟩ := bindS hm
    refine r_call [] cf67 rfl rfl (ok_chord_tones a0 hy5) rfl rfl .nil (fun _ => rfl) rfl (fun s6 => ?_)
    refine lp rfl (p_len Tryd.underlying22 rfl (.row 0 rfl)) ?_
    refine lp rfl (p_mv rfl) ?_
    refine lj_seq ?_
    obtain ⟨f13, hf13, hm⟩ := bindS hm
    refine cj_range (γ := Unit) (m := (y5.length : Int)) hf13 () (fun u10 g11 => [(3, .pointer (some ⟨b2, 0, none⟩)), (4, .int .i64 0), (5, .int .i64 0), (7, .int .i64 u10), (18, s6.v)]) (fun u10 g11 => Sat w0 (keys ([] : List Ent)) A [.row R3 (SV.v s6) y5, .box b2 28 [.int .i64 a1.Root, .int .i64 a1.Kind, .int .i64 a1.Turn]]) ⟨rfl, rfl, rfl, rfl, rfl, rfl, rfl, trivial⟩ (fun _ h => h.picks [0, 1] rfl) (nat_lt _) (fun _ h => (FactAt.get (.row 0 rfl) h).1) (fun _ _ => ⟨rfl, rfl, rfl, rfl⟩) ⟨rfl, rfl, rfl, rfl, rfl⟩ rfl rfl rfl (fun u10 g11 e => ?_) (fun aftk12 i7 x8 u10 g11 k12 hx9 hs J hJk12 hBk12 hX I cnk12 => ?_)
    · have hm := Flow.fin_b e hm
      refine nj_seq ?_
      refine cj_seq ?_
      refine cj_reg ?_
      refine lp rfl (p_mv rfl) ?_
      refine lp rfl (p_as rfl) ?_
      refine lp rfl (p_as rfl) ?_
      refine lj_seq ?_
      obtain rfl := Option.some.inj hm
      exact cj_rt () [] Tryd.results14 (.tmp rfl (.tmp rfl .nil)) rfl rfl
    · have hRk12 : ∀ t, k12 = .ret t → some t = some r := fun t e => by rw [hX t e] at hm; exact hm
      have hm := hs
      refine cj_seq ?_
      refine cj_reg ?_
      refine lp rfl (p_idx Tryd.underlying22 ty3 rfl rfl (.row 0 rfl) (getI_nat.trans hx9)) ?_
      refine lp rfl (p_lde (o := 0) ty3 rfl rfl (.row 0 rfl) hx9 rfl) ?_
      refine lp rfl (p_as rfl) ?_
      refine lj_seq ?_
      refine cj_seq ?_
      refine cj_reg ?_
      refine lp rfl (p_lbw ty28 rfl (j := 1) rfl rfl) ?_
      obtain ⟨y14, hy14, hm⟩ := bindS hm
      refine r_call [] cf67 rfl rfl (ok_chord_tones a1 hy14) rfl rfl .nil (fun _ => rfl) rfl (fun s15 => ?_)
      refine lp rfl (p_mv rfl) ?_
      obtain ⟨y16, hy16, hm⟩ := bindS hm
      refine r_call [] cf70 rfl rfl (ok_slices_Contains_int_int s15 y14 x8 hy16) rfl rfl (.cons (.row 0 rfl) .nil) (fun _ => rfl) rfl (fun _ => ?_)
      refine lj_seq ?_
      refine cj_if (b := y16) rfl (fun hb => ?_) (fun hb => ?_)
      · have hm := ifB_t hb hm
        refine cj_reg ?_
        refine lp rfl (p_mv rfl) ?_
        refine lp rfl (p_add rfl rfl) ?_
        refine lp rfl (p_as rfl) ?_
        refine lj_nil ?_
        refine nj_blk ?_
        exact cnk12 _ _ (w64 (u10 + 1)) () (hJk12 _ (Option.some.inj hm).symm) ⟨rfl, rfl, rfl, rfl, rfl, rfl, rfl, trivial⟩ (fun _ h => h.picks [1, 1] rfl)
      · have hm := ifB_f hb hm
        refine cj_skip ?_
        refine nj_blk ?_
        exact cnk12 _ _ u10 () (hJk12 _ (Option.some.inj hm).symm) ⟨rfl, rfl, rfl, rfl, rfl, rfl, rfl, trivial⟩ (fun _ h => h.picks [1, 1] rfl)
theorem ok_chord_Shift (a0 : TChord) (a1 : Int) {r : TChord × Int} (hm : m_chord_Shift a0 a1 = some r) :
    Ctr Tryd.prog 15 [.agg (R28.enc a0).toArray, .int .i64 a1].toArray ([] : List Ent) [] (X := Unit) (fun _ => .tuple [.agg (R28.enc r.1).toArray, .int .i64 r.2].toArray) (fun _ => []) := by
  unfold m_chord_Shift at hm
  refine ctr_mk (vs := [(0, .agg (R28.enc a0).toArray), (1, .int .i64 a1)]) Tryd.func15 rfl Tryd.ntmps15 rfl ⟨rfl, rfl, trivial⟩ (fun w0 A => ?_)
  refine cj_seq ?_
  refine cj_reg ?_
  refine r_bx (cs := [.int .i64 a0.Root, .int .i64 a0.Kind, .int .i64 a0.Turn]) rfl rfl rfl (fun b1 => ?_)
  refine r_al ty28 rfl (fun b2 => ?_)
  refine lp rfl (p_as rfl) ?_
  refine lj_seq ?_
  refine cj_seq ?_
  refine cj_seq ?_
  refine cj_reg ?_
  refine lp rfl (p_lbw ty28 rfl (j := 1) rfl rfl) ?_
  obtain ⟨y3, hy3, hm⟩ := bindS hm
  refine r_call [] cf61 rfl rfl (ok_chord_CheckChord a0 hy3) rfl rfl .nil (fun _ => rfl) rfl (fun _ => ?_)
  refine lp rfl (p_as rfl) ?_
  refine lj_seq ?_
  refine cj_seq ?_
  refine cj_reg ?_
  refine lp rfl (p_mv rfl) ?_
  refine lp rfl (p_neq rfl rfl) ?_
  refine lj_seq ?_
  refine cj_if (b := y3 != 0) rfl (fun hb => ?_) (fun hb => ?_)
  · have hm := ifB_t hb hm
    refine cj_seq ?_
    refine cj_reg ?_
    refine lp rfl (p_bld [.int .i64 0, .int .i64 0, .int .i64 0] rfl (fun _ => by kernel_rfl)) ?_
    refine lp rfl (p_mv rfl) ?_
    refine r_sb (vs := [.int .i64 0, .int .i64 0, .int .i64 0]) (j := 0) ty28 rfl rfl rfl rfl rfl rfl rfl ?_
    refine lp rfl (p_as rfl) ?_
    refine lj_seq ?_
    obtain rfl := Option.some.inj hm
    exact cj_rt () [] Tryd.results15 (.agg (k := 0) ty28 rfl rfl rfl (.tmp rfl .nil)) rfl rfl
  · have hm := ifB_f hb hm
    refine cj_skip ?_
    refine nj_seq ?_
    refine cj_seq ?_
    refine cj_seq ?_
    refine cj_reg ?_
    refine lp rfl (p_mv rfl) ?_
    obtain ⟨y4, hy4, hm⟩ := bindS hm
    refine r_call [] cf71 rfl rfl (ok_kit_Outside a1 (-127) 127 hy4) rfl rfl .nil (fun _ => rfl) rfl (fun _ => ?_)
    refine lj_seq ?_
    refine cj_if (b := y4) rfl (fun hb => ?_) (fun hb => ?_)
    · have hm := ifB_t hb hm
      refine cj_seq ?_
      refine cj_reg ?_
      refine lp rfl (p_bld [.int .i64 0, .int .i64 0, .int .i64 0] rfl (fun _ => by kernel_rfl)) ?_
      refine r_sb (vs := [.int .i64 0, .int .i64 0, .int .i64 0]) (j := 0) ty28 rfl rfl rfl rfl rfl rfl rfl ?_
      refine lp rfl (p_as rfl) ?_
      refine lj_seq ?_
      obtain rfl := Option.some.inj hm
      exact cj_rt () [] Tryd.results15 (.agg (k := 0) ty28 rfl rfl rfl (.tmp rfl .nil)) rfl rfl
    · have hm := ifB_f hb hm
      refine cj_skip ?_
      refine nj_seq ?_
      refine cj_seq ?_
      refine cj_reg ?_
      refine lp rfl (p_fab fl28_0 rfl) ?_
      refine lp rfl (p_lbs ty3 rfl (j := 1) rfl rfl) ?_
      refine lp rfl (p_mv rfl) ?_
      refine lp rfl (p_add rfl rfl) ?_
      refine lp rfl (p_rem rfl rfl (by decide)) ?_
      refine lp rfl (p_add rfl rfl) ?_
      refine lp rfl (p_rem rfl rfl (by decide)) ?_
      refine lp rfl (p_fab fl28_0 rfl) ?_
      refine r_sb (vs := [.int .i64 ((w64 (((w64 (a0.Root + a1)).tmod 12) + 12)).tmod 12)]) (j := 1) ty3 rfl rfl rfl rfl rfl rfl rfl ?_
      refine lj_seq ?_
      refine cj_seq ?_
      refine cj_reg ?_
      refine lp rfl (p_lbw ty28 rfl (j := 1) rfl rfl) ?_
      refine r_sb (vs := [.int .i64 ((w64 (((w64 (a0.Root + a1)).tmod 12) + 12)).tmod 12), .int .i64 a0.Kind, .int .i64 a0.Turn]) (j := 0) ty28 rfl rfl rfl rfl rfl rfl rfl ?_
      refine lp rfl (p_as rfl) ?_
      refine lj_seq ?_
      obtain rfl := Option.some.inj hm
      exact cj_rt () [] Tryd.results15 (.agg (k := 0) ty28 rfl rfl rfl (.tmp rfl .nil)) rfl rfl
theorem ok_chord_rowFault (s0_ : SV) (a0 : (List TChord)) {r : Int} (hm : m_chord_rowFault a0 = some r) :
    Ctr Tryd.prog 72 [s0_.v].toArray ([] : List Ent) [RdS R28 (SV.v s0_) a0] (X := Unit) (fun _ => .int .i64 r) (fun _ => []) := by
  unfold m_chord_rowFault at hm
  refine ctr_mk (vs := [(0, s0_.v)]) Tryd.func72 rfl Tryd.ntmps72 rfl ⟨rfl, trivial⟩ (fun w0 A => ?_)
  refine cj_seq ?_
  refine cj_reg ?_
  refine lp rfl (p_as rfl) ?_
  refine lj_seq ?_
  refine cj_seq ?_
  refine cj_seq ?_
  refine cj_reg ?_
  refine lp rfl (p_mv rfl) ?_
  refine lp rfl (p_len Tryd.underlying31 rfl (.ro 0 rfl)) ?_
  refine lp rfl (p_gtr rfl rfl) ?_
  refine lj_seq ?_
  refine cj_if (b := decide ((a0.length : Int) > 144)) rfl (fun hb => ?_) (fun hb => ?_)
  · have hm := ifB_t hb hm
    refine cj_seq ?_
    refine cj_reg ?_
    refine lp rfl (p_as rfl) ?_
    refine lj_seq ?_
    obtain rfl := Option.some.inj hm
    exact cj_rt () [] Tryd.results72 (.tmp rfl .nil) rfl rfl
  · have hm := ifB_f hb hm
    refine cj_skip ?_
    refine nj_seq ?_
    refine cj_seq ?_
    refine cj_reg ?_
    refine lp rfl (p_mv rfl) ?_
    obtain ⟨y1, hy1, hm⟩ := bindS hm
    refine r_call [] cf69 rfl rfl (ok_chord_checkAll s0_ a0 hy1) rfl rfl (.cons (.ro 0 rfl) .nil) (fun _ => rfl) rfl (fun _ => ?_)
    refine lp rfl (p_as rfl) ?_
    refine lj_seq ?_
    obtain rfl := Option.some.inj hm
    exact cj_rt () [] Tryd.results72 (.tmp rfl .nil) rfl rfl
theorem ok_chord_Keys_1 (a0 : Int) (b1_ : Nat) (s1_0_ : SV) (a1_0 : (List Int)) (b2_ : Nat) (a2_0 : Int) {r : Bool} (hm : m_chord_Keys_1 a0 a1_0 a2_0 = some r) :
    Ctr Tryd.prog 73 [.int .i64 a0, .pointer (some ⟨b1_, 0, none⟩), .pointer (some ⟨b2_, 0, none⟩)].toArray ([] : List Ent) [BoxS b1_ 22 [s1_0_.v], RdS R3 (SV.v s1_0_) a1_0, BoxS b2_ 3 [.int .i64 a2_0]] (X := Unit) (fun _ => .bool r) (fun _ => []) := by
  unfold m_chord_Keys_1 at hm
  refine ctr_mk (vs := [(0, .int .i64 a0), (1, .pointer (some ⟨b1_, 0, none⟩)), (2, .pointer (some ⟨b2_, 0, none⟩))]) Tryd.func73 rfl Tryd.ntmps73 rfl ⟨rfl, rfl, rfl, trivial⟩ (fun w0 A => ?_)
  refine cj_seq ?_
  refine cj_reg ?_
  refine lp rfl (p_as rfl) ?_
  refine lj_seq ?_
  refine cj_seq ?_
  refine cj_reg ?_
  refine lp rfl (p_rbs ty22 rfl (.ro 0 rfl) rfl) ?_
  refine lp rfl (p_mv rfl) ?_
  refine lp rfl (p_rbs ty3 rfl (.ro 2 rfl) rfl) ?_
  refine lp rfl (p_sub rfl rfl) ?_
  refine lp rfl (p_add rfl rfl) ?_
  refine lp rfl (p_rem rfl rfl (by decide)) ?_
  obtain ⟨y1, hy1, hm⟩ := bindS hm
  refine r_call [] cf70 rfl rfl (ok_slices_Contains_int_int s1_0_ a1_0 ((w64 ((w64 (a0 - a2_0)) + 12)).tmod 12) hy1) rfl rfl (.cons (.ro 1 rfl) .nil) (fun _ => rfl) rfl (fun _ => ?_)
  refine lp rfl (p_not rfl) ?_
  refine lp rfl (p_as rfl) ?_
  refine lj_seq ?_
  obtain rfl := Option.some.inj hm
  exact cj_rt () [] Tryd.results73 (.tmp rfl .nil) rfl rfl
theorem ok_slices_IndexFunc_int_int__chord_Keys_1 (s0_ : SV) (a0 : (List Int)) (b1_c0_ : Nat) (s1_c0_0_ : SV) (a1_c0_0 : (List Int)) (b1_c1_ : Nat) (a1_c1_0 : Int) {r : Int} (hm : m_slices_IndexFunc_int_int__chord_Keys_1 a0 a1_c0_0 a1_c1_0 = some r) :
    Ctr Tryd.prog 125 [s0_.v, .func (.func 73) #[] [.pointer (some ⟨b1_c0_, 0, none⟩), .pointer (some ⟨b1_c1_, 0, none⟩)].toArray].toArray ([] : List Ent) [RdS R3 (SV.v s0_) a0, BoxS b1_c0_ 22 [s1_c0_0_.v], RdS R3 (SV.v s1_c0_0_) a1_c0_0, BoxS b1_c1_ 3 [.int .i64 a1_c1_0]] (X := Unit) (fun _ => .int .i64 r) (fun _ => []) := by
  unfold m_slices_IndexFunc_int_int__chord_Keys_1 at hm
  refine ctr_mk (vs := [(0, s0_.v), (1, .func (.func 73) #[] [.pointer (some ⟨b1_c0_, 0, none⟩), .pointer (some ⟨b1_c1_, 0, none⟩)].toArray)]) Tryd.func125 rfl Tryd.ntmps125 rfl ⟨rfl, rfl, trivial⟩ (fun w0 A => ?_)
  refine cj_seq ?_
  refine cj_reg ?_
  refine lp rfl (p_as rfl) ?_
  refine lj_seq ?_
  refine cj_seq ?_
  refine cj_seq ?_
  refine cj_reg ?_
  refine lp rfl (p_mv rfl) ?_
  refine lp rfl (p_len Tryd.underlying22 rfl (.ro 0 rfl)) ?_
  refine lp rfl (p_mv rfl) ?_
  refine lj_seq ?_
  obtain ⟨f7, hf7, hm⟩ := bindS hm
  refine cj_range (γ := Unit) (m := (a0.length : Int)) hf7 () (fun u4 g5 => [(0, s0_.v), (1, .func (.func 73) #[] [.pointer (some ⟨b1_c0_, 0, none⟩), .pointer (some ⟨b1_c1_, 0, none⟩)].toArray), (4, .int .i64 0)]) (fun u4 g5 => Sat w0 (keys ([] : List Ent)) A [.ro (RdS R3 (SV.v s0_) a0), .ro (BoxS b1_c0_ 22 [s1_c0_0_.v]), .ro (RdS R3 (SV.v s1_c0_0_) a1_c0_0), .ro (BoxS b1_c1_ 3 [.int .i64 a1_c1_0])]) ⟨rfl, rfl, rfl, rfl, rfl, trivial⟩ (fun _ h => h.picks [0, 0, 0, 0] rfl) (nat_lt _) (fun _ h => (FactAt.get (.ro 0 rfl) h).1) (fun _ _ => ⟨rfl, rfl, rfl, rfl⟩) ⟨rfl, rfl, rfl, rfl, rfl⟩ rfl rfl rfl (fun u4 g5 e => ?_) (fun aftk6 i1 x2 u4 g5 k6 hx3 hs J hJk6 hBk6 hX I cnk6 => ?_)
  · have hm := Flow.fin_b e hm
    refine nj_seq ?_
    refine cj_seq ?_
    refine cj_reg ?_
    refine lp rfl (p_as rfl) ?_
    refine lj_seq ?_
    obtain rfl := Option.some.inj hm
    exact cj_rt () [] Tryd.results125 (.tmp rfl .nil) rfl rfl
  · have hRk6 : ∀ t, k6 = .ret t → some t = some r := fun t e => by rw [hX t e] at hm; exact hm
    have hm := hs
    refine cj_seq ?_
    refine cj_reg ?_
    refine lp rfl (p_mv rfl) ?_
    refine lp rfl (p_as rfl) ?_
    refine lj_seq ?_
    refine cj_seq ?_
    refine cj_reg ?_
    refine lp rfl (p_mv rfl) ?_
    refine lp rfl (p_mv rfl) ?_
    refine lp rfl (p_mv rfl) ?_
    refine lp rfl (p_idx Tryd.underlying22 ty3 rfl rfl (.ro 0 rfl) (getI_nat.trans hx3)) ?_
    refine lp rfl (p_lde (o := 0) ty3 rfl rfl (.ro 0 rfl) hx3 rfl) ?_
    obtain ⟨y8, hy8, hm⟩ := bindS hm
    refine r_call [] cf73 rfl rfl (ok_chord_Keys_1 x2 b1_c0_ s1_c0_0_ a1_c0_0 b1_c1_ a1_c1_0 hy8) rfl rfl (.cons (.ro 1 rfl) (.cons (.ro 2 rfl) (.cons (.ro 3 rfl) .nil))) (fun _ => rfl) rfl (fun _ => ?_)
    refine lj_seq ?_
    refine cj_if (b := y8) rfl (fun hb => ?_) (fun hb => ?_)
    · have hm := ifB_t hb hm
      refine cj_seq ?_
      refine cj_reg ?_
      refine lp rfl (p_mv rfl) ?_
      refine lp rfl (p_as rfl) ?_
      refine lj_seq ?_
      have hm := hRk6 _ (Option.some.inj hm).symm
      obtain rfl := Option.some.inj hm
      exact cj_rt () [] Tryd.results125 (.tmp rfl .nil) rfl rfl
    · have hm := ifB_f hb hm
      refine cj_skip ?_
      refine nj_blk ?_
      exact cnk6 _ _ () () (hJk6 _ (Option.some.inj hm).symm) ⟨rfl, rfl, rfl, rfl, rfl, trivial⟩ (fun _ h => h.picks [0, 0, 0, 0] rfl)
theorem ok_slices_ContainsFunc_int_int__chord_Keys_1 (s0_ : SV) (a0 : (List Int)) (b1_c0_ : Nat) (s1_c0_0_ : SV) (a1_c0_0 : (List Int)) (b1_c1_ : Nat) (a1_c1_0 : Int) {r : Bool} (hm : m_slices_ContainsFunc_int_int__chord_Keys_1 a0 a1_c0_0 a1_c1_0 = some r) :
    Ctr Tryd.prog 76 [s0_.v, .func (.func 73) #[] [.pointer (some ⟨b1_c0_, 0, none⟩), .pointer (some ⟨b1_c1_, 0, none⟩)].toArray].toArray ([] : List Ent) [RdS R3 (SV.v s0_) a0, BoxS b1_c0_ 22 [s1_c0_0_.v], RdS R3 (SV.v s1_c0_0_) a1_c0_0, BoxS b1_c1_ 3 [.int .i64 a1_c1_0]] (X := Unit) (fun _ => .bool r) (fun _ => []) := by
  unfold m_slices_ContainsFunc_int_int__chord_Keys_1 at hm
  refine ctr_mk (vs := [(0, s0_.v), (1, .func (.func 73) #[] [.pointer (some ⟨b1_c0_, 0, none⟩), .pointer (some ⟨b1_c1_, 0, none⟩)].toArray)]) Tryd.func76 rfl Tryd.ntmps76 rfl ⟨rfl, rfl, trivial⟩ (fun w0 A => ?_)
  refine cj_seq ?_
  refine cj_reg ?_
  refine lp rfl (p_as rfl) ?_
  refine lj_seq ?_
  refine cj_seq ?_
  refine cj_reg ?_
  refine lp rfl (p_mv rfl) ?_
  refine lp rfl (p_mv rfl) ?_
  obtain ⟨y1, hy1, hm⟩ := bindS hm
  refine r_call [] cf125 rfl rfl (ok_slices_IndexFunc_int_int__chord_Keys_1 s0_ a0 b1_c0_ s1_c0_0_ a1_c0_0 b1_c1_ a1_c1_0 hy1) rfl rfl (.cons (.ro 0 rfl) (.cons (.ro 1 rfl) (.cons (.ro 2 rfl) (.cons (.ro 3 rfl) .nil)))) (fun _ => rfl) rfl (fun _ => ?_)
  refine lp rfl (p_geq rfl rfl) ?_
  refine lp rfl (p_as rfl) ?_
  refine lj_seq ?_
  obtain rfl := Option.some.inj hm
  exact cj_rt () [] Tryd.results76 (.tmp rfl .nil) rfl rfl
theorem ok_chord_Keys_2__chord_Keys_1 (a0 : TChord) (b1_ : Nat) (b1_0_c0_ : Nat) (s1_0_c0_0_ : SV) (a1_0_c0_0 : (List Int)) (b1_0_c1_ : Nat) (a1_0_c1_0 : Int) {r : Bool} (hm : m_chord_Keys_2__chord_Keys_1 a0 a1_0_c0_0 a1_0_c1_0 = some r) :
    Ctr Tryd.prog 75 [.agg (R28.enc a0).toArray, .pointer (some ⟨b1_, 0, none⟩)].toArray ([] : List Ent) [BoxS b1_ 59 [.func (.func 73) #[] [.pointer (some ⟨b1_0_c0_, 0, none⟩), .pointer (some ⟨b1_0_c1_, 0, none⟩)].toArray], BoxS b1_0_c0_ 22 [s1_0_c0_0_.v], RdS R3 (SV.v s1_0_c0_0_) a1_0_c0_0, BoxS b1_0_c1_ 3 [.int .i64 a1_0_c1_0]] (X := Unit) (fun _ => .bool r) (fun _ => []) := by
  unfold m_chord_Keys_2__chord_Keys_1 at hm
  refine ctr_mk (vs := [(0, .agg (R28.enc a0).toArray), (1, .pointer (some ⟨b1_, 0, none⟩))]) Tryd.func75 rfl Tryd.ntmps75 rfl ⟨rfl, rfl, trivial⟩ (fun w0 A => ?_)
  refine cj_seq ?_
  refine cj_reg ?_
  refine r_bx (cs := [.int .i64 a0.Root, .int .i64 a0.Kind, .int .i64 a0.Turn]) rfl rfl rfl (fun b1 => ?_)
  refine lp rfl (p_as rfl) ?_
  refine lj_seq ?_
  refine cj_seq ?_
  obtain ⟨y2, hy2, hm⟩ := bindS hm
  obtain ⟨y4, hy4, hm⟩ := bindS hm
  refine cj_anyT [0, 2, 4] [] (Sat w0 (keys ([] : List Ent)) A [.box b1 28 [.int .i64 a0.Root, .int .i64 a0.Kind, .int .i64 a0.Turn], .ro (BoxS b1_ 59 [.func (.func 73) #[] [.pointer (some ⟨b1_0_c0_, 0, none⟩), .pointer (some ⟨b1_0_c1_, 0, none⟩)].toArray]), .ro (BoxS b1_0_c0_ 22 [s1_0_c0_0_.v]), .ro (RdS R3 (SV.v s1_0_c0_0_) a1_0_c0_0), .ro (BoxS b1_0_c1_ 3 [.int .i64 a1_0_c1_0])]) (Sat w0 (keys ([] : List Ent)) A [.box b1 28 [.int .i64 a0.Root, .int .i64 a0.Kind, .int .i64 a0.Turn], .ro (BoxS b1_ 59 [.func (.func 73) #[] [.pointer (some ⟨b1_0_c0_, 0, none⟩), .pointer (some ⟨b1_0_c1_, 0, none⟩)].toArray]), .ro (BoxS b1_0_c0_ 22 [s1_0_c0_0_.v]), .ro (RdS R3 (SV.v s1_0_c0_0_) a1_0_c0_0), .ro (BoxS b1_0_c1_ 3 [.int .i64 a1_0_c1_0])]) (by kernel_rfl) ?_
  refine at_take2 0 rfl (by kernel_rfl) (by kernel_rfl) (by kernel_rfl) (fun _ h => h.picks [0, 0, 0, 0, 0] rfl) rfl rfl (p_lbw ty28 rfl (j := 0) rfl rfl) (fun _ h => h.picks [0, 0, 0, 0, 0] rfl) ?_
  refine at_take2 2 rfl (by kernel_rfl) (by kernel_rfl) (by kernel_rfl) (fun _ h => h.picks [0, 0, 0, 0, 0] rfl) rfl rfl (p_rbs ty59 rfl (.ro 1 rfl) rfl) (fun _ h => h.picks [0, 0, 0, 0, 0] rfl) ?_
  refine at_each (rs := [1]) (by kernel_rfl) (by decide) ?_
  refine (.cons rfl (fun I cnI => ?_) .nil)
  · refine r_call [] cf67 rfl rfl (ok_chord_tones a0 hy2) rfl rfl .nil (fun _ => rfl) rfl (fun s5 => ?_)
    refine lj_nil ?_
    refine cnI _ _ (sof1 rfl rfl (fun _ h => h.picks [1, 1, 1, 1, 1] rfl)) ?_
    refine at_each (rs := [3]) (by kernel_rfl) (by decide) ?_
    refine (.cons rfl (fun I cnI => ?_) .nil)
    · refine r_call [] cf76 rfl rfl (ok_slices_ContainsFunc_int_int__chord_Keys_1 s5 y2 b1_0_c0_ s1_0_c0_0_ a1_0_c0_0 b1_0_c1_ a1_0_c1_0 hy4) rfl rfl (.cons (.row 0 rfl) (.cons (.ro 3 rfl) (.cons (.ro 4 rfl) (.cons (.ro 5 rfl) .nil)))) (fun _ => rfl) rfl (fun _ => ?_)
      refine lj_nil ?_
      refine cnI _ _ (sof1 rfl rfl (fun _ h => h.picks [1, 1, 1, 1, 1] rfl)) ?_
      refine at_take2 4 rfl (by kernel_rfl) (by kernel_rfl) (by kernel_rfl) (fun _ h => h.picks [0, 0, 0, 0, 0] rfl) rfl rfl (p_as rfl) (fun _ h => h.picks [1, 1, 1, 1, 1] rfl) ?_
      refine at_done (by kernel_rfl) ?_
      refine nj_seq ?_
      obtain rfl := Option.some.inj hm
      exact cj_rt () [] Tryd.results75 (.tmp rfl .nil) rfl rfl
theorem ok_slices_IndexFunc_api_Chord_api_Chord__chord_Keys_1__chord_Keys_2 (s0_ : SV) (a0 : (List TChord)) (b1_c0_ : Nat) (b1_c0_0_c0_ : Nat) (s1_c0_0_c0_0_ : SV) (a1_c0_0_c0_0 : (List Int)) (b1_c0_0_c1_ : Nat) (a1_c0_0_c1_0 : Int) {r : Int} (hm : m_slices_IndexFunc_api_Chord_api_Chord__chord_Keys_1__chord_Keys_2 a0 a1_c0_0_c0_0 a1_c0_0_c1_0 = some r) :
    Ctr Tryd.prog 124 [s0_.v, .func (.func 75) #[] [.pointer (some ⟨b1_c0_, 0, none⟩)].toArray].toArray ([] : List Ent) [RdS R28 (SV.v s0_) a0, BoxS b1_c0_ 59 [.func (.func 73) #[] [.pointer (some ⟨b1_c0_0_c0_, 0, none⟩), .pointer (some ⟨b1_c0_0_c1_, 0, none⟩)].toArray], BoxS b1_c0_0_c0_ 22 [s1_c0_0_c0_0_.v], RdS R3 (SV.v s1_c0_0_c0_0_) a1_c0_0_c0_0, BoxS b1_c0_0_c1_ 3 [.int .i64 a1_c0_0_c1_0]] (X := Unit) (fun _ => .int .i64 r) (fun _ => []) := by
  unfold m_slices_IndexFunc_api_Chord_api_Chord__chord_Keys_1__chord_Keys_2 at hm
  refine ctr_mk (vs := [(0, s0_.v), (1, .func (.func 75) #[] [.pointer (some ⟨b1_c0_, 0, none⟩)].toArray)]) Tryd.func124 rfl Tryd.ntmps124 rfl ⟨rfl, rfl, trivial⟩ (fun w0 A => ?_)
  refine cj_seq ?_
  refine cj_reg ?_
  refine lp rfl (p_as rfl) ?_
  refine lj_seq ?_
  refine cj_seq ?_
  refine cj_seq ?_
  refine cj_reg ?_
  refine lp rfl (p_mv rfl) ?_
  refine lp rfl (p_len Tryd.underlying31 rfl (.ro 0 rfl)) ?_
  refine lp rfl (p_mv rfl) ?_
  refine lj_seq ?_
  obtain ⟨f7, hf7, hm⟩ := bindS hm
  refine cj_range (γ := Unit) (m := (a0.length : Int)) hf7 () (fun u4 g5 => [(0, s0_.v), (1, .func (.func 75) #[] [.pointer (some ⟨b1_c0_, 0, none⟩)].toArray), (4, .int .i64 0)]) (fun u4 g5 => Sat w0 (keys ([] : List Ent)) A [.ro (RdS R28 (SV.v s0_) a0), .ro (BoxS b1_c0_ 59 [.func (.func 73) #[] [.pointer (some ⟨b1_c0_0_c0_, 0, none⟩), .pointer (some ⟨b1_c0_0_c1_, 0, none⟩)].toArray]), .ro (BoxS b1_c0_0_c0_ 22 [s1_c0_0_c0_0_.v]), .ro (RdS R3 (SV.v s1_c0_0_c0_0_) a1_c0_0_c0_0), .ro (BoxS b1_c0_0_c1_ 3 [.int .i64 a1_c0_0_c1_0])]) ⟨rfl, rfl, rfl, rfl, rfl, trivial⟩ (fun _ h => h.picks [0, 0, 0, 0, 0] rfl) (nat_lt _) (fun _ h => (FactAt.get (.ro 0 rfl) h).1) (fun _ _ => ⟨rfl, rfl, rfl, rfl⟩) ⟨rfl, rfl, rfl, rfl, rfl⟩ rfl rfl rfl (fun u4 g5 e => ?_) (fun aftk6 i1 x2 u4 g5 k6 hx3 hs J hJk6 hBk6 hX I cnk6 => ?_)
  · have hm := Flow.fin_b e hm
    refine nj_seq ?_
    refine cj_seq ?_
    refine cj_reg ?_
    refine lp rfl (p_as rfl) ?_
    refine lj_seq ?_
    obtain rfl := Option.some.inj hm
    exact cj_rt () [] Tryd.results124 (.tmp rfl .nil) rfl rfl
  · have hRk6 : ∀ t, k6 = .ret t → some t = some r := fun t e => by rw [hX t e] at hm; exact hm
    have hm := hs
    refine cj_seq ?_
    refine cj_reg ?_
    refine lp rfl (p_mv rfl) ?_
    refine lp rfl (p_as rfl) ?_
    refine lj_seq ?_
    refine cj_seq ?_
    refine cj_reg ?_
    refine lp rfl (p_mv rfl) ?_
    refine lp rfl (p_mv rfl) ?_
    refine lp rfl (p_mv rfl) ?_
    refine lp rfl (p_idx Tryd.underlying31 ty28 rfl rfl (.ro 0 rfl) (getI_nat.trans hx3)) ?_
    refine lp rfl (p_lea ty28 rfl (.ro 0 rfl) hx3) ?_
    obtain ⟨y8, hy8, hm⟩ := bindS hm
    refine r_call [] cf75 rfl rfl (ok_chord_Keys_2__chord_Keys_1 x2 b1_c0_ b1_c0_0_c0_ s1_c0_0_c0_0_ a1_c0_0_c0_0 b1_c0_0_c1_ a1_c0_0_c1_0 hy8) rfl rfl (.cons (.ro 1 rfl) (.cons (.ro 2 rfl) (.cons (.ro 3 rfl) (.cons (.ro 4 rfl) .nil)))) (fun _ => rfl) rfl (fun _ => ?_)
    refine lj_seq ?_
    refine cj_if (b := y8) rfl (fun hb => ?_) (fun hb => ?_)
    · have hm := ifB_t hb hm
      refine cj_seq ?_
      refine cj_reg ?_
      refine lp rfl (p_mv rfl) ?_
      refine lp rfl (p_as rfl) ?_
      refine lj_seq ?_
      have hm := hRk6 _ (Option.some.inj hm).symm
      obtain rfl := Option.some.inj hm
      exact cj_rt () [] Tryd.results124 (.tmp rfl .nil) rfl rfl
    · have hm := ifB_f hb hm
      refine cj_skip ?_
      refine nj_blk ?_
      exact cnk6 _ _ () () (hJk6 _ (Option.some.inj hm).symm) ⟨rfl, rfl, rfl, rfl, rfl, trivial⟩ (fun _ h => h.picks [0, 0, 0, 0, 0] rfl)
theorem ok_slices_ContainsFunc_api_Chord_api_Chord__chord_Keys_1__chord_Keys_2 (s0_ : SV) (a0 : (List TChord)) (b1_c0_ : Nat) (b1_c0_0_c0_ : Nat) (s1_c0_0_c0_0_ : SV) (a1_c0_0_c0_0 : (List Int)) (b1_c0_0_c1_ : Nat) (a1_c0_0_c1_0 : Int) {r : Bool} (hm : m_slices_ContainsFunc_api_Chord_api_Chord__chord_Keys_1__chord_Keys_2 a0 a1_c0_0_c0_0 a1_c0_0_c1_0 = some r) :
    Ctr Tryd.prog 74 [s0_.v, .func (.func 75) #[] [.pointer (some ⟨b1_c0_, 0, none⟩)].toArray].toArray ([] : List Ent) [RdS R28 (SV.v s0_) a0, BoxS b1_c0_ 59 [.func (.func 73) #[] [.pointer (some ⟨b1_c0_0_c0_, 0, none⟩), .pointer (some ⟨b1_c0_0_c1_, 0, none⟩)].toArray], BoxS b1_c0_0_c0_ 22 [s1_c0_0_c0_0_.v], RdS R3 (SV.v s1_c0_0_c0_0_) a1_c0_0_c0_0, BoxS b1_c0_0_c1_ 3 [.int .i64 a1_c0_0_c1_0]] (X := Unit) (fun _ => .bool r) (fun _ => []) := by
  unfold m_slices_ContainsFunc_api_Chord_api_Chord__chord_Keys_1__chord_Keys_2 at hm
  refine ctr_mk (vs := [(0, s0_.v), (1, .func (.func 75) #[] [.pointer (some ⟨b1_c0_, 0, none⟩)].toArray)]) Tryd.func74 rfl Tryd.ntmps74 rfl ⟨rfl, rfl, trivial⟩ (fun w0 A => ?_)
  refine cj_seq ?_
  refine cj_reg ?_
  refine lp rfl (p_as rfl) ?_
  refine lj_seq ?_
  refine cj_seq ?_
  refine cj_reg ?_
  refine lp rfl (p_mv rfl) ?_
  refine lp rfl (p_mv rfl) ?_
  obtain ⟨y1, hy1, hm⟩ := bindS hm
  refine r_call [] cf124 rfl rfl (ok_slices_IndexFunc_api_Chord_api_Chord__chord_Keys_1__chord_Keys_2 s0_ a0 b1_c0_ b1_c0_0_c0_ s1_c0_0_c0_0_ a1_c0_0_c0_0 b1_c0_0_c1_ a1_c0_0_c1_0 hy1) rfl rfl (.cons (.ro 0 rfl) (.cons (.ro 1 rfl) (.cons (.ro 2 rfl) (.cons (.ro 3 rfl) (.cons (.ro 4 rfl) .nil))))) (fun _ => rfl) rfl (fun _ => ?_)
  refine lp rfl (p_geq rfl rfl) ?_
  refine lp rfl (p_as rfl) ?_
  refine lj_seq ?_
  obtain rfl := Option.some.inj hm
  exact cj_rt () [] Tryd.results74 (.tmp rfl .nil) rfl rfl
theorem ok_chord_Keys (s0_ : SV) (a0 : (List TChord)) {r : (List Int) × Int} (hm : m_chord_Keys a0 = some r) :
    Ctr Tryd.prog 16 [s0_.v].toArray ([] : List Ent) [RdS R28 (SV.v s0_) a0] (X := SV) (fun s => .tuple [s.v, .int .i64 r.2].toArray) (fun s => [.row R3 (SV.v s) r.1]) := by
  unfold m_chord_Keys at hm
  refine ctr_mk (vs := [(0, s0_.v)]) Tryd.func16 rfl Tryd.ntmps16 rfl ⟨rfl, trivial⟩ (fun w0 A => ?_)
  refine cj_seq ?_
  refine cj_reg ?_
  refine lp rfl (p_as rfl) ?_
  refine lp rfl (p_as rfl) ?_
  refine lj_seq ?_
  refine cj_seq ?_
  refine cj_seq ?_
  refine cj_reg ?_
  refine lp rfl (p_mv rfl) ?_
  obtain ⟨y1, hy1, hm⟩ := bindS hm
  refine r_call [] cf72 rfl rfl (ok_chord_rowFault s0_ a0 hy1) rfl rfl (.cons (.ro 0 rfl) .nil) (fun _ => rfl) rfl (fun _ => ?_)
  refine lp rfl (p_as rfl) ?_
  refine lj_seq ?_
  refine cj_seq ?_
  refine cj_reg ?_
  refine lp rfl (p_mv rfl) ?_
  refine lp rfl (p_neq rfl rfl) ?_
  refine lj_seq ?_
  refine cj_if (b := y1 != 0) rfl (fun hb => ?_) (fun hb => ?_)
  · have hm := ifB_t hb hm
    refine cj_seq ?_
    refine cj_reg ?_
    refine lp rfl (p_mv rfl) ?_
    refine lp rfl (p_as rfl) ?_
    refine lp rfl (p_as rfl) ?_
    refine lj_seq ?_
    obtain rfl := Option.some.inj hm
    refine cj_nil R3 ?_
    exact cj_rt nilS [0] Tryd.results16 (.tmp rfl (.tmp rfl .nil)) rfl rfl
  · have hm := ifB_f hb hm
    refine cj_skip ?_
    refine nj_seq ?_
    refine cj_seq ?_
    refine cj_reg ?_
    refine r_bs R3 [0, 2, 4, 5, 7, 9, 11] rfl rfl rfl (fun _ => by kernel_rfl) rfl (fun s3 => ?_)
    refine r_al ty22 rfl (fun b4 => ?_)
    refine r_sb (vs := [s3.v]) (j := 0) ty22 rfl rfl rfl rfl rfl rfl rfl ?_
    refine lj_seq ?_
    refine cj_seq ?_
    refine cj_reg ?_
    refine lp rfl (p_as rfl) ?_
    refine lj_seq ?_
    refine cj_seq ?_
    refine cj_seq ?_
    refine cj_reg ?_
    refine lp rfl (p_mv rfl) ?_
    refine lj_seq ?_
    refine cj_nil R3 ?_
    obtain ⟨L21, hL21, hm⟩ := bindS hm
    obtain ⟨f12, hf12, hm⟩ := bindS hm
    refine cj_rangeC (γ := SV) (m := 12) hf12 nilS (fun u9 g10 => [(0, s0_.v), (2, .slice none 0 0), (3, .int .i64 0), (5, .pointer (some ⟨b4, 0, none⟩)), (6, g10.v)]) (fun u9 g10 => Sat w0 (keys ([] : List Ent)) A [.box b4 22 [s3.v], .row R3 (SV.v s3) [0, 2, 4, 5, 7, 9, 11], .ro (RdS R28 (SV.v s0_) a0), .row R3 (SV.v g10) u9]) ⟨rfl, rfl, rfl, rfl, rfl, rfl, trivial⟩ (fun _ h => h.picks [1, 1, 1, 0] rfl) (rangeI_spec hL21).1 (fun _ _ => (rangeI_spec hL21).2) (fun _ _ => ⟨rfl, rfl, rfl⟩) ⟨rfl, rfl⟩ rfl rfl rfl (fun u9 g10 e => ?_) (fun aftk11 i5 x6 u9 g10 k11 hx7 hs J hJk11 hBk11 hX I cnk11 => ?_)
    · have hm := Flow.fin_b e hm
      refine nj_seq ?_
      refine cj_seq ?_
      refine cj_reg ?_
      refine lp rfl (p_mv rfl) ?_
      refine lp rfl (p_as rfl) ?_
      refine lp rfl (p_as rfl) ?_
      refine lj_seq ?_
      obtain rfl := Option.some.inj hm
      exact cj_rt g10 [3] Tryd.results16 (.tmp rfl (.tmp rfl .nil)) rfl rfl
    · have hRk11 : ∀ t, k11 = .ret t → some t = some r := fun t e => by rw [hX t e] at hm; exact hm
      have hm := hs
      refine cj_seq ?_
      refine cj_reg ?_
      refine lp rfl (p_mv rfl) ?_
      refine r_al ty3 rfl (fun b14 => ?_)
      refine r_sb (vs := [.int .i64 (i5 : Int)]) (j := 0) ty3 rfl rfl rfl rfl rfl rfl rfl ?_
      refine lj_seq ?_
      refine cj_seq ?_
      refine cj_reg ?_
      refine lp rfl (p_fn (cv := [.pointer (some ⟨b4, 0, none⟩), .pointer (some ⟨b14, 0, none⟩)]) rfl) ?_
      refine r_al ty59 rfl (fun b15 => ?_)
      refine r_sb (vs := [.func (.func 73) #[] [.pointer (some ⟨b4, 0, none⟩), .pointer (some ⟨b14, 0, none⟩)].toArray]) (j := 0) ty59 rfl rfl rfl rfl rfl rfl rfl ?_
      refine lj_seq ?_
      refine cj_seq ?_
      refine cj_reg ?_
      refine lp rfl (p_mv rfl) ?_
      refine lp rfl (p_fn (cv := [.pointer (some ⟨b15, 0, none⟩)]) rfl) ?_
      obtain ⟨y16, hy16, hm⟩ := bindS hm
      refine r_call [] cf74 rfl rfl (ok_slices_ContainsFunc_api_Chord_api_Chord__chord_Keys_1__chord_Keys_2 s0_ a0 b15 b4 s3 [0, 2, 4, 5, 7, 9, 11] b14 (i5 : Int) hy16) rfl rfl (.cons (.ro 4 rfl) (.cons (.imp (.box 0 rfl) (fun _ h => h)) (.cons (.imp (.box 2 rfl) (fun _ h => h)) (.cons (.row 3 rfl) (.cons (.imp (.box 1 rfl) (fun _ h => h)) .nil))))) (fun _ => rfl) rfl (fun _ => ?_)
      refine lp rfl (p_not rfl) ?_
      refine lj_seq ?_
      refine cj_if (b := !y16) rfl (fun hb => ?_) (fun hb => ?_)
      · have hm := ifB_t hb hm
        refine cj_reg ?_
        refine lp rfl (p_mv rfl) ?_
        refine lp rfl (p_lbs ty3 rfl (j := 1) rfl rfl) ?_
        refine r_bs R3 [(i5 : Int)] rfl rfl rfl (fun _ => by kernel_rfl) rfl (fun s17 => ?_)
        obtain ⟨q18, hq18, hm⟩ := bindS hm
        refine r_app (k := 6) Tryd.underlying22 ty3 rfl rfl rfl rfl (.row 0 rfl) hq18 rfl (fun s19 => ?_)
        refine lp rfl (p_as rfl) ?_
        refine lj_nil ?_
        refine nj_blk ?_
        exact cnk11 _ _ q18 s19 (hJk11 _ (Option.some.inj hm).symm) ⟨rfl, rfl, rfl, rfl, rfl, rfl, trivial⟩ (fun _ h => h.picks [3, 3, 3, 3] rfl)
      · have hm := ifB_f hb hm
        refine cj_skip ?_
        refine nj_blk ?_
        exact cnk11 _ _ u9 g10 (hJk11 _ (Option.some.inj hm).symm) ⟨rfl, rfl, rfl, rfl, rfl, rfl, trivial⟩ (fun _ h => h.picks [2, 2, 2, 2] rfl)
theorem ok_gleeref2_in (a0 : Int) (a1 : Int) (a2 : Int) {r : Bool} (hm : m_gleeref2_in a0 a1 a2 = some r) :
    Ctr Tryd.prog 77 [.int .i64 a0, .int .i64 a1, .int .i64 a2].toArray ([] : List Ent) [] (X := Unit) (fun _ => .bool r) (fun _ => []) := by
  unfold m_gleeref2_in at hm
  refine ctr_mk (vs := [(0, .int .i64 a0), (1, .int .i64 a1), (2, .int .i64 a2)]) Tryd.func77 rfl Tryd.ntmps77 rfl ⟨rfl, rfl, rfl, trivial⟩ (fun w0 A => ?_)
  refine cj_seq ?_
  refine cj_reg ?_
  refine lp rfl (p_as rfl) ?_
  refine lj_seq ?_
  refine cj_seq ?_
  refine cj_reg ?_
  refine lp rfl (p_mv rfl) ?_
  refine lp rfl (p_mv rfl) ?_
  refine lp rfl (p_leq rfl rfl) ?_
  refine lp rfl (p_mv rfl) ?_
  refine lcase (i := 10) (decide (a1 ≤ a0)) rfl (fun hb => ?_) (fun hb => ?_)
  · have hm := ifB_t hb hm
    refine lg true rfl rfl rfl ?_
    refine lp rfl (p_mv rfl) ?_
    refine lg true rfl rfl rfl ?_
    refine lp rfl (p_mv rfl) ?_
    refine lg true rfl rfl rfl ?_
    refine lp rfl (p_leq rfl rfl) ?_
    refine lp rfl (p_pkt rfl rfl) ?_
    refine lp rfl (p_as rfl) ?_
    refine lj_seq ?_
    obtain rfl := Option.some.inj hm
    exact cj_rt () [] Tryd.results77 (.tmp rfl .nil) rfl rfl
  · have hm := ifB_f hb hm
    refine ls true rfl rfl rfl rfl ?_
    refine ls true rfl rfl rfl rfl ?_
    refine ls true rfl rfl rfl rfl ?_
    refine lp rfl (p_pkf rfl rfl) ?_
    refine lp rfl (p_as rfl) ?_
    refine lj_seq ?_
    obtain rfl := Option.some.inj hm
    exact cj_rt () [] Tryd.results77 (.tmp rfl .nil) rfl rfl
theorem ok_gleeref2_NotesFault (s0_ : SV) (a0 : (List Int)) (a1 : Int) {r : Int} (hm : m_gleeref2_NotesFault a0 a1 = some r) :
    Ctr Tryd.prog 17 [s0_.v, .int .i64 a1].toArray ([] : List Ent) [RdS R3 (SV.v s0_) a0] (X := Unit) (fun _ => .int .i64 r) (fun _ => []) := by
  unfold m_gleeref2_NotesFault at hm
  refine ctr_mk (vs := [(0, s0_.v), (1, .int .i64 a1)]) Tryd.func17 rfl Tryd.ntmps17 rfl ⟨rfl, rfl, trivial⟩ (fun w0 A => ?_)
  refine cj_seq ?_
  refine cj_reg ?_
  refine lp rfl (p_as rfl) ?_
  refine lj_seq ?_
  refine cj_seq ?_
  refine cj_blk ?_
  refine cj_seq ?_
  refine cj_reg ?_
  refine lp rfl (p_mv rfl) ?_
  refine lp rfl (p_len Tryd.underlying22 rfl (.ro 0 rfl)) ?_
  refine lp rfl (p_eql rfl rfl) ?_
  refine lp rfl (p_as rfl) ?_
  refine lj_seq ?_
  refine cj_if (b := (a0.length : Int) == 0) rfl (fun hb => ?_) (fun hb => ?_)
  · have hm := ifB_t hb hm
    refine cj_seq ?_
    refine cj_reg ?_
    refine lp rfl (p_as rfl) ?_
    refine lj_seq ?_
    obtain rfl := Option.some.inj hm
    exact cj_rt () [] Tryd.results17 (.tmp rfl .nil) rfl rfl
  · have hm := ifB_f hb hm
    refine cj_seq ?_
    refine cj_reg ?_
    refine lp rfl (p_mv rfl) ?_
    refine lp rfl (p_len Tryd.underlying22 rfl (.ro 0 rfl)) ?_
    refine lp rfl (p_mv rfl) ?_
    refine lp rfl (p_gtr rfl rfl) ?_
    refine lp rfl (p_as rfl) ?_
    refine lj_seq ?_
    refine cj_if (b := decide ((a0.length : Int) > a1)) rfl (fun hb => ?_) (fun hb => ?_)
    · have hm := ifB_t hb hm
      refine cj_seq ?_
      refine cj_reg ?_
      refine lp rfl (p_as rfl) ?_
      refine lj_seq ?_
      obtain rfl := Option.some.inj hm
      exact cj_rt () [] Tryd.results17 (.tmp rfl .nil) rfl rfl
    · have hm := ifB_f hb hm
      refine cj_skip ?_
      refine nj_blk ?_
      refine nj_seq ?_
      refine cj_seq ?_
      refine cj_seq ?_
      refine cj_reg ?_
      refine lp rfl (p_mv rfl) ?_
      refine lp rfl (p_len Tryd.underlying22 rfl (.ro 0 rfl)) ?_
      refine lp rfl (p_mv rfl) ?_
      refine lj_seq ?_
      obtain ⟨f7, hf7, hm⟩ := bindS hm
      refine cj_range (γ := Unit) (m := (a0.length : Int)) hf7 () (fun u4 g5 => [(4, .int .i64 0), (16, s0_.v)]) (fun u4 g5 => Sat w0 (keys ([] : List Ent)) A [.ro (RdS R3 (SV.v s0_) a0)]) ⟨rfl, rfl, rfl, rfl, trivial⟩ (fun _ h => h.picks [0] rfl) (nat_lt _) (fun _ h => (FactAt.get (.ro 0 rfl) h).1) (fun _ _ => ⟨rfl, rfl, rfl, rfl⟩) ⟨rfl, rfl, rfl, rfl, rfl⟩ rfl rfl rfl (fun u4 g5 e => ?_) (fun aftk6 i1 x2 u4 g5 k6 hx3 hs J hJk6 hBk6 hX I cnk6 => ?_)
      · have hm := Flow.fin_b e hm
        refine nj_seq ?_
        refine cj_seq ?_
        refine cj_reg ?_
        refine lp rfl (p_as rfl) ?_
        refine lj_seq ?_
        obtain rfl := Option.some.inj hm
        exact cj_rt () [] Tryd.results17 (.tmp rfl .nil) rfl rfl
      · have hRk6 : ∀ t, k6 = .ret t → some t = some r := fun t e => by rw [hX t e] at hm; exact hm
        have hm := hs
        refine cj_seq ?_
        refine cj_reg ?_
        refine lp rfl (p_idx Tryd.underlying22 ty3 rfl rfl (.ro 0 rfl) (getI_nat.trans hx3)) ?_
        refine lp rfl (p_lde (o := 0) ty3 rfl rfl (.ro 0 rfl) hx3 rfl) ?_
        refine lp rfl (p_as rfl) ?_
        refine lj_seq ?_
        refine cj_seq ?_
        refine cj_reg ?_
        refine lp rfl (p_mv rfl) ?_
        obtain ⟨y8, hy8, hm⟩ := bindS hm
        refine r_call [] cf77 rfl rfl (ok_gleeref2_in x2 0 127 hy8) rfl rfl .nil (fun _ => rfl) rfl (fun _ => ?_)
        refine lp rfl (p_not rfl) ?_
        refine lj_seq ?_
        refine cj_if (b := !y8) rfl (fun hb => ?_) (fun hb => ?_)
        · have hm := ifB_t hb hm
          refine cj_seq ?_
          refine cj_reg ?_
          refine lp rfl (p_as rfl) ?_
          refine lj_seq ?_
          have hm := hRk6 _ (Option.some.inj hm).symm
          obtain rfl := Option.some.inj hm
          exact cj_rt () [] Tryd.results17 (.tmp rfl .nil) rfl rfl
        · have hm := ifB_f hb hm
          refine cj_skip ?_
          refine nj_blk ?_
          exact cnk6 _ _ () () (hJk6 _ (Option.some.inj hm).symm) ⟨rfl, rfl, rfl, rfl, trivial⟩ (fun _ h => h.picks [0] rfl)
theorem ok_gleeref2_ChordFault (a0 : TChord) {r : Int} (hm : m_gleeref2_ChordFault a0 = some r) :
    Ctr Tryd.prog 19 [.agg (R28.enc a0).toArray].toArray ([] : List Ent) [] (X := Unit) (fun _ => .int .i64 r) (fun _ => []) := by
  unfold m_gleeref2_ChordFault at hm
  refine ctr_mk (vs := [(0, .agg (R28.enc a0).toArray)]) Tryd.func19 rfl Tryd.ntmps19 rfl ⟨rfl, trivial⟩ (fun w0 A => ?_)
  refine cj_seq ?_
  refine cj_reg ?_
  refine r_bx (cs := [.int .i64 a0.Root, .int .i64 a0.Kind, .int .i64 a0.Turn]) rfl rfl rfl (fun b1 => ?_)
  refine lp rfl (p_as rfl) ?_
  refine lj_seq ?_
  refine cj_seq ?_
  refine cj_blk ?_
  refine cj_seq ?_
  refine cj_reg ?_
  refine lp rfl (p_fab fl28_0 rfl) ?_
  refine lp rfl (p_lbs ty3 rfl (j := 0) rfl rfl) ?_
  obtain ⟨y2, hy2, hm⟩ := bindS hm
  refine r_call [] cf77 rfl rfl (ok_gleeref2_in a0.Root 0 11 hy2) rfl rfl .nil (fun _ => rfl) rfl (fun _ => ?_)
  refine lp rfl (p_not rfl) ?_
  refine lp rfl (p_as rfl) ?_
  refine lj_seq ?_
  refine cj_if (b := !y2) rfl (fun hb => ?_) (fun hb => ?_)
  · have hm := ifB_t hb hm
    refine cj_seq ?_
    refine cj_reg ?_
    refine lp rfl (p_as rfl) ?_
    refine lj_seq ?_
    obtain rfl := Option.some.inj hm
    exact cj_rt () [] Tryd.results19 (.tmp rfl .nil) rfl rfl
  · have hm := ifB_f hb hm
    refine cj_seq ?_
    refine cj_reg ?_
    refine lp rfl (p_fab fl28_1 rfl) ?_
    refine lp rfl (p_lbs ty3 rfl (j := 0) rfl rfl) ?_
    obtain ⟨y3, hy3, hm⟩ := bindS hm
    refine r_call [] cf77 rfl rfl (ok_gleeref2_in a0.Kind 1 7 hy3) rfl rfl .nil (fun _ => rfl) rfl (fun _ => ?_)
    refine lp rfl (p_not rfl) ?_
    refine lp rfl (p_as rfl) ?_
    refine lj_seq ?_
    refine cj_if (b := !y3) rfl (fun hb => ?_) (fun hb => ?_)
    · have hm := ifB_t hb hm
      refine cj_seq ?_
      refine cj_reg ?_
      refine lp rfl (p_as rfl) ?_
      refine lj_seq ?_
      obtain rfl := Option.some.inj hm
      exact cj_rt () [] Tryd.results19 (.tmp rfl .nil) rfl rfl
    · have hm := ifB_f hb hm
      refine cj_seq ?_
      obtain ⟨y4, hy4, hm⟩ := bindS hm
      obtain ⟨y6, hy6, hm⟩ := bindS hm
      refine cj_anyT [0, 1, 2, 3, 6, 8, 9] [] (Sat w0 (keys ([] : List Ent)) A [.box b1 28 [.int .i64 a0.Root, .int .i64 a0.Kind, .int .i64 a0.Turn]]) (Sat w0 (keys ([] : List Ent)) A [.box b1 28 [.int .i64 a0.Root, .int .i64 a0.Kind, .int .i64 a0.Turn]]) (by kernel_rfl) ?_
      refine at_take2 0 rfl (by kernel_rfl) (by kernel_rfl) (by kernel_rfl) (fun _ h => h.picks [0] rfl) rfl rfl (p_fab fl28_2 rfl) (fun _ h => h.picks [0] rfl) ?_
      refine at_take2 1 rfl (by kernel_rfl) (by kernel_rfl) (by kernel_rfl) (fun _ h => h.picks [0] rfl) rfl rfl (p_lbs ty3 rfl (j := 0) rfl rfl) (fun _ h => h.picks [0] rfl) ?_
      refine at_take2 2 rfl (by kernel_rfl) (by kernel_rfl) (by kernel_rfl) (fun _ h => h.picks [0] rfl) rfl rfl (p_fab fl28_1 rfl) (fun _ h => h.picks [0] rfl) ?_
      refine at_take2 3 rfl (by kernel_rfl) (by kernel_rfl) (by kernel_rfl) (fun _ h => h.picks [0] rfl) rfl rfl (p_lbs ty3 rfl (j := 0) rfl rfl) (fun _ h => h.picks [0] rfl) ?_
      refine at_each (rs := [4]) (by kernel_rfl) (by decide) ?_
      refine (.cons rfl (fun I cnI => ?_) .nil)
      · refine r_callN [] cf78 rfl rfl (ok_gleeref2_kindTones a0.Kind hy4) rfl rfl .nil rfl (fun s7 => ?_)
        refine lj_nil ?_
        refine cnI _ _ (sof1 rfl rfl (fun _ h => h.picks [1] rfl)) ?_
        refine at_each (rs := [5]) (by kernel_rfl) (by decide) ?_
        refine (.cons rfl (fun I cnI => ?_) .nil)
        · refine lp rfl (p_len Tryd.underlying22 rfl (.ro 0 rfl)) ?_
          refine lj_nil ?_
          refine cnI _ _ (sof1 rfl rfl (fun _ h => h.picks [1] rfl)) ?_
          refine at_take2 6 rfl (by kernel_rfl) (by kernel_rfl) (by kernel_rfl) (fun _ h => h.picks [0] rfl) rfl rfl (p_sub rfl rfl) (fun _ h => h.picks [1] rfl) ?_
          refine at_each (rs := [7]) (by kernel_rfl) (by decide) ?_
          refine (.cons rfl (fun I cnI => ?_) .nil)
          · refine r_call [] cf77 rfl rfl (ok_gleeref2_in a0.Turn 0 (w64 ((y4.length : Int) - 1)) hy6) rfl rfl .nil (fun _ => rfl) rfl (fun _ => ?_)
            refine lj_nil ?_
            refine cnI _ _ (sof1 rfl rfl (fun _ h => h.picks [1] rfl)) ?_
            refine at_take2 8 rfl (by kernel_rfl) (by kernel_rfl) (by kernel_rfl) (fun _ h => h.picks [0] rfl) rfl rfl (p_not rfl) (fun _ h => h.picks [1] rfl) ?_
            refine at_take2 9 rfl (by kernel_rfl) (by kernel_rfl) (by kernel_rfl) (fun _ h => h.picks [0] rfl) rfl rfl (p_as rfl) (fun _ h => h.picks [1] rfl) ?_
            refine at_done (by kernel_rfl) ?_
            refine nj_seq ?_
            refine cj_if (b := !y6) rfl (fun hb => ?_) (fun hb => ?_)
            · have hm := ifB_t hb hm
              refine cj_seq ?_
              refine cj_reg ?_
              refine lp rfl (p_as rfl) ?_
              refine lj_seq ?_
              obtain rfl := Option.some.inj hm
              exact cj_rt () [] Tryd.results19 (.tmp rfl .nil) rfl rfl
            · have hm := ifB_f hb hm
              refine cj_skip ?_
              refine nj_blk ?_
              refine nj_seq ?_
              refine cj_seq ?_
              refine cj_reg ?_
              refine lp rfl (p_as rfl) ?_
              refine lj_seq ?_
              obtain rfl := Option.some.inj hm
              exact cj_rt () [] Tryd.results19 (.tmp rfl .nil) rfl rfl
theorem ok_gleelaw2_errs (s0_ : SV) (a0 : (List Int)) {r : Int} (hm : m_gleelaw2_errs a0 = some r) :
    Ctr Tryd.prog 18 [s0_.v].toArray ([] : List Ent) [RdS R34 (SV.v s0_) a0] (X := Unit) (fun _ => .int .i64 r) (fun _ => []) := by
  unfold m_gleelaw2_errs at hm
  refine ctr_mk (vs := [(0, s0_.v)]) Tryd.func18 rfl Tryd.ntmps18 rfl ⟨rfl, trivial⟩ (fun w0 A => ?_)
  refine cj_seq ?_
  refine cj_reg ?_
  refine lp rfl (p_as rfl) ?_
  refine lj_seq ?_
  refine cj_seq ?_
  refine cj_seq ?_
  refine cj_reg ?_
  refine lp rfl (p_mv rfl) ?_
  refine lp rfl (p_len Tryd.underlying107 rfl (.ro 0 rfl)) ?_
  refine lp rfl (p_mv rfl) ?_
  refine lj_seq ?_
  obtain ⟨f7, hf7, hm⟩ := bindS hm
  refine cj_range (γ := Unit) (m := (a0.length : Int)) hf7 () (fun u4 g5 => [(2, .int .i64 0), (5, s0_.v)]) (fun u4 g5 => Sat w0 (keys ([] : List Ent)) A [.ro (RdS R34 (SV.v s0_) a0)]) ⟨rfl, rfl, rfl, rfl, trivial⟩ (fun _ h => h.picks [0] rfl) (nat_lt _) (fun _ h => (FactAt.get (.ro 0 rfl) h).1) (fun _ _ => ⟨rfl, rfl, rfl, rfl⟩) ⟨rfl, rfl, rfl, rfl, rfl⟩ rfl rfl rfl (fun u4 g5 e => ?_) (fun aftk6 i1 x2 u4 g5 k6 hx3 hs J hJk6 hBk6 hX I cnk6 => ?_)
  · have hm := Flow.fin_b e hm
    refine nj_seq ?_
    refine cj_seq ?_
    refine cj_reg ?_
    refine lp rfl (p_as rfl) ?_
    refine lj_seq ?_
    obtain rfl := Option.some.inj hm
    exact cj_rt () [] Tryd.results18 (.tmp rfl .nil) rfl rfl
  · have hRk6 : ∀ t, k6 = .ret t → some t = some r := fun t e => by rw [hX t e] at hm; exact hm
    have hm := hs
    refine cj_seq ?_
    refine cj_reg ?_
    refine lp rfl (p_idx Tryd.underlying107 ty34 rfl rfl (.ro 0 rfl) (getI_nat.trans hx3)) ?_
    refine lp rfl (p_lde (o := 0) ty34 rfl rfl (.ro 0 rfl) hx3 rfl) ?_
    refine lp rfl (p_as rfl) ?_
    refine lj_seq ?_
    refine cj_seq ?_
    refine cj_reg ?_
    refine lp rfl (p_mv rfl) ?_
    refine lp rfl (p_neq rfl rfl) ?_
    refine lj_seq ?_
    refine cj_if (b := x2 != 0) rfl (fun hb => ?_) (fun hb => ?_)
    · have hm := ifB_t hb hm
      refine cj_seq ?_
      refine cj_reg ?_
      refine lp rfl (p_mv rfl) ?_
      refine lp rfl (p_as rfl) ?_
      refine lj_seq ?_
      have hm := hRk6 _ (Option.some.inj hm).symm
      obtain rfl := Option.some.inj hm
      exact cj_rt () [] Tryd.results18 (.tmp rfl .nil) rfl rfl
    · have hm := ifB_f hb hm
      refine cj_skip ?_
      refine nj_blk ?_
      exact cnk6 _ _ () () (hJk6 _ (Option.some.inj hm).symm) ⟨rfl, rfl, rfl, rfl, trivial⟩ (fun _ h => h.picks [0] rfl)
theorem ok_gleelaw2_when (a0 : Bool) (a1 : Int) {r : Int} (hm : m_gleelaw2_when a0 a1 = some r) :
    Ctr Tryd.prog 20 [.bool a0, .int .i64 a1].toArray ([] : List Ent) [] (X := Unit) (fun _ => .int .i64 r) (fun _ => []) := by
  unfold m_gleelaw2_when at hm
  refine ctr_mk (vs := [(0, .bool a0), (1, .int .i64 a1)]) Tryd.func20 rfl Tryd.ntmps20 rfl ⟨rfl, rfl, trivial⟩ (fun w0 A => ?_)
  refine cj_seq ?_
  refine cj_reg ?_
  refine lp rfl (p_as rfl) ?_
  refine lj_seq ?_
  refine cj_seq ?_
  refine cj_seq ?_
  refine cj_reg ?_
  refine lp rfl (p_mv rfl) ?_
  refine lj_seq ?_
  refine cj_if (b := a0) rfl (fun hb => ?_) (fun hb => ?_)
  · have hm := ifB_t hb hm
    refine cj_seq ?_
    refine cj_reg ?_
    refine lp rfl (p_mv rfl) ?_
    refine lp rfl (p_as rfl) ?_
    refine lj_seq ?_
    obtain rfl := Option.some.inj hm
    exact cj_rt () [] Tryd.results20 (.tmp rfl .nil) rfl rfl
  · have hm := ifB_f hb hm
    refine cj_skip ?_
    refine nj_seq ?_
    refine cj_seq ?_
    refine cj_reg ?_
    refine lp rfl (p_as rfl) ?_
    refine lj_seq ?_
    obtain rfl := Option.some.inj hm
    exact cj_rt () [] Tryd.results20 (.tmp rfl .nil) rfl rfl
theorem ok_gleeref2_ChordsFault (s0_ : SV) (a0 : (List TChord)) (a1 : Int) {r : Int} (hm : m_gleeref2_ChordsFault a0 a1 = some r) :
    Ctr Tryd.prog 21 [s0_.v, .int .i64 a1].toArray ([] : List Ent) [RdS R28 (SV.v s0_) a0] (X := Unit) (fun _ => .int .i64 r) (fun _ => []) := by
  unfold m_gleeref2_ChordsFault at hm
  refine ctr_mk (vs := [(0, s0_.v), (1, .int .i64 a1)]) Tryd.func21 rfl Tryd.ntmps21 rfl ⟨rfl, rfl, trivial⟩ (fun w0 A => ?_)
  refine cj_seq ?_
  refine cj_reg ?_
  refine lp rfl (p_as rfl) ?_
  refine lj_seq ?_
  refine cj_seq ?_
  refine cj_seq ?_
  refine cj_reg ?_
  refine lp rfl (p_mv rfl) ?_
  refine lp rfl (p_len Tryd.underlying31 rfl (.ro 0 rfl)) ?_
  refine lp rfl (p_mv rfl) ?_
  refine lp rfl (p_gtr rfl rfl) ?_
  refine lj_seq ?_
  refine cj_if (b := decide ((a0.length : Int) > a1)) rfl (fun hb => ?_) (fun hb => ?_)
  · have hm := ifB_t hb hm
    refine cj_seq ?_
    refine cj_reg ?_
    refine lp rfl (p_as rfl) ?_
    refine lj_seq ?_
    obtain rfl := Option.some.inj hm
    exact cj_rt () [] Tryd.results21 (.tmp rfl .nil) rfl rfl
  · have hm := ifB_f hb hm
    refine cj_skip ?_
    refine nj_seq ?_
    refine cj_seq ?_
    refine cj_seq ?_
    refine cj_reg ?_
    refine lp rfl (p_mv rfl) ?_
    refine lp rfl (p_len Tryd.underlying31 rfl (.ro 0 rfl)) ?_
    refine lp rfl (p_mv rfl) ?_
    refine lj_seq ?_
    obtain ⟨f7, hf7, hm⟩ := bindS hm
    refine cj_range (γ := Unit) (m := (a0.length : Int)) hf7 () (fun u4 g5 => [(4, .int .i64 0), (12, s0_.v)]) (fun u4 g5 => Sat w0 (keys ([] : List Ent)) A [.ro (RdS R28 (SV.v s0_) a0)]) ⟨rfl, rfl, rfl, rfl, trivial⟩ (fun _ h => h.picks [0] rfl) (nat_lt _) (fun _ h => (FactAt.get (.ro 0 rfl) h).1) (fun _ _ => ⟨rfl, rfl, rfl, rfl⟩) ⟨rfl, rfl, rfl, rfl, rfl⟩ rfl rfl rfl (fun u4 g5 e => ?_) (fun aftk6 i1 x2 u4 g5 k6 hx3 hs J hJk6 hBk6 hX I cnk6 => ?_)
    · have hm := Flow.fin_b e hm
      refine nj_seq ?_
      refine cj_seq ?_
      refine cj_reg ?_
      refine lp rfl (p_as rfl) ?_
      refine lj_seq ?_
      obtain rfl := Option.some.inj hm
      exact cj_rt () [] Tryd.results21 (.tmp rfl .nil) rfl rfl
    · have hRk6 : ∀ t, k6 = .ret t → some t = some r := fun t e => by rw [hX t e] at hm; exact hm
      have hm := hs
      refine cj_seq ?_
      refine cj_reg ?_
      refine lp rfl (p_idx Tryd.underlying31 ty28 rfl rfl (.ro 0 rfl) (getI_nat.trans hx3)) ?_
      refine lp rfl (p_lea ty28 rfl (.ro 0 rfl) hx3) ?_
      refine r_al ty28 rfl (fun b8 => ?_)
      refine r_sb (vs := [.int .i64 x2.Root, .int .i64 x2.Kind, .int .i64 x2.Turn]) (j := 0) ty28 rfl rfl rfl rfl rfl rfl rfl ?_
      refine lj_seq ?_
      refine cj_seq ?_
      refine cj_reg ?_
      refine lp rfl (p_lbw ty28 rfl (j := 0) rfl rfl) ?_
      obtain ⟨y9, hy9, hm⟩ := bindS hm
      refine r_call [] cf19 rfl rfl (ok_gleeref2_ChordFault x2 hy9) rfl rfl .nil (fun _ => rfl) rfl (fun _ => ?_)
      refine lp rfl (p_as rfl) ?_
      refine lj_seq ?_
      refine cj_seq ?_
      refine cj_reg ?_
      refine lp rfl (p_mv rfl) ?_
      refine lp rfl (p_neq rfl rfl) ?_
      refine lj_seq ?_
      refine cj_if (b := y9 != 0) rfl (fun hb => ?_) (fun hb => ?_)
      · have hm := ifB_t hb hm
        refine cj_seq ?_
        refine cj_reg ?_
        refine lp rfl (p_mv rfl) ?_
        refine lp rfl (p_as rfl) ?_
        refine lj_seq ?_
        have hm := hRk6 _ (Option.some.inj hm).symm
        obtain rfl := Option.some.inj hm
        exact cj_rt () [] Tryd.results21 (.tmp rfl .nil) rfl rfl
      · have hm := ifB_f hb hm
        refine cj_skip ?_
        refine nj_blk ?_
        exact cnk6 _ _ () () (hJk6 _ (Option.some.inj hm).symm) ⟨rfl, rfl, rfl, rfl, trivial⟩ (fun _ h => h.picks [1] rfl)
theorem ok_gleeref2_allChords  {r : (List TChord)} (hm : m_gleeref2_allChords  = some r) :
    Ctr Tryd.prog 80 [].toArray ([] : List Ent) [] (X := SV) (fun s => s.v) (fun s => [.row R28 (SV.v s) r]) := by
  unfold m_gleeref2_allChords at hm
  refine ctr_mk (vs := []) Tryd.func80 rfl Tryd.ntmps80 rfl trivial (fun w0 A => ?_)
  refine cj_seq ?_
  refine cj_reg ?_
  refine lp rfl (p_as rfl) ?_
  refine lj_seq ?_
  refine cj_seq ?_
  refine cj_reg ?_
  refine lp rfl (p_as rfl) ?_
  refine lj_seq ?_
  refine cj_seq ?_
  refine cj_seq ?_
  refine cj_reg ?_
  refine lp rfl (p_mv rfl) ?_
  refine lj_seq ?_
  refine cj_nil R28 ?_
  obtain ⟨L31, hL31, hm⟩ := bindS hm
  obtain ⟨f8, hf8, hm⟩ := bindS hm
  refine cj_rangeC (γ := SV) (m := 12) hf8 nilS (fun u5 g6 => [(0, .slice none 0 0), (1, g6.v)]) (fun u5 g6 => Sat w0 (keys ([] : List Ent)) A [.row R28 (SV.v g6) u5]) ⟨rfl, rfl, rfl, trivial⟩ (fun _ h => h.picks [0] rfl) (rangeI_spec hL31).1 (fun _ _ => (rangeI_spec hL31).2) (fun _ _ => ⟨rfl, rfl, rfl⟩) ⟨rfl, rfl⟩ rfl rfl rfl (fun u5 g6 e => ?_) (fun aftk7 i1 x2 u5 g6 k7 hx3 hs J hJk7 hBk7 hX I cnk7 => ?_)
  · have hm := Flow.fin_b e hm
    refine nj_seq ?_
    refine cj_seq ?_
    refine cj_reg ?_
    refine lp rfl (p_mv rfl) ?_
    refine lp rfl (p_as rfl) ?_
    refine lj_seq ?_
    obtain rfl := Option.some.inj hm
    exact cj_rt g6 [0] Tryd.results80 (.tmp rfl .nil) rfl rfl
  · have hRk7 : ∀ t, k7 = .ret t → some t = some r := fun t e => by rw [hX t e] at hm; exact hm
    have hm := hs
    refine cj_seq ?_
    refine cj_reg ?_
    refine lp rfl (p_mv rfl) ?_
    refine lp rfl (p_as rfl) ?_
    refine lj_seq ?_
    refine cj_seq ?_
    refine cj_reg ?_
    refine lp rfl (p_as rfl) ?_
    refine lj_seq ?_
    obtain ⟨f13, hf13, hm⟩ := bindS hm
    refine cj_whileA (γ := SV) hf13 g6 (fun u10 g11 => [(0, .slice none 0 0), (1, g11.v), (2, .int .i64 (i1 : Int)), (3, .int .i64 u10.1), (5, .int .i64 (i1 : Int))]) (fun u10 g11 => Sat w0 (keys ([] : List Ent)) A [.row R28 (SV.v g11) u10.2]) ⟨rfl, rfl, rfl, rfl, rfl, trivial⟩ (fun _ h => h.picks [0] rfl) (fun u10 g11 e => ?_) (fun aftk12 u10 g11 k12 hs J hJk12 hBk12 hX I cnk12 => ?_)
    · have hm := Flow.fin_b e hm
      refine nj_blk ?_
      exact cnk7 _ _ u10.2 g11 (hJk7 _ (Option.some.inj hm).symm) ⟨rfl, rfl, rfl, trivial⟩ (fun _ h => h.picks [0] rfl)
    · have hRk12 : ∀ t, k12 = .ret t → some t = some k7 := fun t e => by rw [hX t e] at hm; exact hm
      have hm := hs
      refine cj_seq ?_
      refine cj_seq ?_
      refine cj_reg ?_
      refine lp rfl (p_mv rfl) ?_
      refine lp rfl (p_leq rfl rfl) ?_
      refine lj_seq ?_
      refine cj_if (b := decide (u10.1 ≤ 7)) rfl (fun hb => ?_) (fun hb => ?_)
      · have hm := ifB_t hb hm
        refine cj_skip ?_
        refine nj_seq ?_
        refine cj_seq ?_
        refine cj_blk ?_
        refine cj_seq ?_
        refine cj_reg ?_
        refine lp rfl (p_mv rfl) ?_
        obtain ⟨y15, hy15, hm⟩ := bindS hm
        refine r_callN [] cf78 rfl rfl (ok_gleeref2_kindTones u10.1 hy15) rfl rfl .nil rfl (fun s16 => ?_)
        refine lp rfl (p_len Tryd.underlying22 rfl (.ro 0 rfl)) ?_
        refine lp rfl (p_mv rfl) ?_
        refine lj_seq ?_
        obtain ⟨f23, hf23, hm⟩ := bindS hm
        refine cj_range (γ := SV) (m := (y15.length : Int)) hf23 g11 (fun u20 g21 => [(0, .slice none 0 0), (1, g21.v), (2, .int .i64 (i1 : Int)), (3, .int .i64 u10.1), (5, .int .i64 (i1 : Int))]) (fun u20 g21 => Sat w0 (keys ([] : List Ent)) A [.row R28 (SV.v g21) u20]) ⟨rfl, rfl, rfl, rfl, rfl, rfl, rfl, trivial⟩ (fun _ h => h.picks [1] rfl) (nat_lt _) (fun _ h => (FactAt.get (.ro 0 rfl) h).1) (fun _ _ => ⟨rfl, rfl, rfl, rfl⟩) ⟨rfl, rfl, rfl, rfl, rfl⟩ rfl rfl rfl (fun u20 g21 e => ?_) (fun aftk22 i17 x18 u20 g21 k22 hx19 hs J hJk22 hBk22 hX I cnk22 => ?_)
        · have hm := Flow.fin_b e hm
          refine nj_blk ?_
          refine nj_seq ?_
          refine cj_reg ?_
          refine lp rfl (p_mv rfl) ?_
          refine lp rfl (p_add rfl rfl) ?_
          refine lp rfl (p_as rfl) ?_
          refine lj_nil ?_
          exact cnk12 _ _ (w64 (u10.1 + 1), u20) g21 (hJk12 _ (Option.some.inj hm).symm) ⟨rfl, rfl, rfl, rfl, rfl, trivial⟩ (fun _ h => h.picks [0] rfl)
        · have hRk22 : ∀ t, k22 = .ret t → some t = some k12 := fun t e => by rw [hX t e] at hm; exact hm
          have hm := hs
          refine cj_seq ?_
          refine cj_reg ?_
          refine lp rfl (p_mv rfl) ?_
          refine lp rfl (p_as rfl) ?_
          refine lj_seq ?_
          refine cj_reg ?_
          refine lp rfl (p_mv rfl) ?_
          refine lp rfl (p_mv rfl) ?_
          refine lp rfl (p_mv rfl) ?_
          refine lp rfl (p_mv rfl) ?_
          refine lp rfl (p_bld [.int .i64 (i1 : Int), .int .i64 u10.1, .int .i64 (i17 : Int)] rfl (fun _ => by kernel_rfl)) ?_
          refine r_bs R28 [(TChord.mk (i1 : Int) u10.1 (i17 : Int))] rfl rfl rfl (fun _ => by kernel_rfl) rfl (fun s25 => ?_)
          obtain ⟨q26, hq26, hm⟩ := bindS hm
          refine r_app (k := 1) Tryd.underlying31 ty28 rfl rfl rfl rfl (.row 0 rfl) hq26 rfl (fun s27 => ?_)
          refine lp rfl (p_as rfl) ?_
          refine lj_nil ?_
          refine nj_blk ?_
          exact cnk22 _ _ q26 s27 (hJk22 _ (Option.some.inj hm).symm) ⟨rfl, rfl, rfl, rfl, rfl, rfl, rfl, trivial⟩ (fun _ h => h.picks [1] rfl)
      · have hm := ifB_f hb hm
        refine cj_exit rfl ?_
        exact (aftk12 (u10.1, u10.2) g11 (hBk12 _ (Option.some.inj hm).symm)).sub ⟨rfl, rfl, rfl, rfl, rfl, trivial⟩ (fun _ h => h.picks [0] rfl)
theorem ok_gleeref2_classes (s0_ : SV) (a0 : (List Int)) {r : (List Int)} (hm : m_gleeref2_classes a0 = some r) :
    Ctr Tryd.prog 82 [s0_.v].toArray ([] : List Ent) [RdS R3 (SV.v s0_) a0] (X := SV) (fun s => s.v) (fun s => [.row R3 (SV.v s) r]) := by
  unfold m_gleeref2_classes at hm
  refine ctr_mk (vs := [(0, s0_.v)]) Tryd.func82 rfl Tryd.ntmps82 rfl ⟨rfl, trivial⟩ (fun w0 A => ?_)
  refine cj_seq ?_
  refine cj_reg ?_
  refine lp rfl (p_as rfl) ?_
  refine lj_seq ?_
  refine cj_seq ?_
  refine cj_reg ?_
  refine lp rfl (p_as rfl) ?_
  refine lj_seq ?_
  refine cj_seq ?_
  refine cj_seq ?_
  refine cj_reg ?_
  refine lp rfl (p_mv rfl) ?_
  refine lp rfl (p_len Tryd.underlying22 rfl (.ro 0 rfl)) ?_
  refine lp rfl (p_mv rfl) ?_
  refine lj_seq ?_
  refine cj_nil R3 ?_
  obtain ⟨f8, hf8, hm⟩ := bindS hm
  refine cj_range (γ := SV) (m := (a0.length : Int)) hf8 nilS (fun u5 g6 => [(2, .slice none 0 0), (3, g6.v), (6, s0_.v)]) (fun u5 g6 => Sat w0 (keys ([] : List Ent)) A [.ro (RdS R3 (SV.v s0_) a0), .row R3 (SV.v g6) u5]) ⟨rfl, rfl, rfl, rfl, rfl, trivial⟩ (fun _ h => h.picks [1, 0] rfl) (nat_lt _) (fun _ h => (FactAt.get (.ro 1 rfl) h).1) (fun _ _ => ⟨rfl, rfl, rfl, rfl⟩) ⟨rfl, rfl, rfl, rfl, rfl⟩ rfl rfl rfl (fun u5 g6 e => ?_) (fun aftk7 i1 x2 u5 g6 k7 hx3 hs J hJk7 hBk7 hX I cnk7 => ?_)
  · have hm := Flow.fin_b e hm
    refine nj_seq ?_
    refine cj_seq ?_
    refine cj_reg ?_
    refine lp rfl (p_mv rfl) ?_
    obtain ⟨y14, hy14, hm⟩ := bindS hm
    refine r_call [1] cf122 rfl rfl (ok_slices_Sort_int_int g6 u5 hy14) rfl rfl .nil (fun _ => rfl) rfl (fun _ => ?_)
    refine lj_seq ?_
    refine cj_seq ?_
    refine cj_reg ?_
    refine lp rfl (p_mv rfl) ?_
    obtain ⟨y15, hy15, hm⟩ := bindS hm
    refine r_call [0] cf123 rfl rfl (ok_slices_Compact_int_int g6 y14 hy15) rfl rfl .nil (fun _ => rfl) rfl (fun s16 => ?_)
    refine lp rfl (p_as rfl) ?_
    refine lj_seq ?_
    obtain rfl := Option.some.inj hm
    exact cj_rt s16 [0] Tryd.results82 (.tmp rfl .nil) rfl rfl
  · have hRk7 : ∀ t, k7 = .ret t → some t = some r := fun t e => by rw [hX t e] at hm; exact hm
    have hm := hs
    refine cj_seq ?_
    refine cj_reg ?_
    refine lp rfl (p_idx Tryd.underlying22 ty3 rfl rfl (.ro 0 rfl) (getI_nat.trans hx3)) ?_
    refine lp rfl (p_lde (o := 0) ty3 rfl rfl (.ro 0 rfl) hx3 rfl) ?_
    refine lp rfl (p_as rfl) ?_
    refine lj_seq ?_
    refine cj_reg ?_
    refine lp rfl (p_mv rfl) ?_
    refine lp rfl (p_mv rfl) ?_
    refine lp rfl (p_rem rfl rfl (by decide)) ?_
    refine r_bs R3 [x2.tmod 12] rfl rfl rfl (fun _ => by kernel_rfl) rfl (fun s10 => ?_)
    obtain ⟨q11, hq11, hm⟩ := bindS hm
    refine r_app (k := 2) Tryd.underlying22 ty3 rfl rfl rfl rfl (.row 0 rfl) hq11 rfl (fun s12 => ?_)
    refine lp rfl (p_as rfl) ?_
    refine lj_nil ?_
    refine nj_blk ?_
    exact cnk7 _ _ q11 s12 (hJk7 _ (Option.some.inj hm).symm) ⟨rfl, rfl, rfl, rfl, rfl, trivial⟩ (fun _ h => h.picks [1, 1] rfl)
theorem ok_gleeref2_ChordsOf_1 (a0 : TChord) (b1_ : Nat) (s1_0_ : SV) (a1_0 : (List Int)) {r : Bool} (hm : m_gleeref2_ChordsOf_1 a0 a1_0 = some r) :
    Ctr Tryd.prog 81 [.agg (R28.enc a0).toArray, .pointer (some ⟨b1_, 0, none⟩)].toArray ([] : List Ent) [BoxS b1_ 22 [s1_0_.v], RdS R3 (SV.v s1_0_) a1_0] (X := Unit) (fun _ => .bool r) (fun _ => []) := by
  unfold m_gleeref2_ChordsOf_1 at hm
  refine ctr_mk (vs := [(0, .agg (R28.enc a0).toArray), (1, .pointer (some ⟨b1_, 0, none⟩))]) Tryd.func81 rfl Tryd.ntmps81 rfl ⟨rfl, rfl, trivial⟩ (fun w0 A => ?_)
  refine cj_seq ?_
  refine cj_reg ?_
  refine r_bx (cs := [.int .i64 a0.Root, .int .i64 a0.Kind, .int .i64 a0.Turn]) rfl rfl rfl (fun b1 => ?_)
  refine lp rfl (p_as rfl) ?_
  refine lj_seq ?_
  refine cj_seq ?_
  refine cj_reg ?_
  refine lp rfl (p_lbw ty28 rfl (j := 0) rfl rfl) ?_
  obtain ⟨y2, hy2, hm⟩ := bindS hm
  refine r_callN [] cf58 rfl rfl (ok_gleeref2_TonesOf a0 hy2) rfl rfl .nil rfl (fun s3 => ?_)
  refine lp rfl (p_as rfl) ?_
  refine lj_seq ?_
  refine cj_seq ?_
  obtain ⟨k6, hk6, hm⟩ := bindS hm
  have hRk6 : ∀ t, k6 = .inr t → some t = some r := fun t e => by rw [e] at hm; exact hm
  refine cj_joinK (σ := Bool) (γ := Unit) (fun u4 => k6 = .inl u4) (fun u4 g5 => [(3, .bool u4)]) (fun u4 g5 => Sat w0 (keys ([] : List Ent)) A []) (fun u4 g5 hq => ?_) (fun J cnk6 => ?_)
  · have hm := Sum.fin_l hq hm
    obtain rfl := Option.some.inj hm
    exact cj_rt () [] Tryd.results81 (.tmp rfl .nil) rfl rfl
  · have hm := hk6
    obtain ⟨y7, hy7, hm⟩ := bindS hm
    obtain ⟨y9, hy9, hm⟩ := bindS hm
    obtain ⟨y11, hy11, hm⟩ := bindS hm
    refine cj_anyT [0, 2, 5, 6, 7, 8, 9, 10, 12, 13, 15] [] (Sat w0 (keys ([] : List Ent)) A [.ro (RdS R3 (SV.v s3) y2), .box b1 28 [.int .i64 a0.Root, .int .i64 a0.Kind, .int .i64 a0.Turn], .ro (BoxS b1_ 22 [s1_0_.v]), .ro (RdS R3 (SV.v s1_0_) a1_0)]) (Sat w0 (keys ([] : List Ent)) A [.ro (RdS R3 (SV.v s3) y2), .box b1 28 [.int .i64 a0.Root, .int .i64 a0.Kind, .int .i64 a0.Turn], .ro (BoxS b1_ 22 [s1_0_.v]), .ro (RdS R3 (SV.v s1_0_) a1_0)]) (by kernel_rfl) ?_
    refine at_take2 0 rfl (by kernel_rfl) (by kernel_rfl) (by kernel_rfl) (fun _ h => h.picks [0, 0, 0, 0] rfl) rfl rfl (p_mv rfl) (fun _ h => h.picks [0, 0, 0, 0] rfl) ?_
    refine at_take2 2 rfl (by kernel_rfl) (by kernel_rfl) (by kernel_rfl) (fun _ h => h.picks [0, 0, 0, 0] rfl) rfl rfl (p_rbs ty22 rfl (.ro 2 rfl) rfl) (fun _ h => h.picks [0, 0, 0, 0] rfl) ?_
    refine at_each (rs := [1]) (by kernel_rfl) (by decide) ?_
    refine (.cons rfl (fun I cnI => ?_) .nil)
    · refine r_call [] cf82 rfl rfl (ok_gleeref2_classes s3 y2 hy7) rfl rfl (.cons (.ro 0 rfl) .nil) (fun _ => rfl) rfl (fun s14 => ?_)
      refine lj_nil ?_
      refine cnI _ _ (sof1 rfl rfl (fun _ h => h.picks [1, 1, 1, 1] rfl)) ?_
      refine at_each (rs := [3]) (by kernel_rfl) (by decide) ?_
      refine (.cons rfl (fun I cnI => ?_) .nil)
      · refine r_call [] cf82 rfl rfl (ok_gleeref2_classes s1_0_ a1_0 hy9) rfl rfl (.cons (.ro 4 rfl) .nil) (fun _ => rfl) rfl (fun s15 => ?_)
        refine lj_nil ?_
        refine cnI _ _ (sof1 rfl rfl (fun _ h => h.picks [2, 2, 2, 2] rfl)) ?_
        refine at_each (rs := [4]) (by kernel_rfl) (by decide) ?_
        refine (.cons rfl (fun I cnI => ?_) .nil)
        · refine r_call [] cf27 rfl rfl (ok_slices_Equal_int_int s14 y7 s15 y9 hy11) rfl rfl (.cons (.row 1 rfl) (.cons (.row 0 rfl) .nil)) (fun _ => rfl) rfl (fun _ => ?_)
          refine lj_nil ?_
          refine cnI _ _ (sof1 rfl rfl (fun _ h => h.picks [2, 2, 2, 2] rfl)) ?_
          refine at_take2 5 rfl (by kernel_rfl) (by kernel_rfl) (by kernel_rfl) (fun _ h => h.picks [0, 0, 0, 0] rfl) rfl rfl (p_not rfl) (fun _ h => h.picks [2, 2, 2, 2] rfl) ?_
          refine at_take2 6 rfl (by kernel_rfl) (by kernel_rfl) (by kernel_rfl) (fun _ h => h.picks [0, 0, 0, 0] rfl) rfl rfl (p_mv rfl) (fun _ h => h.picks [2, 2, 2, 2] rfl) ?_
          refine at_case (i := 13) (!y11) rfl (fun hb => ?_) (fun hb => ?_)
          · have hm := ifB_t hb hm
            refine at_skip 7 rfl rfl rfl rfl (by kernel_rfl) (by kernel_rfl) (by kernel_rfl) rfl rfl ?_
            refine at_skip 8 rfl rfl rfl rfl (by kernel_rfl) (by kernel_rfl) (by kernel_rfl) rfl rfl ?_
            refine at_skip 9 rfl rfl rfl rfl (by kernel_rfl) (by kernel_rfl) (by kernel_rfl) rfl rfl ?_
            refine at_skip 10 rfl rfl rfl rfl (by kernel_rfl) (by kernel_rfl) (by kernel_rfl) rfl rfl ?_
            refine at_each (rs := [11]) (by kernel_rfl) (by decide) ?_
            refine (.cons rfl (fun I cnI => ?_) .nil)
            · refine ls false rfl rfl rfl rfl ?_
              refine lj_nil ?_
              refine cnI _ _ (sof1 rfl rfl (fun _ h => h.picks [2, 2, 2, 2] rfl)) ?_
              refine at_skip 12 rfl rfl rfl rfl (by kernel_rfl) (by kernel_rfl) (by kernel_rfl) rfl rfl ?_
              refine at_skip 13 rfl rfl rfl rfl (by kernel_rfl) (by kernel_rfl) (by kernel_rfl) rfl rfl ?_
              refine at_each (rs := [14]) (by kernel_rfl) (by decide) ?_
              refine (.cons rfl (fun I cnI => ?_) .nil)
              · refine lp rfl (p_pkt rfl rfl) ?_
                refine lj_nil ?_
                refine cnI _ _ (sof1 rfl rfl (fun _ h => h.picks [2, 2, 2, 2] rfl)) ?_
                refine at_take2 15 rfl (by kernel_rfl) (by kernel_rfl) (by kernel_rfl) (fun _ h => h.picks [0, 0, 0, 0] rfl) rfl rfl (p_as rfl) (fun _ h => h.picks [2, 2, 2, 2] rfl) ?_
                refine at_done (by kernel_rfl) ?_
                exact cnk6 _ _ true () (Option.some.inj hm).symm ⟨rfl, trivial⟩ (fun _ h => h.picks [] rfl)
          · have hm := ifB_f hb hm
            obtain ⟨e12, he12, hm⟩ := bindS hm
            obtain ⟨y13, hy13, hm⟩ := bindS hm
            refine at_take2g 7 rfl rfl rfl rfl (by kernel_rfl) (by kernel_rfl) (by kernel_rfl) (fun _ h => h.picks [0, 0, 0, 0] rfl) rfl rfl (p_mv rfl) (fun _ h => h.picks [2, 2, 2, 2] rfl) ?_
            refine at_take2g 8 rfl rfl rfl rfl (by kernel_rfl) (by kernel_rfl) (by kernel_rfl) (fun _ h => h.picks [0, 0, 0, 0] rfl) rfl rfl (p_idx Tryd.underlying22 ty3 rfl rfl (.ro 0 rfl) he12) (fun _ h => h.picks [2, 2, 2, 2] rfl) ?_
            refine at_take2g 9 rfl rfl rfl rfl (by kernel_rfl) (by kernel_rfl) (by kernel_rfl) (fun _ h => h.picks [0, 0, 0, 0] rfl) rfl rfl (p_lde (o := 0) ty3 rfl rfl (.ro 0 rfl) (getI_spec he12).2 rfl) (fun _ h => h.picks [2, 2, 2, 2] rfl) ?_
            refine at_take2g 10 rfl rfl rfl rfl (by kernel_rfl) (by kernel_rfl) (by kernel_rfl) (fun _ h => h.picks [0, 0, 0, 0] rfl) rfl rfl (p_rbs ty22 rfl (.ro 2 rfl) rfl) (fun _ h => h.picks [2, 2, 2, 2] rfl) ?_
            refine at_each (rs := [11]) (by kernel_rfl) (by decide) ?_
            refine (.cons rfl (fun I cnI => ?_) .nil)
            · refine lg false rfl rfl rfl ?_
              refine r_call [] cf66 rfl rfl (ok_slices_Min_int_int s1_0_ a1_0 hy13) rfl rfl (.cons (.ro 5 rfl) .nil) (fun _ => rfl) rfl (fun _ => ?_)
              refine lj_nil ?_
              refine cnI _ _ (sof1 rfl rfl (fun _ h => h.picks [2, 2, 2, 2] rfl)) ?_
              refine at_take2g 12 rfl rfl rfl rfl (by kernel_rfl) (by kernel_rfl) (by kernel_rfl) (fun _ h => h.picks [0, 0, 0, 0] rfl) rfl rfl (p_rem rfl rfl (by decide)) (fun _ h => h.picks [2, 2, 2, 2] rfl) ?_
              refine at_take2g 13 rfl rfl rfl rfl (by kernel_rfl) (by kernel_rfl) (by kernel_rfl) (fun _ h => h.picks [0, 0, 0, 0] rfl) rfl rfl (p_neq rfl rfl) (fun _ h => h.picks [2, 2, 2, 2] rfl) ?_
              refine at_each (rs := [14]) (by kernel_rfl) (by decide) ?_
              refine (.cons rfl (fun I cnI => ?_) .nil)
              · refine lp rfl (p_pkf rfl rfl) ?_
                refine lj_nil ?_
                refine cnI _ _ (sof1 rfl rfl (fun _ h => h.picks [2, 2, 2, 2] rfl)) ?_
                refine at_take2 15 rfl (by kernel_rfl) (by kernel_rfl) (by kernel_rfl) (fun _ h => h.picks [0, 0, 0, 0] rfl) rfl rfl (p_as rfl) (fun _ h => h.picks [2, 2, 2, 2] rfl) ?_
                refine at_done (by kernel_rfl) ?_
                exact cnk6 _ _ (e12 != (y13.tmod 12)) () (Option.some.inj hm).symm ⟨rfl, trivial⟩ (fun _ h => h.picks [] rfl)
theorem ok_slices_IndexFunc_api_Chord_api_Chord__gleeref2_ChordsOf_1 (s0_ : SV) (a0 : (List TChord)) (b1_c0_ : Nat) (s1_c0_0_ : SV) (a1_c0_0 : (List Int)) {r : Int} (hm : m_slices_IndexFunc_api_Chord_api_Chord__gleeref2_ChordsOf_1 a0 a1_c0_0 = some r) :
    Ctr Tryd.prog 124 [s0_.v, .func (.func 81) #[] [.pointer (some ⟨b1_c0_, 0, none⟩)].toArray].toArray ([] : List Ent) [RdS R28 (SV.v s0_) a0, BoxS b1_c0_ 22 [s1_c0_0_.v], RdS R3 (SV.v s1_c0_0_) a1_c0_0] (X := Unit) (fun _ => .int .i64 r) (fun _ => []) := by
  unfold m_slices_IndexFunc_api_Chord_api_Chord__gleeref2_ChordsOf_1 at hm
  refine ctr_mk (vs := [(0, s0_.v), (1, .func (.func 81) #[] [.pointer (some ⟨b1_c0_, 0, none⟩)].toArray)]) Tryd.func124 rfl Tryd.ntmps124 rfl ⟨rfl, rfl, trivial⟩ (fun w0 A => ?_)
  refine cj_seq ?_
  refine cj_reg ?_
  refine lp rfl (p_as rfl) ?_
  refine lj_seq ?_
  refine cj_seq ?_
  refine cj_seq ?_
  refine cj_reg ?_
  refine lp rfl (p_mv rfl) ?_
  refine lp rfl (p_len Tryd.underlying31 rfl (.ro 0 rfl)) ?_
  refine lp rfl (p_mv rfl) ?_
  refine lj_seq ?_
  obtain ⟨f7, hf7, hm⟩ := bindS hm
  refine cj_range (γ := Unit) (m := (a0.length : Int)) hf7 () (fun u4 g5 => [(0, s0_.v), (1, .func (.func 81) #[] [.pointer (some ⟨b1_c0_, 0, none⟩)].toArray), (4, .int .i64 0)]) (fun u4 g5 => Sat w0 (keys ([] : List Ent)) A [.ro (RdS R28 (SV.v s0_) a0), .ro (BoxS b1_c0_ 22 [s1_c0_0_.v]), .ro (RdS R3 (SV.v s1_c0_0_) a1_c0_0)]) ⟨rfl, rfl, rfl, rfl, rfl, trivial⟩ (fun _ h => h.picks [0, 0, 0] rfl) (nat_lt _) (fun _ h => (FactAt.get (.ro 0 rfl) h).1) (fun _ _ => ⟨rfl, rfl, rfl, rfl⟩) ⟨rfl, rfl, rfl, rfl, rfl⟩ rfl rfl rfl (fun u4 g5 e => ?_) (fun aftk6 i1 x2 u4 g5 k6 hx3 hs J hJk6 hBk6 hX I cnk6 => ?_)
  · have hm := Flow.fin_b e hm
    refine nj_seq ?_
    refine cj_seq ?_
    refine cj_reg ?_
    refine lp rfl (p_as rfl) ?_
    refine lj_seq ?_
    obtain rfl := Option.some.inj hm
    exact cj_rt () [] Tryd.results124 (.tmp rfl .nil) rfl rfl
  · have hRk6 : ∀ t, k6 = .ret t → some t = some r := fun t e => by rw [hX t e] at hm; exact hm
    have hm := hs
    refine cj_seq ?_
    refine cj_reg ?_
    refine lp rfl (p_mv rfl) ?_
    refine lp rfl (p_as rfl) ?_
    refine lj_seq ?_
    refine cj_seq ?_
    refine cj_reg ?_
    refine lp rfl (p_mv rfl) ?_
    refine lp rfl (p_mv rfl) ?_
    refine lp rfl (p_mv rfl) ?_
    refine lp rfl (p_idx Tryd.underlying31 ty28 rfl rfl (.ro 0 rfl) (getI_nat.trans hx3)) ?_
    refine lp rfl (p_lea ty28 rfl (.ro 0 rfl) hx3) ?_
    obtain ⟨y8, hy8, hm⟩ := bindS hm
    refine r_call [] cf81 rfl rfl (ok_gleeref2_ChordsOf_1 x2 b1_c0_ s1_c0_0_ a1_c0_0 hy8) rfl rfl (.cons (.ro 1 rfl) (.cons (.ro 2 rfl) .nil)) (fun _ => rfl) rfl (fun _ => ?_)
    refine lj_seq ?_
    refine cj_if (b := y8) rfl (fun hb => ?_) (fun hb => ?_)
    · have hm := ifB_t hb hm
      refine cj_seq ?_
      refine cj_reg ?_
      refine lp rfl (p_mv rfl) ?_
      refine lp rfl (p_as rfl) ?_
      refine lj_seq ?_
      have hm := hRk6 _ (Option.some.inj hm).symm
      obtain rfl := Option.some.inj hm
      exact cj_rt () [] Tryd.results124 (.tmp rfl .nil) rfl rfl
    · have hm := ifB_f hb hm
      refine cj_skip ?_
      refine nj_blk ?_
      exact cnk6 _ _ () () (hJk6 _ (Option.some.inj hm).symm) ⟨rfl, rfl, rfl, rfl, rfl, trivial⟩ (fun _ h => h.picks [0, 0, 0] rfl)
theorem ok_slices_DeleteFunc_api_Chord_api_Chord__gleeref2_ChordsOf_1 (s0_ : SV) (a0 : (List TChord)) (b1_c0_ : Nat) (s1_c0_0_ : SV) (a1_c0_0 : (List Int)) {r : (List TChord)} (hm : m_slices_DeleteFunc_api_Chord_api_Chord__gleeref2_ChordsOf_1 a0 a1_c0_0 = some r) :
    Ctr Tryd.prog 79 [s0_.v, .func (.func 81) #[] [.pointer (some ⟨b1_c0_, 0, none⟩)].toArray].toArray [.row R28 (SV.v s0_) a0] [BoxS b1_c0_ 22 [s1_c0_0_.v], RdS R3 (SV.v s1_c0_0_) a1_c0_0] (X := SV) (fun s => s.v) (fun s => [.row R28 (SV.v s) r]) := by
  unfold m_slices_DeleteFunc_api_Chord_api_Chord__gleeref2_ChordsOf_1 at hm
  refine ctr_mk (vs := [(0, s0_.v), (1, .func (.func 81) #[] [.pointer (some ⟨b1_c0_, 0, none⟩)].toArray)]) Tryd.func79 rfl Tryd.ntmps79 rfl ⟨rfl, rfl, trivial⟩ (fun w0 A => ?_)
  refine cj_seq ?_
  refine cj_reg ?_
  refine lp rfl (p_as rfl) ?_
  refine lj_seq ?_
  refine cj_seq ?_
  refine cj_reg ?_
  refine lp rfl (p_mv rfl) ?_
  refine lp rfl (p_mv rfl) ?_
  obtain ⟨y1, hy1, hm⟩ := bindS hm
  refine r_call [] cf124 rfl rfl (ok_slices_IndexFunc_api_Chord_api_Chord__gleeref2_ChordsOf_1 s0_ a0 b1_c0_ s1_c0_0_ a1_c0_0 hy1) rfl rfl (.cons (.row 0 rfl) (.cons (.ro 1 rfl) (.cons (.ro 2 rfl) .nil))) (fun _ => rfl) rfl (fun _ => ?_)
  refine lp rfl (p_as rfl) ?_
  refine lj_seq ?_
  refine cj_seq ?_
  refine cj_seq ?_
  refine cj_reg ?_
  refine lp rfl (p_mv rfl) ?_
  refine lp rfl (p_eql rfl rfl) ?_
  refine lj_seq ?_
  refine cj_if (b := y1 == (-1)) rfl (fun hb => ?_) (fun hb => ?_)
  · have hm := ifB_t hb hm
    refine cj_seq ?_
    refine cj_reg ?_
    refine lp rfl (p_mv rfl) ?_
    refine lp rfl (p_as rfl) ?_
    refine lj_seq ?_
    obtain rfl := Option.some.inj hm
    exact cj_rt s0_ [0] Tryd.results79 (.tmp rfl .nil) rfl rfl
  · have hm := ifB_f hb hm
    refine cj_skip ?_
    refine nj_seq ?_
    refine cj_seq ?_
    refine cj_seq ?_
    refine cj_reg ?_
    refine lp rfl (p_mv rfl) ?_
    refine lp rfl (p_add rfl rfl) ?_
    refine lp rfl (p_as rfl) ?_
    refine lj_seq ?_
    obtain ⟨f5, hf5, hm⟩ := bindS hm
    refine cj_whileA (γ := Unit) hf5 () (fun u2 g3 => [(0, s0_.v), (1, .func (.func 81) #[] [.pointer (some ⟨b1_c0_, 0, none⟩)].toArray), (4, .slice none 0 0), (5, .int .i64 u2.1), (6, .int .i64 u2.2.1)]) (fun u2 g3 => Sat w0 (keys [.row R28 (SV.v s0_) a0]) A [.ro (BoxS b1_c0_ 22 [s1_c0_0_.v]), .ro (RdS R3 (SV.v s1_c0_0_) a1_c0_0), .row R28 (SV.v s0_) u2.2.2]) ⟨rfl, rfl, rfl, rfl, rfl, trivial⟩ (fun _ h => h.picks [1, 1, 0] rfl) (fun u2 g3 e => ?_) (fun aftk4 u2 g3 k4 hs J hJk4 hBk4 hX I cnk4 => ?_)
    · have hm := Flow.fin_b e hm
      refine nj_seq ?_
      refine cj_seq ?_
      refine cj_reg ?_
      refine lp rfl (p_mv rfl) ?_
      refine lp rfl (p_mv rfl) ?_
      obtain ⟨q10, hq10, hm⟩ := bindS hm
      refine lp rfl (p_cut Tryd.underlying31 ty28 rfl rfl rfl rfl rfl (.row 2 rfl) rfl rfl hq10) ?_
      refine r_clear (k := 2) (TChord.mk 0 0 0) Tryd.underlying31 ty28 rfl rfl rfl hq10 rfl ?_
      refine lj_seq ?_
      refine cj_seq ?_
      refine cj_reg ?_
      refine lp rfl (p_mv rfl) ?_
      refine lp rfl (p_mv rfl) ?_
      obtain ⟨q11, hq11, hm⟩ := bindS hm
      refine lp rfl (p_cut Tryd.underlying31 ty28 rfl rfl rfl rfl rfl (.row 2 rfl) rfl rfl hq11) ?_
      refine lp rfl (p_as rfl) ?_
      refine lj_seq ?_
      obtain rfl := Option.some.inj hm
      refine cj_pre 2 rfl rfl hq11 ?_
      exact cj_rt (s0_.sub R28.sz (0 : Int).toNat u2.1.toNat) [2] Tryd.results79 (.tmp rfl .nil) rfl rfl
    · have hRk4 : ∀ t, k4 = .ret t → some t = some r := fun t e => by rw [hX t e] at hm; exact hm
      have hm := hs
      refine cj_seq ?_
      refine cj_seq ?_
      refine cj_reg ?_
      refine lp rfl (p_mv rfl) ?_
      refine lp rfl (p_mv rfl) ?_
      refine lp rfl (p_len Tryd.underlying31 rfl (.row 2 rfl)) ?_
      refine lp rfl (p_lss rfl rfl) ?_
      refine lj_seq ?_
      refine cj_if (b := decide (u2.2.1 < (u2.2.2.length : Int))) rfl (fun hb => ?_) (fun hb => ?_)
      · have hm := ifB_t hb hm
        refine cj_skip ?_
        refine nj_seq ?_
        refine cj_seq ?_
        refine cj_blk ?_
        refine cj_seq ?_
        refine cj_reg ?_
        refine lp rfl (p_mv rfl) ?_
        refine lp rfl (p_mv rfl) ?_
        obtain ⟨e6, he6, hm⟩ := bindS hm
        refine lp rfl (p_idx Tryd.underlying31 ty28 rfl rfl (.row 2 rfl) he6) ?_
        refine lp rfl (p_lea ty28 rfl (.row 2 rfl) (getI_spec he6).2) ?_
        refine r_al ty28 rfl (fun b7 => ?_)
        refine r_sb (vs := [.int .i64 e6.Root, .int .i64 e6.Kind, .int .i64 e6.Turn]) (j := 0) ty28 rfl rfl rfl rfl rfl rfl rfl ?_
        refine lj_seq ?_
        refine cj_seq ?_
        refine cj_reg ?_
        refine lp rfl (p_mv rfl) ?_
        refine lp rfl (p_lbw ty28 rfl (j := 0) rfl rfl) ?_
        obtain ⟨y8, hy8, hm⟩ := bindS hm
        refine r_call [] cf81 rfl rfl (ok_gleeref2_ChordsOf_1 e6 b1_c0_ s1_c0_0_ a1_c0_0 hy8) rfl rfl (.cons (.ro 1 rfl) (.cons (.ro 2 rfl) .nil)) (fun _ => rfl) rfl (fun _ => ?_)
        refine lp rfl (p_not rfl) ?_
        refine lj_seq ?_
        refine cj_if (b := !y8) rfl (fun hb => ?_) (fun hb => ?_)
        · have hm := ifB_t hb hm
          refine cj_seq ?_
          refine cj_reg ?_
          refine lp rfl (p_mv rfl) ?_
          refine lp rfl (p_mv rfl) ?_
          refine lp rfl (p_lbw ty28 rfl (j := 0) rfl rfl) ?_
          obtain ⟨e9, he9, hm⟩ := bindS hm
          refine lp rfl (p_idx Tryd.underlying31 ty28 rfl rfl (.row 3 rfl) he9) ?_
          refine r_ste (k := 3) (o := 0) (vs := [.int .i64 e6.Root, .int .i64 e6.Kind, .int .i64 e6.Turn]) ty28 rfl rfl rfl rfl rfl rfl rfl (getI_spec he9).2 e6 rfl rfl ?_
          refine lj_seq ?_
          refine cj_reg ?_
          refine lp rfl (p_mv rfl) ?_
          refine lp rfl (p_add rfl rfl) ?_
          refine lp rfl (p_as rfl) ?_
          refine lj_nil ?_
          refine nj_blk ?_
          refine nj_seq ?_
          refine cj_reg ?_
          refine lp rfl (p_mv rfl) ?_
          refine lp rfl (p_add rfl rfl) ?_
          refine lp rfl (p_as rfl) ?_
          refine lj_nil ?_
          exact cnk4 _ _ (w64 (u2.1 + 1), w64 (u2.2.1 + 1), (u2.2.2.set u2.1.toNat e6)) () (hJk4 _ (Option.some.inj hm).symm) ⟨rfl, rfl, rfl, rfl, rfl, trivial⟩ (fun _ h => h.picks [1, 1, 1] rfl)
        · have hm := ifB_f hb hm
          refine cj_skip ?_
          refine nj_blk ?_
          refine nj_seq ?_
          refine cj_reg ?_
          refine lp rfl (p_mv rfl) ?_
          refine lp rfl (p_add rfl rfl) ?_
          refine lp rfl (p_as rfl) ?_
          refine lj_nil ?_
          exact cnk4 _ _ (u2.1, w64 (u2.2.1 + 1), u2.2.2) () (hJk4 _ (Option.some.inj hm).symm) ⟨rfl, rfl, rfl, rfl, rfl, trivial⟩ (fun _ h => h.picks [1, 1, 1] rfl)
      · have hm := ifB_f hb hm
        refine cj_exit rfl ?_
        exact (aftk4 (u2.1, u2.2.1, u2.2.2) () (hBk4 _ (Option.some.inj hm).symm)).sub ⟨rfl, rfl, rfl, rfl, rfl, trivial⟩ (fun _ h => h.picks [0, 0, 0] rfl)
theorem ok_gleeref2_ChordsOf (s0_ : SV) (a0 : (List Int)) {r : (List TChord)} (hm : m_gleeref2_ChordsOf a0 = some r) :
    Ctr Tryd.prog 22 [s0_.v].toArray ([] : List Ent) [RdS R3 (SV.v s0_) a0] (X := SV) (fun s => s.v) (fun s => [.row R28 (SV.v s) r]) := by
  unfold m_gleeref2_ChordsOf at hm
  refine ctr_mk (vs := [(0, s0_.v)]) Tryd.func22 rfl Tryd.ntmps22 rfl ⟨rfl, trivial⟩ (fun w0 A => ?_)
  refine cj_seq ?_
  refine cj_reg ?_
  refine r_bx (cs := [s0_.v]) rfl rfl rfl (fun b1 => ?_)
  refine lp rfl (p_as rfl) ?_
  refine lj_seq ?_
  refine cj_seq ?_
  refine cj_reg ?_
  obtain ⟨y2, hy2, hm⟩ := bindS hm
  refine r_call [] cf80 rfl rfl (ok_gleeref2_allChords  hy2) rfl rfl .nil (fun _ => rfl) rfl (fun s3 => ?_)
  refine lp rfl (p_fn (cv := [.pointer (some ⟨b1, 0, none⟩)]) rfl) ?_
  obtain ⟨y4, hy4, hm⟩ := bindS hm
  refine r_call [0] cf79 rfl rfl (ok_slices_DeleteFunc_api_Chord_api_Chord__gleeref2_ChordsOf_1 s3 y2 b1 s0_ a0 hy4) rfl rfl (.cons (.imp (.box 0 rfl) (fun _ h => h)) (.cons (.ro 1 rfl) .nil)) (fun _ => rfl) rfl (fun s5 => ?_)
  refine lp rfl (p_as rfl) ?_
  refine lj_seq ?_
  obtain rfl := Option.some.inj hm
  exact cj_rt s5 [0] Tryd.results22 (.tmp rfl .nil) rfl rfl
theorem ok_gleeref2_SharedOf (a0 : TChord) (a1 : TChord) {r : Int} (hm : m_gleeref2_SharedOf a0 a1 = some r) :
    Ctr Tryd.prog 23 [.agg (R28.enc a0).toArray, .agg (R28.enc a1).toArray].toArray ([] : List Ent) [] (X := Unit) (fun _ => .int .i64 r) (fun _ => []) := by
  unfold m_gleeref2_SharedOf at hm
  refine ctr_mk (vs := [(0, .agg (R28.enc a0).toArray), (1, .agg (R28.enc a1).toArray)]) Tryd.func23 rfl Tryd.ntmps23 rfl ⟨rfl, rfl, trivial⟩ (fun w0 A => ?_)
  refine cj_seq ?_
  refine cj_reg ?_
  refine r_bx (cs := [.int .i64 a0.Root, .int .i64 a0.Kind, .int .i64 a0.Turn]) rfl rfl rfl (fun b1 => ?_)
  refine r_bx (cs := [.int .i64 a1.Root, .int .i64 a1.Kind, .int .i64 a1.Turn]) rfl rfl rfl (fun b2 => ?_)
  refine lp rfl (p_as rfl) ?_
  refine lj_seq ?_
  refine cj_seq ?_
  refine cj_reg ?_
  refine lp rfl (p_as rfl) ?_
  refine lj_seq ?_
  refine cj_seq ?_
  refine cj_seq ?_
  refine cj_reg ?_
  refine lp rfl (p_lbw ty28 rfl (j := 1) rfl rfl) ?_
  obtain ⟨y3, hy3, hm⟩ := bindS hm
  refine r_callN [] cf58 rfl rfl (ok_gleeref2_TonesOf a0 hy3) rfl rfl .nil rfl (fun s4 => ?_)
  refine lp rfl (p_len Tryd.underlying22 rfl (.ro 0 rfl)) ?_
  refine lp rfl (p_mv rfl) ?_
  refine lj_seq ?_
  obtain ⟨f11, hf11, hm⟩ := bindS hm
  refine cj_range (γ := Unit) (m := (y3.length : Int)) hf11 () (fun u8 g9 => [(3, .pointer (some ⟨b2, 0, none⟩)), (4, .int .i64 0), (5, .int .i64 u8), (9, s4.v)]) (fun u8 g9 => Sat w0 (keys ([] : List Ent)) A [.ro (RdS R3 (SV.v s4) y3), .box b2 28 [.int .i64 a1.Root, .int .i64 a1.Kind, .int .i64 a1.Turn]]) ⟨rfl, rfl, rfl, rfl, rfl, rfl, trivial⟩ (fun _ h => h.picks [0, 0] rfl) (nat_lt _) (fun _ h => (FactAt.get (.ro 0 rfl) h).1) (fun _ _ => ⟨rfl, rfl, rfl, rfl⟩) ⟨rfl, rfl, rfl, rfl, rfl⟩ rfl rfl rfl (fun u8 g9 e => ?_) (fun aftk10 i5 x6 u8 g9 k10 hx7 hs J hJk10 hBk10 hX I cnk10 => ?_)
  · have hm := Flow.fin_b e hm
    refine nj_seq ?_
    refine cj_seq ?_
    refine cj_reg ?_
    refine lp rfl (p_mv rfl) ?_
    refine lp rfl (p_as rfl) ?_
    refine lj_seq ?_
    obtain rfl := Option.some.inj hm
    exact cj_rt () [] Tryd.results23 (.tmp rfl .nil) rfl rfl
  · have hRk10 : ∀ t, k10 = .ret t → some t = some r := fun t e => by rw [hX t e] at hm; exact hm
    have hm := hs
    refine cj_seq ?_
    refine cj_reg ?_
    refine lp rfl (p_idx Tryd.underlying22 ty3 rfl rfl (.ro 0 rfl) (getI_nat.trans hx7)) ?_
    refine lp rfl (p_lde (o := 0) ty3 rfl rfl (.ro 0 rfl) hx7 rfl) ?_
    refine lp rfl (p_as rfl) ?_
    refine lj_seq ?_
    refine cj_seq ?_
    refine cj_reg ?_
    refine lp rfl (p_lbw ty28 rfl (j := 1) rfl rfl) ?_
    obtain ⟨y12, hy12, hm⟩ := bindS hm
    refine r_callN [] cf58 rfl rfl (ok_gleeref2_TonesOf a1 hy12) rfl rfl .nil rfl (fun s13 => ?_)
    refine lp rfl (p_mv rfl) ?_
    obtain ⟨y14, hy14, hm⟩ := bindS hm
    refine r_call [] cf70 rfl rfl (ok_slices_Contains_int_int s13 y12 x6 hy14) rfl rfl (.cons (.ro 0 rfl) .nil) (fun _ => rfl) rfl (fun _ => ?_)
    refine lj_seq ?_
    refine cj_if (b := y14) rfl (fun hb => ?_) (fun hb => ?_)
    · have hm := ifB_t hb hm
      refine cj_reg ?_
      refine lp rfl (p_mv rfl) ?_
      refine lp rfl (p_add rfl rfl) ?_
      refine lp rfl (p_as rfl) ?_
      refine lj_nil ?_
      refine nj_blk ?_
      exact cnk10 _ _ (w64 (u8 + 1)) () (hJk10 _ (Option.some.inj hm).symm) ⟨rfl, rfl, rfl, rfl, rfl, rfl, trivial⟩ (fun _ h => h.picks [1, 1] rfl)
    · have hm := ifB_f hb hm
      refine cj_skip ?_
      refine nj_blk ?_
      exact cnk10 _ _ u8 () (hJk10 _ (Option.some.inj hm).symm) ⟨rfl, rfl, rfl, rfl, rfl, rfl, trivial⟩ (fun _ h => h.picks [1, 1] rfl)
theorem ok_gleeref2_ShiftedChord (a0 : TChord) (a1 : Int) {r : TChord} (hm : m_gleeref2_ShiftedChord a0 a1 = some r) :
    Ctr Tryd.prog 24 [.agg (R28.enc a0).toArray, .int .i64 a1].toArray ([] : List Ent) [] (X := Unit) (fun _ => .agg (R28.enc r).toArray) (fun _ => []) := by
  unfold m_gleeref2_ShiftedChord at hm
  refine ctr_mk (vs := [(0, .agg (R28.enc a0).toArray), (1, .int .i64 a1)]) Tryd.func24 rfl Tryd.ntmps24 rfl ⟨rfl, rfl, trivial⟩ (fun w0 A => ?_)
  refine cj_seq ?_
  refine cj_reg ?_
  refine r_bx (cs := [.int .i64 a0.Root, .int .i64 a0.Kind, .int .i64 a0.Turn]) rfl rfl rfl (fun b1 => ?_)
  refine r_al ty28 rfl (fun b2 => ?_)
  refine lj_seq ?_
  refine cj_seq ?_
  refine cj_reg ?_
  refine lp rfl (p_fab fl28_0 rfl) ?_
  refine lp rfl (p_lbs ty3 rfl (j := 1) rfl rfl) ?_
  refine lp rfl (p_mv rfl) ?_
  refine lp rfl (p_add rfl rfl) ?_
  refine lp rfl (p_rem rfl rfl (by decide)) ?_
  refine lp rfl (p_add rfl rfl) ?_
  refine lp rfl (p_rem rfl rfl (by decide)) ?_
  refine lp rfl (p_fab fl28_0 rfl) ?_
  refine r_sb (vs := [.int .i64 ((w64 (((w64 (a0.Root + a1)).tmod 12) + 12)).tmod 12)]) (j := 1) ty3 rfl rfl rfl rfl rfl rfl rfl ?_
  refine lj_seq ?_
  refine cj_seq ?_
  refine cj_reg ?_
  refine lp rfl (p_lbw ty28 rfl (j := 1) rfl rfl) ?_
  refine r_sb (vs := [.int .i64 ((w64 (((w64 (a0.Root + a1)).tmod 12) + 12)).tmod 12), .int .i64 a0.Kind, .int .i64 a0.Turn]) (j := 0) ty28 rfl rfl rfl rfl rfl rfl rfl ?_
  refine lj_seq ?_
  obtain rfl := Option.some.inj hm
  exact cj_rt () [] Tryd.results24 (.agg (k := 0) ty28 rfl rfl rfl .nil) rfl rfl
theorem ok_gleeref2_KeysOf_1_1 (a0 : Int) (b1_ : Nat) (s1_0_ : SV) (a1_0 : (List Int)) {r : Bool} (hm : m_gleeref2_KeysOf_1_1 a0 a1_0 = some r) :
    Ctr Tryd.prog 84 [.int .i64 a0, .pointer (some ⟨b1_, 0, none⟩)].toArray ([] : List Ent) [BoxS b1_ 22 [s1_0_.v], RdS R3 (SV.v s1_0_) a1_0] (X := Unit) (fun _ => .bool r) (fun _ => []) := by
  unfold m_gleeref2_KeysOf_1_1 at hm
  refine ctr_mk (vs := [(0, .int .i64 a0), (1, .pointer (some ⟨b1_, 0, none⟩))]) Tryd.func84 rfl Tryd.ntmps84 rfl ⟨rfl, rfl, trivial⟩ (fun w0 A => ?_)
  refine cj_seq ?_
  refine cj_reg ?_
  refine lp rfl (p_as rfl) ?_
  refine lj_seq ?_
  refine cj_seq ?_
  refine cj_reg ?_
  refine lp rfl (p_rbs ty22 rfl (.ro 0 rfl) rfl) ?_
  refine lp rfl (p_mv rfl) ?_
  obtain ⟨y1, hy1, hm⟩ := bindS hm
  refine r_call [] cf70 rfl rfl (ok_slices_Contains_int_int s1_0_ a1_0 a0 hy1) rfl rfl (.cons (.ro 1 rfl) .nil) (fun _ => rfl) rfl (fun _ => ?_)
  refine lp rfl (p_not rfl) ?_
  refine lp rfl (p_as rfl) ?_
  refine lj_seq ?_
  obtain rfl := Option.some.inj hm
  exact cj_rt () [] Tryd.results84 (.tmp rfl .nil) rfl rfl
theorem ok_slices_IndexFunc_int_int__gleeref2_KeysOf_1_1 (s0_ : SV) (a0 : (List Int)) (b1_c0_ : Nat) (s1_c0_0_ : SV) (a1_c0_0 : (List Int)) {r : Int} (hm : m_slices_IndexFunc_int_int__gleeref2_KeysOf_1_1 a0 a1_c0_0 = some r) :
    Ctr Tryd.prog 125 [s0_.v, .func (.func 84) #[] [.pointer (some ⟨b1_c0_, 0, none⟩)].toArray].toArray ([] : List Ent) [RdS R3 (SV.v s0_) a0, BoxS b1_c0_ 22 [s1_c0_0_.v], RdS R3 (SV.v s1_c0_0_) a1_c0_0] (X := Unit) (fun _ => .int .i64 r) (fun _ => []) := by
  unfold m_slices_IndexFunc_int_int__gleeref2_KeysOf_1_1 at hm
  refine ctr_mk (vs := [(0, s0_.v), (1, .func (.func 84) #[] [.pointer (some ⟨b1_c0_, 0, none⟩)].toArray)]) Tryd.func125 rfl Tryd.ntmps125 rfl ⟨rfl, rfl, trivial⟩ (fun w0 A => ?_)
  refine cj_seq ?_
  refine cj_reg ?_
  refine lp rfl (p_as rfl) ?_
  refine lj_seq ?_
  refine cj_seq ?_
  refine cj_seq ?_
  refine cj_reg ?_
  refine lp rfl (p_mv rfl) ?_
  refine lp rfl (p_len Tryd.underlying22 rfl (.ro 0 rfl)) ?_
  refine lp rfl (p_mv rfl) ?_
  refine lj_seq ?_
  obtain ⟨f7, hf7, hm⟩ := bindS hm
  refine cj_range (γ := Unit) (m := (a0.length : Int)) hf7 () (fun u4 g5 => [(0, s0_.v), (1, .func (.func 84) #[] [.pointer (some ⟨b1_c0_, 0, none⟩)].toArray), (4, .int .i64 0)]) (fun u4 g5 => Sat w0 (keys ([] : List Ent)) A [.ro (RdS R3 (SV.v s0_) a0), .ro (BoxS b1_c0_ 22 [s1_c0_0_.v]), .ro (RdS R3 (SV.v s1_c0_0_) a1_c0_0)]) ⟨rfl, rfl, rfl, rfl, rfl, trivial⟩ (fun _ h => h.picks [0, 0, 0] rfl) (nat_lt _) (fun _ h => (FactAt.get (.ro 0 rfl) h).1) (fun _ _ => ⟨rfl, rfl, rfl, rfl⟩) ⟨rfl, rfl, rfl, rfl, rfl⟩ rfl rfl rfl (fun u4 g5 e => ?_) (fun aftk6 i1 x2 u4 g5 k6 hx3 hs J hJk6 hBk6 hX I cnk6 => ?_)
  · have hm := Flow.fin_b e hm
    refine nj_seq ?_
    refine cj_seq ?_
    refine cj_reg ?_
    refine lp rfl (p_as rfl) ?_
    refine lj_seq ?_
    obtain rfl := Option.some.inj hm
    exact cj_rt () [] Tryd.results125 (.tmp rfl .nil) rfl rfl
  · have hRk6 : ∀ t, k6 = .ret t → some t = some r := fun t e => by rw [hX t e] at hm; exact hm
    have hm := hs
    refine cj_seq ?_
    refine cj_reg ?_
    refine lp rfl (p_mv rfl) ?_
    refine lp rfl (p_as rfl) ?_
    refine lj_seq ?_
    refine cj_seq ?_
    refine cj_reg ?_
    refine lp rfl (p_mv rfl) ?_
    refine lp rfl (p_mv rfl) ?_
    refine lp rfl (p_mv rfl) ?_
    refine lp rfl (p_idx Tryd.underlying22 ty3 rfl rfl (.ro 0 rfl) (getI_nat.trans hx3)) ?_
    refine lp rfl (p_lde (o := 0) ty3 rfl rfl (.ro 0 rfl) hx3 rfl) ?_
    obtain ⟨y8, hy8, hm⟩ := bindS hm
    refine r_call [] cf84 rfl rfl (ok_gleeref2_KeysOf_1_1 x2 b1_c0_ s1_c0_0_ a1_c0_0 hy8) rfl rfl (.cons (.ro 1 rfl) (.cons (.ro 2 rfl) .nil)) (fun _ => rfl) rfl (fun _ => ?_)
    refine lj_seq ?_
    refine cj_if (b := y8) rfl (fun hb => ?_) (fun hb => ?_)
    · have hm := ifB_t hb hm
      refine cj_seq ?_
      refine cj_reg ?_
      refine lp rfl (p_mv rfl) ?_
      refine lp rfl (p_as rfl) ?_
      refine lj_seq ?_
      have hm := hRk6 _ (Option.some.inj hm).symm
      obtain rfl := Option.some.inj hm
      exact cj_rt () [] Tryd.results125 (.tmp rfl .nil) rfl rfl
    · have hm := ifB_f hb hm
      refine cj_skip ?_
      refine nj_blk ?_
      exact cnk6 _ _ () () (hJk6 _ (Option.some.inj hm).symm) ⟨rfl, rfl, rfl, rfl, rfl, trivial⟩ (fun _ h => h.picks [0, 0, 0] rfl)
theorem ok_slices_ContainsFunc_int_int__gleeref2_KeysOf_1_1 (s0_ : SV) (a0 : (List Int)) (b1_c0_ : Nat) (s1_c0_0_ : SV) (a1_c0_0 : (List Int)) {r : Bool} (hm : m_slices_ContainsFunc_int_int__gleeref2_KeysOf_1_1 a0 a1_c0_0 = some r) :
    Ctr Tryd.prog 76 [s0_.v, .func (.func 84) #[] [.pointer (some ⟨b1_c0_, 0, none⟩)].toArray].toArray ([] : List Ent) [RdS R3 (SV.v s0_) a0, BoxS b1_c0_ 22 [s1_c0_0_.v], RdS R3 (SV.v s1_c0_0_) a1_c0_0] (X := Unit) (fun _ => .bool r) (fun _ => []) := by
  unfold m_slices_ContainsFunc_int_int__gleeref2_KeysOf_1_1 at hm
  refine ctr_mk (vs := [(0, s0_.v), (1, .func (.func 84) #[] [.pointer (some ⟨b1_c0_, 0, none⟩)].toArray)]) Tryd.func76 rfl Tryd.ntmps76 rfl ⟨rfl, rfl, trivial⟩ (fun w0 A => ?_)
  refine cj_seq ?_
  refine cj_reg ?_
  refine lp rfl (p_as rfl) ?_
  refine lj_seq ?_
  refine cj_seq ?_
  refine cj_reg ?_
  refine lp rfl (p_mv rfl) ?_
  refine lp rfl (p_mv rfl) ?_
  obtain ⟨y1, hy1, hm⟩ := bindS hm
  refine r_call [] cf125 rfl rfl (ok_slices_IndexFunc_int_int__gleeref2_KeysOf_1_1 s0_ a0 b1_c0_ s1_c0_0_ a1_c0_0 hy1) rfl rfl (.cons (.ro 0 rfl) (.cons (.ro 1 rfl) (.cons (.ro 2 rfl) .nil))) (fun _ => rfl) rfl (fun _ => ?_)
  refine lp rfl (p_geq rfl rfl) ?_
  refine lp rfl (p_as rfl) ?_
  refine lj_seq ?_
  obtain rfl := Option.some.inj hm
  exact cj_rt () [] Tryd.results76 (.tmp rfl .nil) rfl rfl
theorem ok_gleeref2_KeysOf_1 (a0 : TChord) (b1_ : Nat) (s1_0_ : SV) (a1_0 : (List Int)) {r : Bool} (hm : m_gleeref2_KeysOf_1 a0 a1_0 = some r) :
    Ctr Tryd.prog 83 [.agg (R28.enc a0).toArray, .pointer (some ⟨b1_, 0, none⟩)].toArray ([] : List Ent) [BoxS b1_ 22 [s1_0_.v], RdS R3 (SV.v s1_0_) a1_0] (X := Unit) (fun _ => .bool r) (fun _ => []) := by
  unfold m_gleeref2_KeysOf_1 at hm
  refine ctr_mk (vs := [(0, .agg (R28.enc a0).toArray), (1, .pointer (some ⟨b1_, 0, none⟩))]) Tryd.func83 rfl Tryd.ntmps83 rfl ⟨rfl, rfl, trivial⟩ (fun w0 A => ?_)
  refine cj_seq ?_
  refine cj_reg ?_
  refine r_bx (cs := [.int .i64 a0.Root, .int .i64 a0.Kind, .int .i64 a0.Turn]) rfl rfl rfl (fun b1 => ?_)
  refine lp rfl (p_as rfl) ?_
  refine lj_seq ?_
  refine cj_seq ?_
  refine cj_reg ?_
  refine lp rfl (p_lbw ty28 rfl (j := 0) rfl rfl) ?_
  obtain ⟨y2, hy2, hm⟩ := bindS hm
  refine r_callN [] cf58 rfl rfl (ok_gleeref2_TonesOf a0 hy2) rfl rfl .nil rfl (fun s3 => ?_)
  refine lp rfl (p_fn (cv := [.pointer (some ⟨b1_, 0, none⟩)]) rfl) ?_
  obtain ⟨y4, hy4, hm⟩ := bindS hm
  refine r_call [] cf76 rfl rfl (ok_slices_ContainsFunc_int_int__gleeref2_KeysOf_1_1 s3 y2 b1_ s1_0_ a1_0 hy4) rfl rfl (.cons (.ro 0 rfl) (.cons (.ro 2 rfl) (.cons (.ro 3 rfl) .nil))) (fun _ => rfl) rfl (fun _ => ?_)
  refine lp rfl (p_as rfl) ?_
  refine lj_seq ?_
  obtain rfl := Option.some.inj hm
  exact cj_rt () [] Tryd.results83 (.tmp rfl .nil) rfl rfl
theorem ok_slices_IndexFunc_api_Chord_api_Chord__gleeref2_KeysOf_1 (s0_ : SV) (a0 : (List TChord)) (b1_c0_ : Nat) (s1_c0_0_ : SV) (a1_c0_0 : (List Int)) {r : Int} (hm : m_slices_IndexFunc_api_Chord_api_Chord__gleeref2_KeysOf_1 a0 a1_c0_0 = some r) :
    Ctr Tryd.prog 124 [s0_.v, .func (.func 83) #[] [.pointer (some ⟨b1_c0_, 0, none⟩)].toArray].toArray ([] : List Ent) [RdS R28 (SV.v s0_) a0, BoxS b1_c0_ 22 [s1_c0_0_.v], RdS R3 (SV.v s1_c0_0_) a1_c0_0] (X := Unit) (fun _ => .int .i64 r) (fun _ => []) := by
  unfold m_slices_IndexFunc_api_Chord_api_Chord__gleeref2_KeysOf_1 at hm
  refine ctr_mk (vs := [(0, s0_.v), (1, .func (.func 83) #[] [.pointer (some ⟨b1_c0_, 0, none⟩)].toArray)]) Tryd.func124 rfl Tryd.ntmps124 rfl ⟨rfl, rfl, trivial⟩ (fun w0 A => ?_)
  refine cj_seq ?_
  refine cj_reg ?_
  refine lp rfl (p_as rfl) ?_
  refine lj_seq ?_
  refine cj_seq ?_
  refine cj_seq ?_
  refine cj_reg ?_
  refine lp rfl (p_mv rfl) ?_
  refine lp rfl (p_len Tryd.underlying31 rfl (.ro 0 rfl)) ?_
  refine lp rfl (p_mv rfl) ?_
  refine lj_seq ?_
  obtain ⟨f7, hf7, hm⟩ := bindS hm
  refine cj_range (γ := Unit) (m := (a0.length : Int)) hf7 () (fun u4 g5 => [(0, s0_.v), (1, .func (.func 83) #[] [.pointer (some ⟨b1_c0_, 0, none⟩)].toArray), (4, .int .i64 0)]) (fun u4 g5 => Sat w0 (keys ([] : List Ent)) A [.ro (RdS R28 (SV.v s0_) a0), .ro (BoxS b1_c0_ 22 [s1_c0_0_.v]), .ro (RdS R3 (SV.v s1_c0_0_) a1_c0_0)]) ⟨rfl, rfl, rfl, rfl, rfl, trivial⟩ (fun _ h => h.picks [0, 0, 0] rfl) (nat_lt _) (fun _ h => (FactAt.get (.ro 0 rfl) h).1) (fun _ _ => ⟨rfl, rfl, rfl, rfl⟩) ⟨rfl, rfl, rfl, rfl, rfl⟩ rfl rfl rfl (fun u4 g5 e => ?_) (fun aftk6 i1 x2 u4 g5 k6 hx3 hs J hJk6 hBk6 hX I cnk6 => ?_)
  · have hm := Flow.fin_b e hm
    refine nj_seq ?_
    refine cj_seq ?_
    refine cj_reg ?_
    refine lp rfl (p_as rfl) ?_
    refine lj_seq ?_
    obtain rfl := Option.some.inj hm
    exact cj_rt () [] Tryd.results124 (.tmp rfl .nil) rfl rfl
  · have hRk6 : ∀ t, k6 = .ret t → some t = some r := fun t e => by rw [hX t e] at hm; exact hm
    have hm := hs
    refine cj_seq ?_
    refine cj_reg ?_
    refine lp rfl (p_mv rfl) ?_
    refine lp rfl (p_as rfl) ?_
    refine lj_seq ?_
    refine cj_seq ?_
    refine cj_reg ?_
    refine lp rfl (p_mv rfl) ?_
    refine lp rfl (p_mv rfl) ?_
    refine lp rfl (p_mv rfl) ?_
    refine lp rfl (p_idx Tryd.underlying31 ty28 rfl rfl (.ro 0 rfl) (getI_nat.trans hx3)) ?_
    refine lp rfl (p_lea ty28 rfl (.ro 0 rfl) hx3) ?_
    obtain ⟨y8, hy8, hm⟩ := bindS hm
    refine r_call [] cf83 rfl rfl (ok_gleeref2_KeysOf_1 x2 b1_c0_ s1_c0_0_ a1_c0_0 hy8) rfl rfl (.cons (.ro 1 rfl) (.cons (.ro 2 rfl) .nil)) (fun _ => rfl) rfl (fun _ => ?_)
    refine lj_seq ?_
    refine cj_if (b := y8) rfl (fun hb => ?_) (fun hb => ?_)
    · have hm := ifB_t hb hm
      refine cj_seq ?_
      refine cj_reg ?_
      refine lp rfl (p_mv rfl) ?_
      refine lp rfl (p_as rfl) ?_
      refine lj_seq ?_
      have hm := hRk6 _ (Option.some.inj hm).symm
      obtain rfl := Option.some.inj hm
      exact cj_rt () [] Tryd.results124 (.tmp rfl .nil) rfl rfl
    · have hm := ifB_f hb hm
      refine cj_skip ?_
      refine nj_blk ?_
      exact cnk6 _ _ () () (hJk6 _ (Option.some.inj hm).symm) ⟨rfl, rfl, rfl, rfl, rfl, trivial⟩ (fun _ h => h.picks [0, 0, 0] rfl)
theorem ok_slices_ContainsFunc_api_Chord_api_Chord__gleeref2_KeysOf_1 (s0_ : SV) (a0 : (List TChord)) (b1_c0_ : Nat) (s1_c0_0_ : SV) (a1_c0_0 : (List Int)) {r : Bool} (hm : m_slices_ContainsFunc_api_Chord_api_Chord__gleeref2_KeysOf_1 a0 a1_c0_0 = some r) :
    Ctr Tryd.prog 74 [s0_.v, .func (.func 83) #[] [.pointer (some ⟨b1_c0_, 0, none⟩)].toArray].toArray ([] : List Ent) [RdS R28 (SV.v s0_) a0, BoxS b1_c0_ 22 [s1_c0_0_.v], RdS R3 (SV.v s1_c0_0_) a1_c0_0] (X := Unit) (fun _ => .bool r) (fun _ => []) := by
  unfold m_slices_ContainsFunc_api_Chord_api_Chord__gleeref2_KeysOf_1 at hm
  refine ctr_mk (vs := [(0, s0_.v), (1, .func (.func 83) #[] [.pointer (some ⟨b1_c0_, 0, none⟩)].toArray)]) Tryd.func74 rfl Tryd.ntmps74 rfl ⟨rfl, rfl, trivial⟩ (fun w0 A => ?_)
  refine cj_seq ?_
  refine cj_reg ?_
  refine lp rfl (p_as rfl) ?_
  refine lj_seq ?_
  refine cj_seq ?_
  refine cj_reg ?_
  refine lp rfl (p_mv rfl) ?_
  refine lp rfl (p_mv rfl) ?_
  obtain ⟨y1, hy1, hm⟩ := bindS hm
  refine r_call [] cf124 rfl rfl (ok_slices_IndexFunc_api_Chord_api_Chord__gleeref2_KeysOf_1 s0_ a0 b1_c0_ s1_c0_0_ a1_c0_0 hy1) rfl rfl (.cons (.ro 0 rfl) (.cons (.ro 1 rfl) (.cons (.ro 2 rfl) .nil))) (fun _ => rfl) rfl (fun _ => ?_)
  refine lp rfl (p_geq rfl rfl) ?_
  refine lp rfl (p_as rfl) ?_
  refine lj_seq ?_
  obtain rfl := Option.some.inj hm
  exact cj_rt () [] Tryd.results74 (.tmp rfl .nil) rfl rfl
theorem ok_gleeref2_KeysOf (s0_ : SV) (a0 : (List TChord)) {r : (List Int)} (hm : m_gleeref2_KeysOf a0 = some r) :
    Ctr Tryd.prog 25 [s0_.v].toArray ([] : List Ent) [RdS R28 (SV.v s0_) a0] (X := SV) (fun s => s.v) (fun s => [.row R3 (SV.v s) r]) := by
  unfold m_gleeref2_KeysOf at hm
  refine ctr_mk (vs := [(0, s0_.v)]) Tryd.func25 rfl Tryd.ntmps25 rfl ⟨rfl, trivial⟩ (fun w0 A => ?_)
  refine cj_seq ?_
  refine cj_reg ?_
  refine lp rfl (p_as rfl) ?_
  refine lj_seq ?_
  refine cj_seq ?_
  refine cj_reg ?_
  refine lp rfl (p_as rfl) ?_
  refine lj_seq ?_
  refine cj_seq ?_
  refine cj_seq ?_
  refine cj_reg ?_
  refine lp rfl (p_mv rfl) ?_
  refine lj_seq ?_
  refine cj_nil R3 ?_
  obtain ⟨L30, hL30, hm⟩ := bindS hm
  obtain ⟨f8, hf8, hm⟩ := bindS hm
  refine cj_rangeC (γ := SV) (m := 12) hf8 nilS (fun u5 g6 => [(0, s0_.v), (2, .slice none 0 0), (3, g6.v)]) (fun u5 g6 => Sat w0 (keys ([] : List Ent)) A [.ro (RdS R28 (SV.v s0_) a0), .row R3 (SV.v g6) u5]) ⟨rfl, rfl, rfl, rfl, trivial⟩ (fun _ h => h.picks [1, 0] rfl) (rangeI_spec hL30).1 (fun _ _ => (rangeI_spec hL30).2) (fun _ _ => ⟨rfl, rfl, rfl⟩) ⟨rfl, rfl⟩ rfl rfl rfl (fun u5 g6 e => ?_) (fun aftk7 i1 x2 u5 g6 k7 hx3 hs J hJk7 hBk7 hX I cnk7 => ?_)
  · have hm := Flow.fin_b e hm
    refine nj_seq ?_
    refine cj_seq ?_
    refine cj_reg ?_
    refine lp rfl (p_mv rfl) ?_
    refine lp rfl (p_as rfl) ?_
    refine lj_seq ?_
    obtain rfl := Option.some.inj hm
    exact cj_rt g6 [1] Tryd.results25 (.tmp rfl .nil) rfl rfl
  · have hRk7 : ∀ t, k7 = .ret t → some t = some r := fun t e => by rw [hX t e] at hm; exact hm
    have hm := hs
    refine cj_seq ?_
    refine cj_reg ?_
    refine lp rfl (p_mv rfl) ?_
    refine lp rfl (p_as rfl) ?_
    refine lj_seq ?_
    refine cj_seq ?_
    refine cj_reg ?_
    refine r_bs R3 ([] : List Int) rfl rfl rfl (fun _ => by kernel_rfl) rfl (fun s10 => ?_)
    refine r_al ty22 rfl (fun b11 => ?_)
    refine r_sb (vs := [s10.v]) (j := 0) ty22 rfl rfl rfl rfl rfl rfl rfl ?_
    refine lj_seq ?_
    refine cj_seq ?_
    refine cj_seq ?_
    refine cj_reg ?_
    refine r_bs R3 [0, 2, 4, 5, 7, 9, 11] rfl rfl rfl (fun _ => by kernel_rfl) rfl (fun s12 => ?_)
    refine lp rfl (p_len Tryd.underlying22 rfl (.row 0 rfl)) ?_
    refine lp rfl (p_mv rfl) ?_
    refine lj_seq ?_
    obtain ⟨f19, hf19, hm⟩ := bindS hm
    refine cj_range (γ := SV) (m := ([0, 2, 4, 5, 7, 9, 11].length : Int)) hf19 s10 (fun u16 g17 => [(0, s0_.v), (2, .slice none 0 0), (3, g6.v), (4, .int .i64 (i1 : Int)), (5, .pointer (some ⟨b11, 0, none⟩)), (8, .int .i64 (i1 : Int)), (12, s12.v)]) (fun u16 g17 => Sat w0 (keys ([] : List Ent)) A [.row R3 (SV.v s12) [0, 2, 4, 5, 7, 9, 11], .box b11 22 [g17.v], .ro (RdS R28 (SV.v s0_) a0), .row R3 (SV.v g6) u5, .row R3 (SV.v g17) u16]) ⟨rfl, rfl, rfl, rfl, rfl, rfl, rfl, rfl, rfl, trivial⟩ (fun _ h => h.picks [0, 0, 1, 1, 0] rfl) (nat_lt _) (fun _ h => (FactAt.get (.row 0 rfl) h).1) (fun _ _ => ⟨rfl, rfl, rfl, rfl⟩) ⟨rfl, rfl, rfl, rfl, rfl⟩ rfl rfl rfl (fun u16 g17 e => ?_) (fun aftk18 i13 x14 u16 g17 k18 hx15 hs J hJk18 hBk18 hX I cnk18 => ?_)
    · have hm := Flow.fin_b e hm
      refine nj_seq ?_
      refine cj_seq ?_
      refine cj_reg ?_
      refine lp rfl (p_mv rfl) ?_
      refine lp rfl (p_fn (cv := [.pointer (some ⟨b11, 0, none⟩)]) rfl) ?_
      obtain ⟨y25, hy25, hm⟩ := bindS hm
      refine r_call [] cf74 rfl rfl (ok_slices_ContainsFunc_api_Chord_api_Chord__gleeref2_KeysOf_1 s0_ a0 b11 g17 u16 hy25) rfl rfl (.cons (.ro 2 rfl) (.cons (.imp (.box 1 rfl) (fun _ h => h)) (.cons (.row 4 rfl) .nil))) (fun _ => rfl) rfl (fun _ => ?_)
      refine lp rfl (p_not rfl) ?_
      refine lj_seq ?_
      refine cj_if (b := !y25) rfl (fun hb => ?_) (fun hb => ?_)
      · have hm := ifB_t hb hm
        refine cj_reg ?_
        refine lp rfl (p_mv rfl) ?_
        refine lp rfl (p_mv rfl) ?_
        refine r_bs R3 [(i1 : Int)] rfl rfl rfl (fun _ => by kernel_rfl) rfl (fun s26 => ?_)
        obtain ⟨q27, hq27, hm⟩ := bindS hm
        refine r_app (k := 4) Tryd.underlying22 ty3 rfl rfl rfl rfl (.row 0 rfl) hq27 rfl (fun s28 => ?_)
        refine lp rfl (p_as rfl) ?_
        refine lj_nil ?_
        refine nj_blk ?_
        exact cnk7 _ _ q27 s28 (hJk7 _ (Option.some.inj hm).symm) ⟨rfl, rfl, rfl, rfl, trivial⟩ (fun _ h => h.picks [3, 3] rfl)
      · have hm := ifB_f hb hm
        refine cj_skip ?_
        refine nj_blk ?_
        exact cnk7 _ _ u5 g6 (hJk7 _ (Option.some.inj hm).symm) ⟨rfl, rfl, rfl, rfl, trivial⟩ (fun _ h => h.picks [2, 2] rfl)
    · have hRk18 : ∀ t, k18 = .ret t → some t = some k7 := fun t e => by rw [hX t e] at hm; exact hm
      have hm := hs
      refine cj_seq ?_
      refine cj_reg ?_
      refine lp rfl (p_idx Tryd.underlying22 ty3 rfl rfl (.row 0 rfl) (getI_nat.trans hx15)) ?_
      refine lp rfl (p_lde (o := 0) ty3 rfl rfl (.row 0 rfl) hx15 rfl) ?_
      refine lp rfl (p_as rfl) ?_
      refine lj_seq ?_
      refine cj_reg ?_
      refine lp rfl (p_lbs ty22 rfl (j := 1) rfl rfl) ?_
      refine lp rfl (p_mv rfl) ?_
      refine lp rfl (p_mv rfl) ?_
      refine lp rfl (p_add rfl rfl) ?_
      refine lp rfl (p_rem rfl rfl (by decide)) ?_
      refine r_bs R3 [(w64 ((i1 : Int) + x14)).tmod 12] rfl rfl rfl (fun _ => by kernel_rfl) rfl (fun s21 => ?_)
      obtain ⟨q22, hq22, hm⟩ := bindS hm
      refine r_app (k := 5) Tryd.underlying22 ty3 rfl rfl rfl rfl (.row 0 rfl) hq22 rfl (fun s23 => ?_)
      refine r_sb (vs := [s23.v]) (j := 2) ty22 rfl rfl rfl rfl rfl rfl rfl ?_
      refine lj_nil ?_
      refine nj_blk ?_
      exact cnk18 _ _ q22 s23 (hJk18 _ (Option.some.inj hm).symm) ⟨rfl, rfl, rfl, rfl, rfl, rfl, rfl, rfl, rfl, trivial⟩ (fun _ h => h.picks [1, 1, 1, 1, 1] rfl)
theorem ok_slices_Equal_api_Chord_api_Chord (s0_ : SV) (a0 : (List TChord)) (s1_ : SV) (a1 : (List TChord)) {r : Bool} (hm : m_slices_Equal_api_Chord_api_Chord a0 a1 = some r) :
    Ctr Tryd.prog 26 [s0_.v, s1_.v].toArray ([] : List Ent) [RdS R28 (SV.v s0_) a0, RdS R28 (SV.v s1_) a1] (X := Unit) (fun _ => .bool r) (fun _ => []) := by
  unfold m_slices_Equal_api_Chord_api_Chord at hm
  refine ctr_mk (vs := [(0, s0_.v), (1, s1_.v)]) Tryd.func26 rfl Tryd.ntmps26 rfl ⟨rfl, rfl, trivial⟩ (fun w0 A => ?_)
  refine cj_seq ?_
  refine cj_reg ?_
  refine lp rfl (p_as rfl) ?_
  refine lj_seq ?_
  refine cj_seq ?_
  refine cj_seq ?_
  refine cj_reg ?_
  refine lp rfl (p_mv rfl) ?_
  refine lp rfl (p_len Tryd.underlying31 rfl (.ro 0 rfl)) ?_
  refine lp rfl (p_mv rfl) ?_
  refine lp rfl (p_len Tryd.underlying31 rfl (.ro 1 rfl)) ?_
  refine lp rfl (p_neq rfl rfl) ?_
  refine lj_seq ?_
  refine cj_if (b := (a0.length : Int) != (a1.length : Int)) rfl (fun hb => ?_) (fun hb => ?_)
  · have hm := ifB_t hb hm
    refine cj_seq ?_
    refine cj_reg ?_
    refine lp rfl (p_as rfl) ?_
    refine lj_seq ?_
    obtain rfl := Option.some.inj hm
    exact cj_rt () [] Tryd.results26 (.tmp rfl .nil) rfl rfl
  · have hm := ifB_f hb hm
    refine cj_skip ?_
    refine nj_seq ?_
    refine cj_seq ?_
    refine cj_seq ?_
    refine cj_reg ?_
    refine lp rfl (p_mv rfl) ?_
    refine lp rfl (p_len Tryd.underlying31 rfl (.ro 0 rfl)) ?_
    refine lp rfl (p_mv rfl) ?_
    refine lj_seq ?_
    obtain ⟨f7, hf7, hm⟩ := bindS hm
    refine cj_range (γ := Unit) (m := (a0.length : Int)) hf7 () (fun u4 g5 => [(0, s0_.v), (1, s1_.v), (4, .bool false)]) (fun u4 g5 => Sat w0 (keys ([] : List Ent)) A [.ro (RdS R28 (SV.v s0_) a0), .ro (RdS R28 (SV.v s1_) a1)]) ⟨rfl, rfl, rfl, rfl, rfl, trivial⟩ (fun _ h => h.picks [0, 0] rfl) (nat_lt _) (fun _ h => (FactAt.get (.ro 0 rfl) h).1) (fun _ _ => ⟨rfl, rfl, rfl, rfl⟩) ⟨rfl, rfl, rfl, rfl, rfl⟩ rfl rfl rfl (fun u4 g5 e => ?_) (fun aftk6 i1 x2 u4 g5 k6 hx3 hs J hJk6 hBk6 hX I cnk6 => ?_)
    · have hm := Flow.fin_b e hm
      refine nj_seq ?_
      refine cj_seq ?_
      refine cj_reg ?_
      refine lp rfl (p_as rfl) ?_
      refine lj_seq ?_
      obtain rfl := Option.some.inj hm
      exact cj_rt () [] Tryd.results26 (.tmp rfl .nil) rfl rfl
    · have hRk6 : ∀ t, k6 = .ret t → some t = some r := fun t e => by rw [hX t e] at hm; exact hm
      have hm := hs
      refine cj_seq ?_
      refine cj_reg ?_
      refine lp rfl (p_mv rfl) ?_
      refine lp rfl (p_as rfl) ?_
      refine lj_seq ?_
      refine cj_seq ?_
      refine cj_quiet (by kernel_rfl) (by kernel_rfl) ?_
      refine q_p rfl (p_mv rfl) ?_
      refine q_p rfl (p_mv rfl) ?_
      refine q_p rfl (p_idx Tryd.underlying31 ty28 rfl rfl (.ro 0 rfl) (getI_nat.trans hx3)) ?_
      refine q_p rfl (p_lea ty28 rfl (.ro 0 rfl) hx3) ?_
      refine q_p rfl (p_mv rfl) ?_
      refine q_p rfl (p_mv rfl) ?_
      obtain ⟨e8, he8, hm⟩ := bindS hm
      refine q_p rfl (p_idx Tryd.underlying31 ty28 rfl rfl (.ro 1 rfl) he8) ?_
      refine q_p rfl (p_lea ty28 rfl (.ro 1 rfl) (getI_spec he8).2) ?_
      refine q_p rfl (p_nest (by kernel_rfl) rfl rfl (eqst28 x2 e8)) ?_
      refine q_nil ?_
      refine nj_seq ?_
      refine cj_if (b := !(decide (x2 = e8))) rfl (fun hb => ?_) (fun hb => ?_)
      · have hm := ifB_t hb hm
        refine cj_seq ?_
        refine cj_reg ?_
        refine lp rfl (p_as rfl) ?_
        refine lj_seq ?_
        have hm := hRk6 _ (Option.some.inj hm).symm
        obtain rfl := Option.some.inj hm
        exact cj_rt () [] Tryd.results26 (.tmp rfl .nil) rfl rfl
      · have hm := ifB_f hb hm
        refine cj_skip ?_
        refine nj_blk ?_
        exact cnk6 _ _ () () (hJk6 _ (Option.some.inj hm).symm) ⟨rfl, rfl, rfl, rfl, rfl, trivial⟩ (fun _ h => h.picks [0, 0] rfl)
theorem ok_chord_rootWords  {r : (List ByteArray)} (hm : m_chord_rootWords  = some r) :
    Ctr Tryd.prog 110 [].toArray ([] : List Ent) [] (X := SV) (fun s => s.v) (fun s => [.row R9 (SV.v s) r]) := by
  unfold m_chord_rootWords at hm
  refine ctr_mk (vs := []) Tryd.func110 rfl Tryd.ntmps110 rfl trivial (fun w0 A => ?_)
  refine cj_seq ?_
  refine cj_reg ?_
  refine lp rfl (p_as rfl) ?_
  refine lj_seq ?_
  refine cj_seq ?_
  refine cj_reg ?_
  refine r_bs R9 [(ByteArray.mk [99].toArray), (ByteArray.mk [99, 35].toArray), (ByteArray.mk [100].toArray), (ByteArray.mk [100, 35].toArray), (ByteArray.mk [101].toArray), (ByteArray.mk [102].toArray), (ByteArray.mk [102, 35].toArray), (ByteArray.mk [103].toArray), (ByteArray.mk [103, 35].toArray), (ByteArray.mk [97].toArray), (ByteArray.mk [97, 35].toArray), (ByteArray.mk [98].toArray)] rfl rfl rfl (fun _ => by kernel_rfl) rfl (fun s1 => ?_)
  refine lp rfl (p_as rfl) ?_
  refine lj_seq ?_
  obtain rfl := Option.some.inj hm
  exact cj_rt s1 [0] Tryd.results110 (.tmp rfl .nil) rfl rfl
theorem ok_chord_kindWords  {r : (List ByteArray)} (hm : m_chord_kindWords  = some r) :
    Ctr Tryd.prog 111 [].toArray ([] : List Ent) [] (X := SV) (fun s => s.v) (fun s => [.row R9 (SV.v s) r]) := by
  unfold m_chord_kindWords at hm
  refine ctr_mk (vs := []) Tryd.func111 rfl Tryd.ntmps111 rfl trivial (fun w0 A => ?_)
  refine cj_seq ?_
  refine cj_reg ?_
  refine lp rfl (p_as rfl) ?_
  refine lj_seq ?_
  refine cj_seq ?_
  refine cj_reg ?_
  refine r_bs R9 [ByteArray.empty, (ByteArray.mk [109, 97, 106].toArray), (ByteArray.mk [109, 105, 110].toArray), (ByteArray.mk [100, 105, 109].toArray), (ByteArray.mk [97, 117, 103].toArray), (ByteArray.mk [55].toArray), (ByteArray.mk [109, 97, 106, 55].toArray), (ByteArray.mk [109, 105, 110, 55].toArray)] rfl rfl rfl (fun _ => by kernel_rfl) rfl (fun s1 => ?_)
  refine lp rfl (p_as rfl) ?_
  refine lj_seq ?_
  obtain rfl := Option.some.inj hm
  exact cj_rt s1 [0] Tryd.results111 (.tmp rfl .nil) rfl rfl
theorem ok_chord_Name (a0 : TChord) {r : ByteArray × Int} (hm : m_chord_Name a0 = some r) :
    Ctr Tryd.prog 56 [.agg (R28.enc a0).toArray].toArray ([] : List Ent) [] (X := Unit) (fun _ => .tuple [.string r.1, .int .i64 r.2].toArray) (fun _ => []) := by
  unfold m_chord_Name at hm
  refine ctr_mk (vs := [(0, .agg (R28.enc a0).toArray)]) Tryd.func56 rfl Tryd.ntmps56 rfl ⟨rfl, trivial⟩ (fun w0 A => ?_)
  refine cj_seq ?_
  refine cj_reg ?_
  refine r_bx (cs := [.int .i64 a0.Root, .int .i64 a0.Kind, .int .i64 a0.Turn]) rfl rfl rfl (fun b1 => ?_)
  refine lp rfl (p_as rfl) ?_
  refine lp rfl (p_as rfl) ?_
  refine lj_seq ?_
  refine cj_seq ?_
  refine cj_seq ?_
  refine cj_reg ?_
  refine lp rfl (p_lbw ty28 rfl (j := 0) rfl rfl) ?_
  obtain ⟨y2, hy2, hm⟩ := bindS hm
  refine r_call [] cf61 rfl rfl (ok_chord_CheckChord a0 hy2) rfl rfl .nil (fun _ => rfl) rfl (fun _ => ?_)
  refine lp rfl (p_as rfl) ?_
  refine lj_seq ?_
  refine cj_seq ?_
  refine cj_reg ?_
  refine lp rfl (p_mv rfl) ?_
  refine lp rfl (p_neq rfl rfl) ?_
  refine lj_seq ?_
  refine cj_if (b := y2 != 0) rfl (fun hb => ?_) (fun hb => ?_)
  · have hm := ifB_t hb hm
    refine cj_seq ?_
    refine cj_reg ?_
    refine lp rfl (p_mv rfl) ?_
    refine lp rfl (p_as rfl) ?_
    refine lp rfl (p_as rfl) ?_
    refine lj_seq ?_
    obtain rfl := Option.some.inj hm
    exact cj_rt () [] Tryd.results56 (.tmp rfl (.tmp rfl .nil)) rfl rfl
  · have hm := ifB_f hb hm
    refine cj_skip ?_
    refine nj_seq ?_
    refine cj_seq ?_
    obtain ⟨k5, hk5, hm⟩ := bindS hm
    have hRk5 : ∀ t, k5 = .inr t → some t = some r := fun t e => by rw [e] at hm; exact hm
    refine cj_joinK (σ := ByteArray) (γ := Unit) (fun u3 => k5 = .inl u3) (fun u3 g4 => [(1, .pointer (some ⟨b1, 0, none⟩)), (2, .string ByteArray.empty), (3, .int .i64 0), (5, .string u3)]) (fun u3 g4 => Sat w0 (keys ([] : List Ent)) A [.box b1 28 [.int .i64 a0.Root, .int .i64 a0.Kind, .int .i64 a0.Turn]]) (fun u3 g4 hq => ?_) (fun J cnk5 => ?_)
    · have hm := Sum.fin_l hq hm
      refine cj_seq ?_
      refine cj_seq ?_
      refine cj_reg ?_
      refine lp rfl (p_fab fl28_2 rfl) ?_
      refine lp rfl (p_lbs ty3 rfl (j := 0) rfl rfl) ?_
      refine lp rfl (p_gtr rfl rfl) ?_
      refine lj_seq ?_
      refine cj_if (b := decide (a0.Turn > 0)) rfl (fun hb => ?_) (fun hb => ?_)
      · have hm := ifB_t hb hm
        refine cj_reg ?_
        refine lp rfl (p_mv rfl) ?_
        refine lp rfl (p_fab fl28_2 rfl) ?_
        refine lp rfl (p_lbs ty3 rfl (j := 0) rfl rfl) ?_
        obtain ⟨y18, hy18, hm⟩ := bindS hm
        refine r_call [] cf112 rfl rfl (ok_strconv_Itoa a0.Turn hy18) rfl rfl .nil (fun _ => rfl) rfl (fun _ => ?_)
        obtain ⟨c19, hc19, hm⟩ := bindS hm
        refine lp rfl (p_catM hc19 rfl rfl) ?_
        obtain ⟨c20, hc20, hm⟩ := bindS hm
        refine lp rfl (p_catM hc20 rfl rfl) ?_
        refine lp rfl (p_as rfl) ?_
        refine lj_seq ?_
        refine cj_seq ?_
        refine cj_reg ?_
        refine lp rfl (p_mv rfl) ?_
        refine lp rfl (p_as rfl) ?_
        refine lp rfl (p_as rfl) ?_
        refine lj_seq ?_
        obtain rfl := Option.some.inj hm
        exact cj_rt () [] Tryd.results56 (.tmp rfl (.tmp rfl .nil)) rfl rfl
      · have hm := ifB_f hb hm
        refine cj_skip ?_
        refine nj_seq ?_
        refine cj_seq ?_
        refine cj_reg ?_
        refine lp rfl (p_mv rfl) ?_
        refine lp rfl (p_as rfl) ?_
        refine lp rfl (p_as rfl) ?_
        refine lj_seq ?_
        obtain rfl := Option.some.inj hm
        exact cj_rt () [] Tryd.results56 (.tmp rfl (.tmp rfl .nil)) rfl rfl
    · have hm := hk5
      obtain ⟨y6, hy6, hm⟩ := bindS hm
      obtain ⟨e8, he8, hm⟩ := bindS hm
      obtain ⟨c9, hc9, hm⟩ := bindS hm
      obtain ⟨y10, hy10, hm⟩ := bindS hm
      obtain ⟨e12, he12, hm⟩ := bindS hm
      obtain ⟨c13, hc13, hm⟩ := bindS hm
      refine cj_anyT [1, 2, 5, 7, 8, 11, 12] [] (Sat w0 (keys ([] : List Ent)) A [.box b1 28 [.int .i64 a0.Root, .int .i64 a0.Kind, .int .i64 a0.Turn]]) (Sat w0 (keys ([] : List Ent)) A [.box b1 28 [.int .i64 a0.Root, .int .i64 a0.Kind, .int .i64 a0.Turn]]) (by kernel_rfl) ?_
      refine at_take2 1 rfl (by kernel_rfl) (by kernel_rfl) (by kernel_rfl) (fun _ h => h.picks [0] rfl) rfl rfl (p_fab fl28_0 rfl) (fun _ h => h.picks [0] rfl) ?_
      refine at_take2 2 rfl (by kernel_rfl) (by kernel_rfl) (by kernel_rfl) (fun _ h => h.picks [0] rfl) rfl rfl (p_lbs ty3 rfl (j := 0) rfl rfl) (fun _ h => h.picks [0] rfl) ?_
      refine at_take2 7 rfl (by kernel_rfl) (by kernel_rfl) (by kernel_rfl) (fun _ h => h.picks [0] rfl) rfl rfl (p_fab fl28_1 rfl) (fun _ h => h.picks [0] rfl) ?_
      refine at_take2 8 rfl (by kernel_rfl) (by kernel_rfl) (by kernel_rfl) (fun _ h => h.picks [0] rfl) rfl rfl (p_lbs ty3 rfl (j := 0) rfl rfl) (fun _ h => h.picks [0] rfl) ?_
      refine at_each (rs := [0]) (by kernel_rfl) (by decide) ?_
      refine (.cons rfl (fun I cnI => ?_) .nil)
      · refine r_call [] cf110 rfl rfl (ok_chord_rootWords  hy6) rfl rfl .nil (fun _ => rfl) rfl (fun s14 => ?_)
        refine lj_nil ?_
        refine cnI _ _ (sof1 rfl rfl (fun _ h => h.picks [1] rfl)) ?_
        refine at_each (rs := [3, 6]) (by kernel_rfl) (by decide) ?_
        refine (.cons rfl (fun I cnI => ?_) (.cons rfl (fun I cnI => ?_) .nil))
        · refine lp rfl (p_idx Tryd.underlying142 ty9 rfl rfl (.row 0 rfl) he8) ?_
          refine lj_nil ?_
          refine cnI _ _ (sof1 rfl rfl (fun _ h => h.picks [1] rfl)) ?_
          refine at_each (rs := [4, 6]) (by kernel_rfl) (by decide) ?_
          refine (.cons rfl (fun I cnI => ?_) (.cons rfl (fun I cnI => ?_) .nil))
          · refine lp rfl (p_lde (o := 0) ty9 rfl rfl (.row 0 rfl) (getI_spec he8).2 rfl) ?_
            refine lj_nil ?_
            refine cnI _ _ (sof1 rfl rfl (fun _ h => h.picks [1] rfl)) ?_
            refine at_take2 5 rfl (by kernel_rfl) (by kernel_rfl) (by kernel_rfl) (fun _ h => h.picks [0] rfl) rfl rfl (p_catM hc9 rfl rfl) (fun _ h => h.picks [1] rfl) ?_
            refine at_each (rs := [6]) (by kernel_rfl) (by decide) ?_
            refine (.cons rfl (fun I cnI => ?_) .nil)
            · refine r_call [] cf111 rfl rfl (ok_chord_kindWords  hy10) rfl rfl .nil (fun _ => rfl) rfl (fun s15 => ?_)
              refine lj_nil ?_
              refine cnI _ _ (sof1 rfl rfl (fun _ h => h.picks [2] rfl)) ?_
              refine at_each (rs := [9]) (by kernel_rfl) (by decide) ?_
              refine (.cons rfl (fun I cnI => ?_) .nil)
              · refine lp rfl (p_idx Tryd.underlying142 ty9 rfl rfl (.row 0 rfl) he12) ?_
                refine lj_nil ?_
                refine cnI _ _ (sof1 rfl rfl (fun _ h => h.picks [2] rfl)) ?_
                refine at_each (rs := [10]) (by kernel_rfl) (by decide) ?_
                refine (.cons rfl (fun I cnI => ?_) .nil)
                · refine lp rfl (p_lde (o := 0) ty9 rfl rfl (.row 0 rfl) (getI_spec he12).2 rfl) ?_
                  refine lj_nil ?_
                  refine cnI _ _ (sof1 rfl rfl (fun _ h => h.picks [2] rfl)) ?_
                  refine at_take2 11 rfl (by kernel_rfl) (by kernel_rfl) (by kernel_rfl) (fun _ h => h.picks [0] rfl) rfl rfl (p_catM hc13 rfl rfl) (fun _ h => h.picks [2] rfl) ?_
                  refine at_take2 12 rfl (by kernel_rfl) (by kernel_rfl) (by kernel_rfl) (fun _ h => h.picks [0] rfl) rfl rfl (p_as rfl) (fun _ h => h.picks [2] rfl) ?_
                  refine at_done (by kernel_rfl) ?_
                  exact cnk5 _ _ c13 () (Option.some.inj hm).symm ⟨rfl, rfl, rfl, rfl, trivial⟩ (fun _ h => h.picks [2] rfl)
          · refine r_call [] cf111 rfl rfl (ok_chord_kindWords  hy10) rfl rfl .nil (fun _ => rfl) rfl (fun s16 => ?_)
            refine lj_nil ?_
            refine cnI _ _ (sof1 rfl rfl (fun _ h => h.picks [2] rfl)) ?_
            refine at_each (rs := [4, 9]) (by kernel_rfl) (by decide) ?_
            refine (.cons rfl (fun I cnI => ?_) (.cons rfl (fun I cnI => ?_) .nil))
            · refine lp rfl (p_lde (o := 0) ty9 rfl rfl (.row 1 rfl) (getI_spec he8).2 rfl) ?_
              refine lj_nil ?_
              refine cnI _ _ (sof1 rfl rfl (fun _ h => h.picks [2] rfl)) ?_
              refine at_take2 5 rfl (by kernel_rfl) (by kernel_rfl) (by kernel_rfl) (fun _ h => h.picks [0] rfl) rfl rfl (p_catM hc9 rfl rfl) (fun _ h => h.picks [2] rfl) ?_
              refine at_each (rs := [9]) (by kernel_rfl) (by decide) ?_
              refine (.cons rfl (fun I cnI => ?_) .nil)
              · refine lp rfl (p_idx Tryd.underlying142 ty9 rfl rfl (.row 0 rfl) he12) ?_
                refine lj_nil ?_
                refine cnI _ _ (sof1 rfl rfl (fun _ h => h.picks [2] rfl)) ?_
                refine at_each (rs := [10]) (by kernel_rfl) (by decide) ?_
                refine (.cons rfl (fun I cnI => ?_) .nil)
                · refine lp rfl (p_lde (o := 0) ty9 rfl rfl (.row 0 rfl) (getI_spec he12).2 rfl) ?_
                  refine lj_nil ?_
                  refine cnI _ _ (sof1 rfl rfl (fun _ h => h.picks [2] rfl)) ?_
                  refine at_take2 11 rfl (by kernel_rfl) (by kernel_rfl) (by kernel_rfl) (fun _ h => h.picks [0] rfl) rfl rfl (p_catM hc13 rfl rfl) (fun _ h => h.picks [2] rfl) ?_
                  refine at_take2 12 rfl (by kernel_rfl) (by kernel_rfl) (by kernel_rfl) (fun _ h => h.picks [0] rfl) rfl rfl (p_as rfl) (fun _ h => h.picks [2] rfl) ?_
                  refine at_done (by kernel_rfl) ?_
                  exact cnk5 _ _ c13 () (Option.some.inj hm).symm ⟨rfl, rfl, rfl, rfl, trivial⟩ (fun _ h => h.picks [2] rfl)
            · refine lp rfl (p_idx Tryd.underlying142 ty9 rfl rfl (.row 0 rfl) he12) ?_
              refine lj_nil ?_
              refine cnI _ _ (sof1 rfl rfl (fun _ h => h.picks [2] rfl)) ?_
              refine at_each (rs := [4, 10]) (by kernel_rfl) (by decide) ?_
              refine (.cons rfl (fun I cnI => ?_) (.cons rfl (fun I cnI => ?_) .nil))
              · refine lp rfl (p_lde (o := 0) ty9 rfl rfl (.row 1 rfl) (getI_spec he8).2 rfl) ?_
                refine lj_nil ?_
                refine cnI _ _ (sof1 rfl rfl (fun _ h => h.picks [2] rfl)) ?_
                refine at_take2 5 rfl (by kernel_rfl) (by kernel_rfl) (by kernel_rfl) (fun _ h => h.picks [0] rfl) rfl rfl (p_catM hc9 rfl rfl) (fun _ h => h.picks [2] rfl) ?_
                refine at_each (rs := [10]) (by kernel_rfl) (by decide) ?_
                refine (.cons rfl (fun I cnI => ?_) .nil)
                · refine lp rfl (p_lde (o := 0) ty9 rfl rfl (.row 0 rfl) (getI_spec he12).2 rfl) ?_
                  refine lj_nil ?_
                  refine cnI _ _ (sof1 rfl rfl (fun _ h => h.picks [2] rfl)) ?_
                  refine at_take2 11 rfl (by kernel_rfl) (by kernel_rfl) (by kernel_rfl) (fun _ h => h.picks [0] rfl) rfl rfl (p_catM hc13 rfl rfl) (fun _ h => h.picks [2] rfl) ?_
                  refine at_take2 12 rfl (by kernel_rfl) (by kernel_rfl) (by kernel_rfl) (fun _ h => h.picks [0] rfl) rfl rfl (p_as rfl) (fun _ h => h.picks [2] rfl) ?_
                  refine at_done (by kernel_rfl) ?_
                  exact cnk5 _ _ c13 () (Option.some.inj hm).symm ⟨rfl, rfl, rfl, rfl, trivial⟩ (fun _ h => h.picks [2] rfl)
              · refine lp rfl (p_lde (o := 0) ty9 rfl rfl (.row 0 rfl) (getI_spec he12).2 rfl) ?_
                refine lj_nil ?_
                refine cnI _ _ (sof1 rfl rfl (fun _ h => h.picks [2] rfl)) ?_
                refine at_each (rs := [4]) (by kernel_rfl) (by decide) ?_
                refine (.cons rfl (fun I cnI => ?_) .nil)
                · refine lp rfl (p_lde (o := 0) ty9 rfl rfl (.row 1 rfl) (getI_spec he8).2 rfl) ?_
                  refine lj_nil ?_
                  refine cnI _ _ (sof1 rfl rfl (fun _ h => h.picks [2] rfl)) ?_
                  refine at_take2 5 rfl (by kernel_rfl) (by kernel_rfl) (by kernel_rfl) (fun _ h => h.picks [0] rfl) rfl rfl (p_catM hc9 rfl rfl) (fun _ h => h.picks [2] rfl) ?_
                  refine at_take2 11 rfl (by kernel_rfl) (by kernel_rfl) (by kernel_rfl) (fun _ h => h.picks [0] rfl) rfl rfl (p_catM hc13 rfl rfl) (fun _ h => h.picks [2] rfl) ?_
                  refine at_take2 12 rfl (by kernel_rfl) (by kernel_rfl) (by kernel_rfl) (fun _ h => h.picks [0] rfl) rfl rfl (p_as rfl) (fun _ h => h.picks [2] rfl) ?_
                  refine at_done (by kernel_rfl) ?_
                  exact cnk5 _ _ c13 () (Option.some.inj hm).symm ⟨rfl, rfl, rfl, rfl, trivial⟩ (fun _ h => h.picks [2] rfl)
        · refine r_call [] cf111 rfl rfl (ok_chord_kindWords  hy10) rfl rfl .nil (fun _ => rfl) rfl (fun s17 => ?_)
          refine lj_nil ?_
          refine cnI _ _ (sof1 rfl rfl (fun _ h => h.picks [2] rfl)) ?_
          refine at_each (rs := [3, 9]) (by kernel_rfl) (by decide) ?_
          refine (.cons rfl (fun I cnI => ?_) (.cons rfl (fun I cnI => ?_) .nil))
          · refine lp rfl (p_idx Tryd.underlying142 ty9 rfl rfl (.row 1 rfl) he8) ?_
            refine lj_nil ?_
            refine cnI _ _ (sof1 rfl rfl (fun _ h => h.picks [2] rfl)) ?_
            refine at_each (rs := [4, 9]) (by kernel_rfl) (by decide) ?_
            refine (.cons rfl (fun I cnI => ?_) (.cons rfl (fun I cnI => ?_) .nil))
            · refine lp rfl (p_lde (o := 0) ty9 rfl rfl (.row 1 rfl) (getI_spec he8).2 rfl) ?_
              refine lj_nil ?_
              refine cnI _ _ (sof1 rfl rfl (fun _ h => h.picks [2] rfl)) ?_
              refine at_take2 5 rfl (by kernel_rfl) (by kernel_rfl) (by kernel_rfl) (fun _ h => h.picks [0] rfl) rfl rfl (p_catM hc9 rfl rfl) (fun _ h => h.picks [2] rfl) ?_
              refine at_each (rs := [9]) (by kernel_rfl) (by decide) ?_
              refine (.cons rfl (fun I cnI => ?_) .nil)
              · refine lp rfl (p_idx Tryd.underlying142 ty9 rfl rfl (.row 0 rfl) he12) ?_
                refine lj_nil ?_
                refine cnI _ _ (sof1 rfl rfl (fun _ h => h.picks [2] rfl)) ?_
                refine at_each (rs := [10]) (by kernel_rfl) (by decide) ?_
                refine (.cons rfl (fun I cnI => ?_) .nil)
                · refine lp rfl (p_lde (o := 0) ty9 rfl rfl (.row 0 rfl) (getI_spec he12).2 rfl) ?_
                  refine lj_nil ?_
                  refine cnI _ _ (sof1 rfl rfl (fun _ h => h.picks [2] rfl)) ?_
                  refine at_take2 11 rfl (by kernel_rfl) (by kernel_rfl) (by kernel_rfl) (fun _ h => h.picks [0] rfl) rfl rfl (p_catM hc13 rfl rfl) (fun _ h => h.picks [2] rfl) ?_
                  refine at_take2 12 rfl (by kernel_rfl) (by kernel_rfl) (by kernel_rfl) (fun _ h => h.picks [0] rfl) rfl rfl (p_as rfl) (fun _ h => h.picks [2] rfl) ?_
                  refine at_done (by kernel_rfl) ?_
                  exact cnk5 _ _ c13 () (Option.some.inj hm).symm ⟨rfl, rfl, rfl, rfl, trivial⟩ (fun _ h => h.picks [2] rfl)
            · refine lp rfl (p_idx Tryd.underlying142 ty9 rfl rfl (.row 0 rfl) he12) ?_
              refine lj_nil ?_
              refine cnI _ _ (sof1 rfl rfl (fun _ h => h.picks [2] rfl)) ?_
              refine at_each (rs := [4, 10]) (by kernel_rfl) (by decide) ?_
              refine (.cons rfl (fun I cnI => ?_) (.cons rfl (fun I cnI => ?_) .nil))
              · refine lp rfl (p_lde (o := 0) ty9 rfl rfl (.row 1 rfl) (getI_spec he8).2 rfl) ?_
                refine lj_nil ?_
                refine cnI _ _ (sof1 rfl rfl (fun _ h => h.picks [2] rfl)) ?_
                refine at_take2 5 rfl (by kernel_rfl) (by kernel_rfl) (by kernel_rfl) (fun _ h => h.picks [0] rfl) rfl rfl (p_catM hc9 rfl rfl) (fun _ h => h.picks [2] rfl) ?_
                refine at_each (rs := [10]) (by kernel_rfl) (by decide) ?_
                refine (.cons rfl (fun I cnI => ?_) .nil)
                · refine lp rfl (p_lde (o := 0) ty9 rfl rfl (.row 0 rfl) (getI_spec he12).2 rfl) ?_
                  refine lj_nil ?_
                  refine cnI _ _ (sof1 rfl rfl (fun _ h => h.picks [2] rfl)) ?_
                  refine at_take2 11 rfl (by kernel_rfl) (by kernel_rfl) (by kernel_rfl) (fun _ h => h.picks [0] rfl) rfl rfl (p_catM hc13 rfl rfl) (fun _ h => h.picks [2] rfl) ?_
                  refine at_take2 12 rfl (by kernel_rfl) (by kernel_rfl) (by kernel_rfl) (fun _ h => h.picks [0] rfl) rfl rfl (p_as rfl) (fun _ h => h.picks [2] rfl) ?_
                  refine at_done (by kernel_rfl) ?_
                  exact cnk5 _ _ c13 () (Option.some.inj hm).symm ⟨rfl, rfl, rfl, rfl, trivial⟩ (fun _ h => h.picks [2] rfl)
              · refine lp rfl (p_lde (o := 0) ty9 rfl rfl (.row 0 rfl) (getI_spec he12).2 rfl) ?_
                refine lj_nil ?_
                refine cnI _ _ (sof1 rfl rfl (fun _ h => h.picks [2] rfl)) ?_
                refine at_each (rs := [4]) (by kernel_rfl) (by decide) ?_
                refine (.cons rfl (fun I cnI => ?_) .nil)
                · refine lp rfl (p_lde (o := 0) ty9 rfl rfl (.row 1 rfl) (getI_spec he8).2 rfl) ?_
                  refine lj_nil ?_
                  refine cnI _ _ (sof1 rfl rfl (fun _ h => h.picks [2] rfl)) ?_
                  refine at_take2 5 rfl (by kernel_rfl) (by kernel_rfl) (by kernel_rfl) (fun _ h => h.picks [0] rfl) rfl rfl (p_catM hc9 rfl rfl) (fun _ h => h.picks [2] rfl) ?_
                  refine at_take2 11 rfl (by kernel_rfl) (by kernel_rfl) (by kernel_rfl) (fun _ h => h.picks [0] rfl) rfl rfl (p_catM hc13 rfl rfl) (fun _ h => h.picks [2] rfl) ?_
                  refine at_take2 12 rfl (by kernel_rfl) (by kernel_rfl) (by kernel_rfl) (fun _ h => h.picks [0] rfl) rfl rfl (p_as rfl) (fun _ h => h.picks [2] rfl) ?_
                  refine at_done (by kernel_rfl) ?_
                  exact cnk5 _ _ c13 () (Option.some.inj hm).symm ⟨rfl, rfl, rfl, rfl, trivial⟩ (fun _ h => h.picks [2] rfl)
          · refine lp rfl (p_idx Tryd.underlying142 ty9 rfl rfl (.row 0 rfl) he12) ?_
            refine lj_nil ?_
            refine cnI _ _ (sof1 rfl rfl (fun _ h => h.picks [2] rfl)) ?_
            refine at_each (rs := [3, 10]) (by kernel_rfl) (by decide) ?_
            refine (.cons rfl (fun I cnI => ?_) (.cons rfl (fun I cnI => ?_) .nil))
            · refine lp rfl (p_idx Tryd.underlying142 ty9 rfl rfl (.row 1 rfl) he8) ?_
              refine lj_nil ?_
              refine cnI _ _ (sof1 rfl rfl (fun _ h => h.picks [2] rfl)) ?_
              refine at_each (rs := [4, 10]) (by kernel_rfl) (by decide) ?_
              refine (.cons rfl (fun I cnI => ?_) (.cons rfl (fun I cnI => ?_) .nil))
              · refine lp rfl (p_lde (o := 0) ty9 rfl rfl (.row 1 rfl) (getI_spec he8).2 rfl) ?_
                refine lj_nil ?_
                refine cnI _ _ (sof1 rfl rfl (fun _ h => h.picks [2] rfl)) ?_
                refine at_take2 5 rfl (by kernel_rfl) (by kernel_rfl) (by kernel_rfl) (fun _ h => h.picks [0] rfl) rfl rfl (p_catM hc9 rfl rfl) (fun _ h => h.picks [2] rfl) ?_
                refine at_each (rs := [10]) (by kernel_rfl) (by decide) ?_
                refine (.cons rfl (fun I cnI => ?_) .nil)
                · refine lp rfl (p_lde (o := 0) ty9 rfl rfl (.row 0 rfl) (getI_spec he12).2 rfl) ?_
                  refine lj_nil ?_
                  refine cnI _ _ (sof1 rfl rfl (fun _ h => h.picks [2] rfl)) ?_
                  refine at_take2 11 rfl (by kernel_rfl) (by kernel_rfl) (by kernel_rfl) (fun _ h => h.picks [0] rfl) rfl rfl (p_catM hc13 rfl rfl) (fun _ h => h.picks [2] rfl) ?_
                  refine at_take2 12 rfl (by kernel_rfl) (by kernel_rfl) (by kernel_rfl) (fun _ h => h.picks [0] rfl) rfl rfl (p_as rfl) (fun _ h => h.picks [2] rfl) ?_
                  refine at_done (by kernel_rfl) ?_
                  exact cnk5 _ _ c13 () (Option.some.inj hm).symm ⟨rfl, rfl, rfl, rfl, trivial⟩ (fun _ h => h.picks [2] rfl)
              · refine lp rfl (p_lde (o := 0) ty9 rfl rfl (.row 0 rfl) (getI_spec he12).2 rfl) ?_
                refine lj_nil ?_
                refine cnI _ _ (sof1 rfl rfl (fun _ h => h.picks [2] rfl)) ?_
                refine at_each (rs := [4]) (by kernel_rfl) (by decide) ?_
                refine (.cons rfl (fun I cnI => ?_) .nil)
                · refine lp rfl (p_lde (o := 0) ty9 rfl rfl (.row 1 rfl) (getI_spec he8).2 rfl) ?_
                  refine lj_nil ?_
                  refine cnI _ _ (sof1 rfl rfl (fun _ h => h.picks [2] rfl)) ?_
                  refine at_take2 5 rfl (by kernel_rfl) (by kernel_rfl) (by kernel_rfl) (fun _ h => h.picks [0] rfl) rfl rfl (p_catM hc9 rfl rfl) (fun _ h => h.picks [2] rfl) ?_
                  refine at_take2 11 rfl (by kernel_rfl) (by kernel_rfl) (by kernel_rfl) (fun _ h => h.picks [0] rfl) rfl rfl (p_catM hc13 rfl rfl) (fun _ h => h.picks [2] rfl) ?_
                  refine at_take2 12 rfl (by kernel_rfl) (by kernel_rfl) (by kernel_rfl) (fun _ h => h.picks [0] rfl) rfl rfl (p_as rfl) (fun _ h => h.picks [2] rfl) ?_
                  refine at_done (by kernel_rfl) ?_
                  exact cnk5 _ _ c13 () (Option.some.inj hm).symm ⟨rfl, rfl, rfl, rfl, trivial⟩ (fun _ h => h.picks [2] rfl)
            · refine lp rfl (p_lde (o := 0) ty9 rfl rfl (.row 0 rfl) (getI_spec he12).2 rfl) ?_
              refine lj_nil ?_
              refine cnI _ _ (sof1 rfl rfl (fun _ h => h.picks [2] rfl)) ?_
              refine at_each (rs := [3]) (by kernel_rfl) (by decide) ?_
              refine (.cons rfl (fun I cnI => ?_) .nil)
              · refine lp rfl (p_idx Tryd.underlying142 ty9 rfl rfl (.row 1 rfl) he8) ?_
                refine lj_nil ?_
                refine cnI _ _ (sof1 rfl rfl (fun _ h => h.picks [2] rfl)) ?_
                refine at_each (rs := [4]) (by kernel_rfl) (by decide) ?_
                refine (.cons rfl (fun I cnI => ?_) .nil)
                · refine lp rfl (p_lde (o := 0) ty9 rfl rfl (.row 1 rfl) (getI_spec he8).2 rfl) ?_
                  refine lj_nil ?_
                  refine cnI _ _ (sof1 rfl rfl (fun _ h => h.picks [2] rfl)) ?_
                  refine at_take2 5 rfl (by kernel_rfl) (by kernel_rfl) (by kernel_rfl) (fun _ h => h.picks [0] rfl) rfl rfl (p_catM hc9 rfl rfl) (fun _ h => h.picks [2] rfl) ?_
                  refine at_take2 11 rfl (by kernel_rfl) (by kernel_rfl) (by kernel_rfl) (fun _ h => h.picks [0] rfl) rfl rfl (p_catM hc13 rfl rfl) (fun _ h => h.picks [2] rfl) ?_
                  refine at_take2 12 rfl (by kernel_rfl) (by kernel_rfl) (by kernel_rfl) (fun _ h => h.picks [0] rfl) rfl rfl (p_as rfl) (fun _ h => h.picks [2] rfl) ?_
                  refine at_done (by kernel_rfl) ?_
                  exact cnk5 _ _ c13 () (Option.some.inj hm).symm ⟨rfl, rfl, rfl, rfl, trivial⟩ (fun _ h => h.picks [2] rfl)
theorem ok_gleelaw2_sounded  {r : Bool} (hm : m_gleelaw2_sounded  = some r) :
    Ctr Tryd.prog 28 [].toArray ([] : List Ent) [] (X := Unit) (fun _ => .bool r) (fun _ => []) := by
  unfold m_gleelaw2_sounded at hm
  refine ctr_mk (vs := []) Tryd.func28 rfl Tryd.ntmps28 rfl trivial (fun w0 A => ?_)
  refine cj_seq ?_
  refine cj_reg ?_
  refine lp rfl (p_as rfl) ?_
  refine lj_seq ?_
  refine cj_seq ?_
  refine cj_reg ?_
  refine lp rfl (p_bld [.int .i64 1, .int .i64 2, .int .i64 1] rfl (fun _ => by kernel_rfl)) ?_
  obtain ⟨y1, hy1, hm⟩ := bindS hm
  refine r_call [] cf56 rfl rfl (ok_chord_Name (TChord.mk 1 2 1) hy1) rfl rfl .nil (fun _ => rfl) rfl (fun _ => ?_)
  refine lp rfl (p_mv rfl) ?_
  refine lp rfl (p_ext rfl rfl) ?_
  refine lp rfl (p_ext rfl rfl) ?_
  refine lp rfl (p_as rfl) ?_
  refine lp rfl (p_as rfl) ?_
  refine lj_seq ?_
  refine cj_seq ?_
  refine cj_reg ?_
  refine lp rfl (p_mv rfl) ?_
  refine lp rfl (p_eql rfl rfl) ?_
  refine lp rfl (p_mv rfl) ?_
  refine lcase (i := 10) (y1.2 == 0) rfl (fun hb => ?_) (fun hb => ?_)
  · have hm := ifB_t hb hm
    refine lg true rfl rfl rfl ?_
    refine lp rfl (p_mv rfl) ?_
    refine lg true rfl rfl rfl ?_
    refine lp rfl (p_eqs rfl rfl) ?_
    refine lp rfl (p_pkt rfl rfl) ?_
    refine lp rfl (p_as rfl) ?_
    refine lj_seq ?_
    obtain rfl := Option.some.inj hm
    exact cj_rt () [] Tryd.results28 (.tmp rfl .nil) rfl rfl
  · have hm := ifB_f hb hm
    refine ls true rfl rfl rfl rfl ?_
    refine ls true rfl rfl rfl rfl ?_
    refine lp rfl (p_pkf rfl rfl) ?_
    refine lp rfl (p_as rfl) ?_
    refine lj_seq ?_
    obtain rfl := Option.some.inj hm
    exact cj_rt () [] Tryd.results28 (.tmp rfl .nil) rfl rfl
end Go.Proofs.YtndkkkgkmeijlaaDoor
