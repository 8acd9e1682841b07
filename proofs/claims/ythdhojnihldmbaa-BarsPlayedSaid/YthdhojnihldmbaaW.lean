/- The walks. Written by program. -/
import Derived.Test.YthdhojnihldmbaaD
namespace Go.Proofs.Ythdhojnihldmbaa
open Go Go.J Go.G
set_option maxRecDepth 100000
set_option linter.unusedVariables false
theorem ok_kit_Outside (a0 : Int) (a1 : Int) (a2 : Int) {r : Bool} (hm : m_kit_Outside a0 a1 a2 = some r) :
    Ctr Try.prog 38 [.int .i64 a0, .int .i64 a1, .int .i64 a2].toArray ([] : List Ent) [] (X := Unit) (fun _ => .bool r) (fun _ => []) := by
  unfold m_kit_Outside at hm
  refine ctr_mk (vs := [(0, .int .i64 a0), (1, .int .i64 a1), (2, .int .i64 a2)]) Try.func38 rfl Try.ntmps38 rfl ⟨rfl, rfl, rfl, trivial⟩ (fun w0 A => ?_)
  refine cj_seq ?_
  refine cj_reg ?_
  refine lp rfl (p_as rfl) ?_
  refine lj_seq ?_
  refine cj_seq ?_
  refine cj_reg ?_
  refine lp rfl (p_mv rfl) ?_
  refine lp rfl (p_mv rfl) ?_
  refine lp rfl (p_lss rfl rfl) ?_
  refine lp rfl (p_mv rfl) ?_
  refine lcase (i := 10) (decide (a0 < a1)) rfl (fun hb => ?_) (fun hb => ?_)
  · have hm := ifB_t hb hm
    refine ls false rfl rfl rfl rfl ?_
    refine ls false rfl rfl rfl rfl ?_
    refine ls false rfl rfl rfl rfl ?_
    refine lp rfl (p_pkt rfl rfl) ?_
    refine lp rfl (p_as rfl) ?_
    refine lj_seq ?_
    obtain rfl := Option.some.inj hm
    exact cj_rt () [] Try.results38 (.tmp rfl .nil) rfl rfl
  · have hm := ifB_f hb hm
    refine lg false rfl rfl rfl ?_
    refine lp rfl (p_mv rfl) ?_
    refine lg false rfl rfl rfl ?_
    refine lp rfl (p_mv rfl) ?_
    refine lg false rfl rfl rfl ?_
    refine lp rfl (p_gtr rfl rfl) ?_
    refine lp rfl (p_pkf rfl rfl) ?_
    refine lp rfl (p_as rfl) ?_
    refine lj_seq ?_
    obtain rfl := Option.some.inj hm
    exact cj_rt () [] Try.results38 (.tmp rfl .nil) rfl rfl
theorem ok_gleeref2_in (a0 : Int) (a1 : Int) (a2 : Int) {r : Bool} (hm : m_gleeref2_in a0 a1 a2 = some r) :
    Ctr Try.prog 24 [.int .i64 a0, .int .i64 a1, .int .i64 a2].toArray ([] : List Ent) [] (X := Unit) (fun _ => .bool r) (fun _ => []) := by
  unfold m_gleeref2_in at hm
  refine ctr_mk (vs := [(0, .int .i64 a0), (1, .int .i64 a1), (2, .int .i64 a2)]) Try.func24 rfl Try.ntmps24 rfl ⟨rfl, rfl, rfl, trivial⟩ (fun w0 A => ?_)
  refine cj_seq ?_
  refine cj_reg ?_
  refine lp rfl (p_as rfl) ?_
  refine lj_seq ?_
  refine cj_seq ?_
  refine cj_reg ?_
  refine lp rfl (p_mv rfl) ?_
  refine lp rfl (p_mv rfl) ?_
  refine lp rfl (p_leq rfl rfl) ?_
  refine lp rfl (p_mv rfl) ?_
  refine lcase (i := 10) (decide (a1 ≤ a0)) rfl (fun hb => ?_) (fun hb => ?_)
  · have hm := ifB_t hb hm
    refine lg true rfl rfl rfl ?_
    refine lp rfl (p_mv rfl) ?_
    refine lg true rfl rfl rfl ?_
    refine lp rfl (p_mv rfl) ?_
    refine lg true rfl rfl rfl ?_
    refine lp rfl (p_leq rfl rfl) ?_
    refine lp rfl (p_pkt rfl rfl) ?_
    refine lp rfl (p_as rfl) ?_
    refine lj_seq ?_
    obtain rfl := Option.some.inj hm
    exact cj_rt () [] Try.results24 (.tmp rfl .nil) rfl rfl
  · have hm := ifB_f hb hm
    refine ls true rfl rfl rfl rfl ?_
    refine ls true rfl rfl rfl rfl ?_
    refine ls true rfl rfl rfl rfl ?_
    refine lp rfl (p_pkf rfl rfl) ?_
    refine lp rfl (p_as rfl) ?_
    refine lj_seq ?_
    obtain rfl := Option.some.inj hm
    exact cj_rt () [] Try.results24 (.tmp rfl .nil) rfl rfl
theorem ok_gleemake_Below (a0 : Int) (a1 : Int) {r : Int} (hm : m_gleemake_Below a0 a1 = some r) :
    Ctr Try.prog 33 [.int .i64 a0, .int .i64 a1].toArray ([] : List Ent) [] (X := Unit) (fun _ => .int .i64 r) (fun _ => []) := by
  unfold m_gleemake_Below at hm
  refine ctr_mk (vs := [(0, .int .i64 a0), (1, .int .i64 a1)]) Try.func33 rfl Try.ntmps33 rfl ⟨rfl, rfl, trivial⟩ (fun w0 A => ?_)
  refine cj_seq ?_
  refine cj_reg ?_
  refine lp rfl (p_as rfl) ?_
  refine lj_seq ?_
  refine cj_seq ?_
  refine cj_seq ?_
  refine cj_reg ?_
  refine lp rfl (p_mv rfl) ?_
  refine lp rfl (p_lss rfl rfl) ?_
  refine lj_seq ?_
  refine cj_if (b := decide (a1 < 1)) rfl (fun hb => ?_) (fun hb => ?_)
  · have hm := ifB_t hb hm
    refine cj_seq ?_
    refine cj_reg ?_
    refine lp rfl (p_as rfl) ?_
    refine lj_seq ?_
    obtain rfl := Option.some.inj hm
    exact cj_rt () [] Try.results33 (.tmp rfl .nil) rfl rfl
  · have hm := ifB_f hb hm
    refine cj_skip ?_
    refine nj_seq ?_
    refine cj_seq ?_
    refine cj_reg ?_
    refine lp rfl (p_mv rfl) ?_
    refine lp rfl (p_mv rfl) ?_
    obtain ⟨z1, hz1, hm⟩ := bindS hm
    refine lp rfl (p_remM hz1 rfl rfl) ?_
    refine lp rfl (p_as rfl) ?_
    refine lj_seq ?_
    refine cj_seq ?_
    refine cj_seq ?_
    refine cj_reg ?_
    refine lp rfl (p_mv rfl) ?_
    refine lp rfl (p_lss rfl rfl) ?_
    refine lj_seq ?_
    refine cj_if (b := decide (z1 < 0)) rfl (fun hb => ?_) (fun hb => ?_)
    · have hm := ifB_t hb hm
      refine cj_reg ?_
      refine lp rfl (p_mv rfl) ?_
      refine lp rfl (p_mv rfl) ?_
      refine lp rfl (p_add rfl rfl) ?_
      refine lp rfl (p_as rfl) ?_
      refine lj_seq ?_
      refine cj_seq ?_
      refine cj_reg ?_
      refine lp rfl (p_mv rfl) ?_
      refine lp rfl (p_as rfl) ?_
      refine lj_seq ?_
      obtain rfl := Option.some.inj hm
      exact cj_rt () [] Try.results33 (.tmp rfl .nil) rfl rfl
    · have hm := ifB_f hb hm
      refine cj_skip ?_
      refine nj_seq ?_
      refine cj_seq ?_
      refine cj_reg ?_
      refine lp rfl (p_mv rfl) ?_
      refine lp rfl (p_as rfl) ?_
      refine lj_seq ?_
      obtain rfl := Option.some.inj hm
      exact cj_rt () [] Try.results33 (.tmp rfl .nil) rfl rfl
theorem ok_gleeref2_divisor (a0 : Int) (a1 : Int) {r : Int} (hm : m_gleeref2_divisor a0 a1 = some r) :
    Ctr Try.prog 36 [.int .i64 a0, .int .i64 a1].toArray ([] : List Ent) [] (X := Unit) (fun _ => .int .i64 r) (fun _ => []) := by
  unfold m_gleeref2_divisor at hm
  refine ctr_mk (vs := [(0, .int .i64 a0), (1, .int .i64 a1)]) Try.func36 rfl Try.ntmps36 rfl ⟨rfl, rfl, trivial⟩ (fun w0 A => ?_)
  refine cj_seq ?_
  refine cj_reg ?_
  refine lp rfl (p_as rfl) ?_
  refine lj_seq ?_
  refine cj_seq ?_
  obtain ⟨f4, hf4, hm⟩ := bindS hm
  refine cj_whileA (γ := Unit) hf4 () (fun u1 g2 => [(0, .int .i64 u1.1), (1, .int .i64 u1.2), (4, .int .i64 0)]) (fun u1 g2 => Sat w0 (keys ([] : List Ent)) A []) ⟨rfl, rfl, rfl, trivial⟩ (fun _ h => h.picks [] rfl) (fun u1 g2 e => ?_) (fun aftk3 u1 g2 k3 hs J hJk3 hBk3 hX I cnk3 => ?_)
  · have hm := Flow.fin_b e hm
    refine nj_seq ?_
    refine cj_seq ?_
    refine cj_reg ?_
    refine lp rfl (p_mv rfl) ?_
    refine lp rfl (p_mv rfl) ?_
    refine lp rfl (p_neg rfl) ?_
    refine lp rfl (p_max rfl rfl) ?_
    refine lp rfl (p_as rfl) ?_
    refine lj_seq ?_
    obtain rfl := Option.some.inj hm
    exact cj_rt () [] Try.results36 (.tmp rfl .nil) rfl rfl
  · have hRk3 : ∀ t, k3 = .ret t → some t = some r := fun t e => by rw [hX t e] at hm; exact hm
    have hm := hs
    refine cj_seq ?_
    refine cj_seq ?_
    refine cj_reg ?_
    refine lp rfl (p_mv rfl) ?_
    refine lp rfl (p_neq rfl rfl) ?_
    refine lj_seq ?_
    refine cj_if (b := u1.2 != 0) rfl (fun hb => ?_) (fun hb => ?_)
    · have hm := ifB_t hb hm
      refine cj_skip ?_
      refine nj_seq ?_
      refine cj_blk ?_
      refine cj_quiet (by kernel_rfl) (by kernel_rfl) ?_
      refine q_p rfl (p_mv rfl) ?_
      refine q_p rfl (p_mv rfl) ?_
      refine q_p rfl (p_mv rfl) ?_
      obtain ⟨z5, hz5, hm⟩ := bindS hm
      refine q_p rfl (p_remM hz5 rfl rfl) ?_
      refine q_p rfl (p_as rfl) ?_
      refine q_p rfl (p_as rfl) ?_
      refine q_nil ?_
      refine nj_blk ?_
      exact cnk3 _ _ (u1.2, z5) () (hJk3 _ (Option.some.inj hm).symm) ⟨rfl, rfl, rfl, trivial⟩ (fun _ h => h.picks [] rfl)
    · have hm := ifB_f hb hm
      refine cj_exit rfl ?_
      exact (aftk3 (u1.1, u1.2) () (hBk3 _ (Option.some.inj hm).symm)).sub ⟨rfl, rfl, rfl, trivial⟩ (fun _ h => h.picks [] rfl)
theorem ok_kit_Lowest (a0 : Int) (a1 : Int) {r : Fraction} (hm : m_kit_Lowest a0 a1 = some r) :
    Ctr Try.prog 34 [.int .i64 a0, .int .i64 a1].toArray ([] : List Ent) [] (X := Unit) (fun _ => .agg (R33.enc r).toArray) (fun _ => []) := by
  unfold m_kit_Lowest at hm
  refine ctr_mk (vs := [(0, .int .i64 a0), (1, .int .i64 a1)]) Try.func34 rfl Try.ntmps34 rfl ⟨rfl, rfl, trivial⟩ (fun w0 A => ?_)
  refine cj_seq ?_
  refine cj_reg ?_
  refine r_al ty33 rfl (fun b1 => ?_)
  refine lj_seq ?_
  refine cj_seq ?_
  refine cj_reg ?_
  refine lp rfl (p_mv rfl) ?_
  refine lp rfl (p_mv rfl) ?_
  refine lp rfl (p_as rfl) ?_
  refine lp rfl (p_as rfl) ?_
  refine lj_seq ?_
  refine cj_seq ?_
  obtain ⟨f5, hf5, hm⟩ := bindS hm
  refine cj_whileA (γ := Unit) hf5 () (fun u2 g3 => [(0, .int .i64 a0), (1, .int .i64 a1), (4, .pointer (some ⟨b1, 0, none⟩)), (5, .int .i64 u2.1), (6, .int .i64 u2.2)]) (fun u2 g3 => Sat w0 (keys ([] : List Ent)) A [.box b1 33 [.int .i64 0, .int .i64 0]]) ⟨rfl, rfl, rfl, rfl, rfl, trivial⟩ (fun _ h => h.picks [0] rfl) (fun u2 g3 e => ?_) (fun aftk4 u2 g3 k4 hs J hJk4 hBk4 hX I cnk4 => ?_)
  · have hm := Flow.fin_b e hm
    refine nj_seq ?_
    refine cj_seq ?_
    refine cj_tail 7 (by kernel_rfl) (by kernel_rfl) ?_
    refine s_p rfl (p_mv rfl) ?_
    refine s_p rfl (p_mv rfl) ?_
    obtain ⟨z7, hz7, hm⟩ := bindS hm
    refine s_p rfl (p_quoM hz7 rfl rfl) ?_
    refine s_p rfl (p_mv rfl) ?_
    refine s_p rfl (p_mv rfl) ?_
    obtain ⟨z8, hz8, hm⟩ := bindS hm
    refine s_p rfl (p_quoM hz8 rfl rfl) ?_
    refine s_p rfl (p_bld [.int .i64 z7, .int .i64 z8] rfl (fun _ => by kernel_rfl)) ?_
    refine s_nil ?_
    refine r_sb (vs := [.int .i64 z7, .int .i64 z8]) (j := 0) ty33 rfl rfl rfl rfl rfl rfl rfl ?_
    refine lj_seq ?_
    obtain rfl := Option.some.inj hm
    exact cj_rt () [] Try.results34 (.agg (k := 0) ty33 rfl rfl rfl .nil) rfl rfl
  · have hRk4 : ∀ t, k4 = .ret t → some t = some r := fun t e => by rw [hX t e] at hm; exact hm
    have hm := hs
    refine cj_seq ?_
    refine cj_seq ?_
    refine cj_reg ?_
    refine lp rfl (p_mv rfl) ?_
    refine lp rfl (p_neq rfl rfl) ?_
    refine lj_seq ?_
    refine cj_if (b := u2.2 != 0) rfl (fun hb => ?_) (fun hb => ?_)
    · have hm := ifB_t hb hm
      refine cj_skip ?_
      refine nj_seq ?_
      refine cj_blk ?_
      refine cj_quiet (by kernel_rfl) (by kernel_rfl) ?_
      refine q_p rfl (p_mv rfl) ?_
      refine q_p rfl (p_mv rfl) ?_
      refine q_p rfl (p_mv rfl) ?_
      obtain ⟨z6, hz6, hm⟩ := bindS hm
      refine q_p rfl (p_remM hz6 rfl rfl) ?_
      refine q_p rfl (p_as rfl) ?_
      refine q_p rfl (p_as rfl) ?_
      refine q_nil ?_
      refine nj_blk ?_
      exact cnk4 _ _ (u2.2, z6) () (hJk4 _ (Option.some.inj hm).symm) ⟨rfl, rfl, rfl, rfl, rfl, trivial⟩ (fun _ h => h.picks [0] rfl)
    · have hm := ifB_f hb hm
      refine cj_exit rfl ?_
      exact (aftk4 (u2.1, u2.2) () (hBk4 _ (Option.some.inj hm).symm)).sub ⟨rfl, rfl, rfl, rfl, rfl, trivial⟩ (fun _ h => h.picks [0] rfl)
theorem ok_slices_Index_int_int (s0_ : SV) (a0 : (List Int)) (a1 : Int) {r : Int} (hm : m_slices_Index_int_int a0 a1 = some r) :
    Ctr Try.prog 35 [s0_.v, .int .i64 a1].toArray ([] : List Ent) [RdS R3 s0_.v a0] (X := Unit) (fun _ => .int .i64 r) (fun _ => []) := by
  unfold m_slices_Index_int_int at hm
  refine ctr_mk (vs := [(0, s0_.v), (1, .int .i64 a1)]) Try.func35 rfl Try.ntmps35 rfl ⟨rfl, rfl, trivial⟩ (fun w0 A => ?_)
  refine cj_seq ?_
  refine cj_reg ?_
  refine lp rfl (p_as rfl) ?_
  refine lj_seq ?_
  refine cj_seq ?_
  refine cj_seq ?_
  refine cj_reg ?_
  refine lp rfl (p_mv rfl) ?_
  refine lp rfl (p_len Try.underlying22 rfl (.ro 0 rfl)) ?_
  refine lp rfl (p_mv rfl) ?_
  refine lj_seq ?_
  obtain ⟨f7, hf7, hm⟩ := bindS hm
  refine cj_range (γ := Unit) (m := (a0.length : Int)) hf7 () (fun u4 g5 => [(0, s0_.v), (1, .int .i64 a1), (4, .int .i64 u4)]) (fun u4 g5 => Sat w0 (keys ([] : List Ent)) A [.ro (RdS R3 (SV.v s0_) a0)]) ⟨rfl, rfl, rfl, rfl, rfl, trivial⟩ (fun _ h => h.picks [0] rfl) (nat_lt _) (fun _ h => (FactAt.get (.ro 0 rfl) h).1) (fun _ _ => ⟨rfl, rfl, rfl, rfl⟩) ⟨rfl, rfl, rfl, rfl, rfl⟩ rfl rfl rfl (fun u4 g5 e => ?_) (fun aftk6 i1 x2 u4 g5 k6 hx3 hs J hJk6 hBk6 hX I cnk6 => ?_)
  · have hm := Flow.fin_b e hm
    refine nj_seq ?_
    refine cj_seq ?_
    refine cj_reg ?_
    refine lp rfl (p_as rfl) ?_
    refine lj_seq ?_
    obtain rfl := Option.some.inj hm
    exact cj_rt () [] Try.results35 (.tmp rfl .nil) rfl rfl
  · have hRk6 : ∀ t, k6 = .ret t → some t = some r := fun t e => by rw [hX t e] at hm; exact hm
    have hm := hs
    refine cj_seq ?_
    refine cj_reg ?_
    refine lp rfl (p_mv rfl) ?_
    refine lp rfl (p_as rfl) ?_
    refine lj_seq ?_
    refine cj_seq ?_
    refine cj_reg ?_
    refine lp rfl (p_mv rfl) ?_
    refine lp rfl (p_mv rfl) ?_
    refine lp rfl (p_mv rfl) ?_
    refine lp rfl (p_idx Try.underlying22 ty3 rfl rfl (.ro 0 rfl) (getI_nat.trans hx3)) ?_
    refine lp rfl (p_lde (o := 0) ty3 rfl rfl (.ro 0 rfl) hx3 rfl) ?_
    refine lp rfl (p_eql rfl rfl) ?_
    refine lj_seq ?_
    refine cj_if (b := a1 == x2) rfl (fun hb => ?_) (fun hb => ?_)
    · have hm := ifB_t hb hm
      refine cj_seq ?_
      refine cj_reg ?_
      refine lp rfl (p_mv rfl) ?_
      refine lp rfl (p_as rfl) ?_
      refine lj_seq ?_
      have hm := hRk6 _ (Option.some.inj hm).symm
      obtain rfl := Option.some.inj hm
      exact cj_rt () [] Try.results35 (.tmp rfl .nil) rfl rfl
    · have hm := ifB_f hb hm
      refine cj_skip ?_
      refine nj_blk ?_
      exact cnk6 _ _ u4 () (hJk6 _ (Option.some.inj hm).symm) ⟨rfl, rfl, rfl, rfl, rfl, trivial⟩ (fun _ h => h.picks [0] rfl)
theorem ok_slices_Contains_int_int (s0_ : SV) (a0 : (List Int)) (a1 : Int) {r : Bool} (hm : m_slices_Contains_int_int a0 a1 = some r) :
    Ctr Try.prog 25 [s0_.v, .int .i64 a1].toArray ([] : List Ent) [RdS R3 s0_.v a0] (X := Unit) (fun _ => .bool r) (fun _ => []) := by
  unfold m_slices_Contains_int_int at hm
  refine ctr_mk (vs := [(0, s0_.v), (1, .int .i64 a1)]) Try.func25 rfl Try.ntmps25 rfl ⟨rfl, rfl, trivial⟩ (fun w0 A => ?_)
  refine cj_seq ?_
  refine cj_reg ?_
  refine lp rfl (p_as rfl) ?_
  refine lj_seq ?_
  refine cj_seq ?_
  refine cj_reg ?_
  refine lp rfl (p_mv rfl) ?_
  refine lp rfl (p_mv rfl) ?_
  obtain ⟨y1, hy1, hm⟩ := bindS hm
  refine r_call [] cf35 rfl rfl (ok_slices_Index_int_int s0_ a0 a1 hy1) rfl rfl (.cons (.ro 0 rfl) .nil) (fun _ => rfl) rfl (fun _ => ?_)
  refine lp rfl (p_geq rfl rfl) ?_
  refine lp rfl (p_as rfl) ?_
  refine lj_seq ?_
  obtain rfl := Option.some.inj hm
  exact cj_rt () [] Try.results25 (.tmp rfl .nil) rfl rfl
theorem ok_piece_isUnit (a0 : Int) {r : Bool} (hm : m_piece_isUnit a0 = some r) :
    Ctr Try.prog 39 [.int .i64 a0].toArray ([] : List Ent) [] (X := Unit) (fun _ => .bool r) (fun _ => []) := by
  unfold m_piece_isUnit at hm
  refine ctr_mk (vs := [(0, .int .i64 a0)]) Try.func39 rfl Try.ntmps39 rfl ⟨rfl, trivial⟩ (fun w0 A => ?_)
  refine cj_seq ?_
  refine cj_reg ?_
  refine lp rfl (p_as rfl) ?_
  refine lj_seq ?_
  refine cj_seq ?_
  refine cj_reg ?_
  refine r_bs R3 [1, 2, 4, 8, 16] rfl rfl rfl (fun _ => by kernel_rfl) rfl (fun s1 => ?_)
  refine lp rfl (p_mv rfl) ?_
  obtain ⟨y2, hy2, hm⟩ := bindS hm
  refine r_call [] cf25 rfl rfl (ok_slices_Contains_int_int s1 ([1, 2, 4, 8, 16]) a0 hy2) rfl rfl (.cons (.row 0 rfl) .nil) (fun _ => rfl) rfl (fun _ => ?_)
  refine lp rfl (p_as rfl) ?_
  refine lj_seq ?_
  obtain rfl := Option.some.inj hm
  exact cj_rt () [] Try.results39 (.tmp rfl .nil) rfl rfl
theorem ok_piece_barFault (a0 : Bar) {r : Int} (hm : m_piece_barFault a0 = some r) :
    Ctr Try.prog 37 [.agg (R49.enc a0).toArray].toArray ([] : List Ent) [] (X := Unit) (fun _ => .int .i64 r) (fun _ => []) := by
  unfold m_piece_barFault at hm
  refine ctr_mk (vs := [(0, .agg (R49.enc a0).toArray)]) Try.func37 rfl Try.ntmps37 rfl ⟨rfl, trivial⟩ (fun w0 A => ?_)
  refine cj_seq ?_
  refine cj_reg ?_
  refine r_bx (cs := [.int .i64 a0.Beats, .int .i64 a0.Unit, .int .i64 a0.Close, .int .i64 a0.Ending, .bool a0.Open]) rfl rfl rfl (fun b1 => ?_)
  refine lp rfl (p_as rfl) ?_
  refine lj_seq ?_
  refine cj_seq ?_
  refine cj_seq ?_
  refine cj_reg ?_
  obtain ⟨k4, hk4, hm⟩ := bindS hm
  have hRk4 : ∀ t, k4 = .inr t → some t = some r := fun t e => by rw [e] at hm; exact hm
  refine lj_join (σ := Bool) (γ := Unit) (fun u2 => k4 = .inl u2) (fun u2 g3 => [(26, .bool u2), (2, .int .i64 0)]) (fun u2 g3 => Sat w0 (keys ([] : List Ent)) A [.box b1 49 [.int .i64 a0.Beats, .int .i64 a0.Unit, .int .i64 a0.Close, .int .i64 a0.Ending, .bool a0.Open]]) (fun u2 g3 hq => ?_) (fun J cnk4 => ?_)
  · have hm := Sum.fin_l hq hm
    refine cj_if (b := u2) rfl (fun hb => ?_) (fun hb => ?_)
    · have hm := ifB_t hb hm
      refine cj_seq ?_
      refine cj_reg ?_
      refine lp rfl (p_as rfl) ?_
      refine lj_seq ?_
      obtain rfl := Option.some.inj hm
      exact cj_rt () [] Try.results37 (.tmp rfl .nil) rfl rfl
    · have hm := ifB_f hb hm
      refine cj_skip ?_
      refine nj_seq ?_
      refine cj_seq ?_
      refine cj_reg ?_
      refine lp rfl (p_as rfl) ?_
      refine lj_seq ?_
      obtain rfl := Option.some.inj hm
      exact cj_rt () [] Try.results37 (.tmp rfl .nil) rfl rfl
  · have hm := hk4
    refine lp rfl (p_fab fl49_0 rfl) ?_
    refine lp rfl (p_lbs ty3 rfl (j := 0) rfl rfl) ?_
    obtain ⟨y5, hy5, hm⟩ := bindS hm
    refine r_call [] cf38 rfl rfl (ok_kit_Outside a0.Beats 1 16 hy5) rfl rfl .nil (fun _ => rfl) rfl (fun _ => ?_)
    refine lp rfl (p_mv rfl) ?_
    refine lcase (i := 6) y5 rfl (fun hb => ?_) (fun hb => ?_)
    · have hm := ifB_t hb hm
      refine ls false rfl rfl rfl rfl ?_
      refine ls false rfl rfl rfl rfl ?_
      refine ls false rfl rfl rfl rfl ?_
      refine ls false rfl rfl rfl rfl ?_
      refine lp rfl (p_pkt rfl rfl) ?_
      refine lp rfl (p_mv rfl) ?_
      refine ls false rfl rfl rfl rfl ?_
      refine ls false rfl rfl rfl rfl ?_
      refine ls false rfl rfl rfl rfl ?_
      refine ls false rfl rfl rfl rfl ?_
      refine lsu rfl rfl rfl rfl ?_
      refine lsu rfl rfl rfl rfl ?_
      refine lsu rfl rfl rfl rfl ?_
      refine ls false rfl rfl rfl rfl ?_
      refine lp rfl (p_pkt rfl rfl) ?_
      refine lp rfl (p_mv rfl) ?_
      refine ls false rfl rfl rfl rfl ?_
      refine ls false rfl rfl rfl rfl ?_
      refine ls false rfl rfl rfl rfl ?_
      refine lp rfl (p_pkt rfl rfl) ?_
      refine lj_nil ?_
      exact cnk4 _ _ true () (Option.some.inj hm).symm ⟨rfl, rfl, trivial⟩ (fun _ h => h.picks [0] rfl)
    · have hm := ifB_f hb hm
      refine lg false rfl rfl rfl ?_
      refine lp rfl (p_fab fl49_1 rfl) ?_
      refine lg false rfl rfl rfl ?_
      refine lp rfl (p_lbs ty3 rfl (j := 0) rfl rfl) ?_
      refine lg false rfl rfl rfl ?_
      obtain ⟨y6, hy6, hm⟩ := bindS hm
      refine r_call [] cf39 rfl rfl (ok_piece_isUnit a0.Unit hy6) rfl rfl .nil (fun _ => rfl) rfl (fun _ => ?_)
      refine lg false rfl rfl rfl ?_
      refine lp rfl (p_not rfl) ?_
      refine lp rfl (p_pkf rfl rfl) ?_
      refine lp rfl (p_mv rfl) ?_
      refine lcase (i := 12) (!y6) rfl (fun hb => ?_) (fun hb => ?_)
      · have hm := ifB_t hb hm
        refine ls false rfl rfl rfl rfl ?_
        refine ls false rfl rfl rfl rfl ?_
        refine ls false rfl rfl rfl rfl ?_
        refine ls false rfl rfl rfl rfl ?_
        refine lsu rfl rfl rfl rfl ?_
        refine lsu rfl rfl rfl rfl ?_
        refine lsu rfl rfl rfl rfl ?_
        refine ls false rfl rfl rfl rfl ?_
        refine lp rfl (p_pkt rfl rfl) ?_
        refine lp rfl (p_mv rfl) ?_
        refine ls false rfl rfl rfl rfl ?_
        refine ls false rfl rfl rfl rfl ?_
        refine ls false rfl rfl rfl rfl ?_
        refine lp rfl (p_pkt rfl rfl) ?_
        refine lj_nil ?_
        exact cnk4 _ _ true () (Option.some.inj hm).symm ⟨rfl, rfl, trivial⟩ (fun _ h => h.picks [0] rfl)
      · have hm := ifB_f hb hm
        refine lg false rfl rfl rfl ?_
        refine lp rfl (p_fab fl49_2 rfl) ?_
        refine lg false rfl rfl rfl ?_
        refine lp rfl (p_lbs ty3 rfl (j := 0) rfl rfl) ?_
        refine lg false rfl rfl rfl ?_
        refine lp rfl (p_neq rfl rfl) ?_
        refine lg false rfl rfl rfl ?_
        refine lp rfl (p_mv rfl) ?_
        refine lcase (i := 16) (a0.Close != 0) rfl (fun hb => ?_) (fun hb => ?_)
        · have hm := ifB_t hb hm
          refine lg true rfl rfl rfl ?_
          refine lp rfl (p_fab fl49_2 rfl) ?_
          refine lg true rfl rfl rfl ?_
          refine lp rfl (p_lbs ty3 rfl (j := 0) rfl rfl) ?_
          refine lg true rfl rfl rfl ?_
          obtain ⟨y7, hy7, hm⟩ := bindS hm
          refine r_call [] cf38 rfl rfl (ok_kit_Outside a0.Close 2 9 hy7) rfl rfl .nil (fun _ => rfl) rfl (fun _ => ?_)
          refine lg false rfl rfl rfl ?_
          refine lp rfl (p_pkt rfl rfl) ?_
          refine lp rfl (p_pkf rfl rfl) ?_
          refine lp rfl (p_mv rfl) ?_
          refine lcase (i := 22) y7 rfl (fun hb => ?_) (fun hb => ?_)
          · have hm := ifB_t hb hm
            refine ls false rfl rfl rfl rfl ?_
            refine ls false rfl rfl rfl rfl ?_
            refine ls false rfl rfl rfl rfl ?_
            refine lp rfl (p_pkt rfl rfl) ?_
            refine lj_nil ?_
            exact cnk4 _ _ true () (Option.some.inj hm).symm ⟨rfl, rfl, trivial⟩ (fun _ h => h.picks [0] rfl)
          · have hm := ifB_f hb hm
            refine lg false rfl rfl rfl ?_
            refine lp rfl (p_fab fl49_3 rfl) ?_
            refine lg false rfl rfl rfl ?_
            refine lp rfl (p_lbs ty3 rfl (j := 0) rfl rfl) ?_
            refine lg false rfl rfl rfl ?_
            obtain ⟨y8, hy8, hm⟩ := bindS hm
            refine r_call [] cf38 rfl rfl (ok_kit_Outside a0.Ending 0 9 hy8) rfl rfl .nil (fun _ => rfl) rfl (fun _ => ?_)
            refine lp rfl (p_pkf rfl rfl) ?_
            refine lj_nil ?_
            exact cnk4 _ _ y8 () (Option.some.inj hm).symm ⟨rfl, rfl, trivial⟩ (fun _ h => h.picks [0] rfl)
        · have hm := ifB_f hb hm
          refine ls true rfl rfl rfl rfl ?_
          refine ls true rfl rfl rfl rfl ?_
          refine ls true rfl rfl rfl rfl ?_
          refine lg false rfl rfl rfl ?_
          refine lp rfl (p_pkf rfl rfl) ?_
          refine lp rfl (p_pkf rfl rfl) ?_
          refine lp rfl (p_mv rfl) ?_
          refine lg false rfl rfl rfl ?_
          refine lp rfl (p_fab fl49_3 rfl) ?_
          refine lg false rfl rfl rfl ?_
          refine lp rfl (p_lbs ty3 rfl (j := 0) rfl rfl) ?_
          refine lg false rfl rfl rfl ?_
          obtain ⟨y9, hy9, hm⟩ := bindS hm
          refine r_call [] cf38 rfl rfl (ok_kit_Outside a0.Ending 0 9 hy9) rfl rfl .nil (fun _ => rfl) rfl (fun _ => ?_)
          refine lp rfl (p_pkf rfl rfl) ?_
          refine lj_nil ?_
          exact cnk4 _ _ y9 () (Option.some.inj hm).symm ⟨rfl, rfl, trivial⟩ (fun _ h => h.picks [0] rfl)
theorem ok_piece_long (a0 : Bar) {r : Int} (hm : m_piece_long a0 = some r) :
    Ctr Try.prog 22 [.agg (R49.enc a0).toArray].toArray ([] : List Ent) [] (X := Unit) (fun _ => .int .i64 r) (fun _ => []) := by
  unfold m_piece_long at hm
  refine ctr_mk (vs := [(0, .agg (R49.enc a0).toArray)]) Try.func22 rfl Try.ntmps22 rfl ⟨rfl, trivial⟩ (fun w0 A => ?_)
  refine cj_seq ?_
  refine cj_reg ?_
  refine r_bx (cs := [.int .i64 a0.Beats, .int .i64 a0.Unit, .int .i64 a0.Close, .int .i64 a0.Ending, .bool a0.Open]) rfl rfl rfl (fun b1 => ?_)
  refine lp rfl (p_as rfl) ?_
  refine lj_seq ?_
  refine cj_seq ?_
  refine cj_quiet (by kernel_rfl) (by kernel_rfl) ?_
  refine q_p rfl (p_fab fl49_0 rfl) ?_
  refine q_p rfl (p_lbs ty3 rfl (j := 0) rfl rfl) ?_
  refine q_p rfl (p_fab fl49_1 rfl) ?_
  refine q_p rfl (p_lbs ty3 rfl (j := 0) rfl rfl) ?_
  obtain ⟨z2, hz2, hm⟩ := bindS hm
  refine q_p rfl (p_quoM hz2 rfl rfl) ?_
  refine q_p rfl (p_mul rfl rfl) ?_
  refine q_p rfl (p_as rfl) ?_
  refine q_nil ?_
  refine nj_seq ?_
  obtain rfl := Option.some.inj hm
  exact cj_rt () [] Try.results22 (.tmp rfl .nil) rfl rfl
theorem ok_piece_fraction (a0 : Int) {r : Fraction} (hm : m_piece_fraction a0 = some r) :
    Ctr Try.prog 23 [.int .i64 a0].toArray ([] : List Ent) [] (X := Unit) (fun _ => .agg (R33.enc r).toArray) (fun _ => []) := by
  unfold m_piece_fraction at hm
  refine ctr_mk (vs := [(0, .int .i64 a0)]) Try.func23 rfl Try.ntmps23 rfl ⟨rfl, trivial⟩ (fun w0 A => ?_)
  refine cj_seq ?_
  refine cj_reg ?_
  refine r_al ty33 rfl (fun b1 => ?_)
  refine lj_seq ?_
  refine cj_seq ?_
  refine cj_reg ?_
  refine lp rfl (p_mv rfl) ?_
  obtain ⟨y2, hy2, hm⟩ := bindS hm
  refine r_call [] cf34 rfl rfl (ok_kit_Lowest a0 192 hy2) rfl rfl .nil (fun _ => rfl) rfl (fun _ => ?_)
  refine r_sb (vs := [.int .i64 y2.Num, .int .i64 y2.Den]) (j := 0) ty33 rfl rfl rfl rfl rfl rfl rfl ?_
  refine lj_seq ?_
  obtain rfl := Option.some.inj hm
  exact cj_rt () [] Try.results23 (.agg (k := 0) ty33 rfl rfl rfl .nil) rfl rfl
theorem ok_gleeref2_barUnits (a0 : Bar) {r : Int} (hm : m_gleeref2_barUnits a0 = some r) :
    Ctr Try.prog 26 [.agg (R49.enc a0).toArray].toArray ([] : List Ent) [] (X := Unit) (fun _ => .int .i64 r) (fun _ => []) := by
  unfold m_gleeref2_barUnits at hm
  refine ctr_mk (vs := [(0, .agg (R49.enc a0).toArray)]) Try.func26 rfl Try.ntmps26 rfl ⟨rfl, trivial⟩ (fun w0 A => ?_)
  refine cj_seq ?_
  refine cj_reg ?_
  refine r_bx (cs := [.int .i64 a0.Beats, .int .i64 a0.Unit, .int .i64 a0.Close, .int .i64 a0.Ending, .bool a0.Open]) rfl rfl rfl (fun b1 => ?_)
  refine lp rfl (p_as rfl) ?_
  refine lj_seq ?_
  refine cj_seq ?_
  refine cj_reg ?_
  refine lp rfl (p_fab fl49_0 rfl) ?_
  refine lp rfl (p_lbs ty3 rfl (j := 0) rfl rfl) ?_
  refine lp rfl (p_mul rfl rfl) ?_
  refine lp rfl (p_fab fl49_1 rfl) ?_
  refine lp rfl (p_lbs ty3 rfl (j := 0) rfl rfl) ?_
  obtain ⟨z2, hz2, hm⟩ := bindS hm
  refine lp rfl (p_quoM hz2 rfl rfl) ?_
  refine lp rfl (p_as rfl) ?_
  refine lj_seq ?_
  obtain rfl := Option.some.inj hm
  exact cj_rt () [] Try.results26 (.tmp rfl .nil) rfl rfl
theorem ok_gleeref2_Lowest (a0 : Int) (a1 : Int) {r : Fraction} (hm : m_gleeref2_Lowest a0 a1 = some r) :
    Ctr Try.prog 27 [.int .i64 a0, .int .i64 a1].toArray ([] : List Ent) [] (X := Unit) (fun _ => .agg (R33.enc r).toArray) (fun _ => []) := by
  unfold m_gleeref2_Lowest at hm
  refine ctr_mk (vs := [(0, .int .i64 a0), (1, .int .i64 a1)]) Try.func27 rfl Try.ntmps27 rfl ⟨rfl, rfl, trivial⟩ (fun w0 A => ?_)
  refine cj_seq ?_
  refine cj_reg ?_
  refine r_al ty33 rfl (fun b1 => ?_)
  refine lj_seq ?_
  refine cj_seq ?_
  refine cj_reg ?_
  refine lp rfl (p_mv rfl) ?_
  refine lp rfl (p_mv rfl) ?_
  obtain ⟨y2, hy2, hm⟩ := bindS hm
  refine r_call [] cf36 rfl rfl (ok_gleeref2_divisor a0 a1 hy2) rfl rfl .nil (fun _ => rfl) rfl (fun _ => ?_)
  refine lp rfl (p_as rfl) ?_
  refine lj_seq ?_
  refine cj_seq ?_
  refine cj_tail 7 (by kernel_rfl) (by kernel_rfl) ?_
  refine s_p rfl (p_mv rfl) ?_
  refine s_p rfl (p_mv rfl) ?_
  obtain ⟨z3, hz3, hm⟩ := bindS hm
  refine s_p rfl (p_quoM hz3 rfl rfl) ?_
  refine s_p rfl (p_mv rfl) ?_
  refine s_p rfl (p_mv rfl) ?_
  obtain ⟨z4, hz4, hm⟩ := bindS hm
  refine s_p rfl (p_quoM hz4 rfl rfl) ?_
  refine s_p rfl (p_bld [.int .i64 z3, .int .i64 z4] rfl (fun _ => by kernel_rfl)) ?_
  refine s_nil ?_
  refine r_sb (vs := [.int .i64 z3, .int .i64 z4]) (j := 0) ty33 rfl rfl rfl rfl rfl rfl rfl ?_
  refine lj_seq ?_
  obtain rfl := Option.some.inj hm
  exact cj_rt () [] Try.results27 (.agg (k := 0) ty33 rfl rfl rfl .nil) rfl rfl
theorem ok_piece_rulesFault (s0_ : SV) (a0 : (List Bar)) {r : Int} (hm : m_piece_rulesFault a0 = some r) :
    Ctr Try.prog 28 [s0_.v].toArray ([] : List Ent) [RdS R49 s0_.v a0] (X := Unit) (fun _ => .int .i64 r) (fun _ => []) := by
  unfold m_piece_rulesFault at hm
  refine ctr_mk (vs := [(0, s0_.v)]) Try.func28 rfl Try.ntmps28 rfl ⟨rfl, trivial⟩ (fun w0 A => ?_)
  refine cj_seq ?_
  refine cj_reg ?_
  refine lp rfl (p_as rfl) ?_
  refine lj_seq ?_
  refine cj_seq ?_
  refine cj_reg ?_
  refine lp rfl (p_as rfl) ?_
  refine lj_seq ?_
  refine cj_seq ?_
  refine cj_seq ?_
  refine cj_reg ?_
  refine lp rfl (p_mv rfl) ?_
  refine lp rfl (p_len Try.underlying26 rfl (.ro 0 rfl)) ?_
  refine lp rfl (p_mv rfl) ?_
  refine lj_seq ?_
  obtain ⟨f7, hf7, hm⟩ := bindS hm
  refine cj_range (γ := Unit) (m := (a0.length : Int)) hf7 () (fun u4 g5 => [(0, s0_.v), (2, .int .i64 u4.1), (3, .bool u4.2), (7, s0_.v)]) (fun u4 g5 => Sat w0 (keys ([] : List Ent)) A [.ro (RdS R49 (SV.v s0_) a0)]) ⟨rfl, rfl, rfl, rfl, rfl, rfl, trivial⟩ (fun _ h => h.picks [0] rfl) (nat_lt _) (fun _ h => (FactAt.get (.ro 0 rfl) h).1) (fun _ _ => ⟨rfl, rfl, rfl, rfl⟩) ⟨rfl, rfl, rfl, rfl, rfl⟩ rfl rfl rfl (fun u4 g5 e => ?_) (fun aftk6 i1 x2 u4 g5 k6 hx3 hs J hJk6 hBk6 hX I cnk6 => ?_)
  · have hm := Flow.fin_b e hm
    refine nj_seq ?_
    refine cj_seq ?_
    refine cj_reg ?_
    refine lp rfl (p_as rfl) ?_
    refine lj_seq ?_
    obtain rfl := Option.some.inj hm
    exact cj_rt () [] Try.results28 (.tmp rfl .nil) rfl rfl
  · have hRk6 : ∀ t, k6 = .ret t → some t = some r := fun t e => by rw [hX t e] at hm; exact hm
    have hm := hs
    refine cj_seq ?_
    refine cj_reg ?_
    refine lp rfl (p_mv rfl) ?_
    refine lp rfl (p_idx Try.underlying26 ty49 rfl rfl (.ro 0 rfl) (getI_nat.trans hx3)) ?_
    refine lp rfl (p_lea ty49 rfl (.ro 0 rfl) hx3) ?_
    refine r_al ty49 rfl (fun b8 => ?_)
    refine lp rfl (p_as rfl) ?_
    refine r_sb (vs := [.int .i64 x2.Beats, .int .i64 x2.Unit, .int .i64 x2.Close, .int .i64 x2.Ending, .bool x2.Open]) (j := 0) ty49 rfl rfl rfl rfl rfl rfl rfl ?_
    refine lj_seq ?_
    refine cj_seq ?_
    refine cj_seq ?_
    refine cj_reg ?_
    refine lp rfl (p_lbw ty49 rfl (j := 0) rfl rfl) ?_
    obtain ⟨y9, hy9, hm⟩ := bindS hm
    refine r_call [] cf37 rfl rfl (ok_piece_barFault x2 hy9) rfl rfl .nil (fun _ => rfl) rfl (fun _ => ?_)
    refine lp rfl (p_as rfl) ?_
    refine lj_seq ?_
    refine cj_seq ?_
    refine cj_reg ?_
    refine lp rfl (p_mv rfl) ?_
    refine lp rfl (p_neq rfl rfl) ?_
    refine lj_seq ?_
    refine cj_if (b := y9 != 0) rfl (fun hb => ?_) (fun hb => ?_)
    · have hm := ifB_t hb hm
      refine cj_seq ?_
      refine cj_reg ?_
      refine lp rfl (p_mv rfl) ?_
      refine lp rfl (p_as rfl) ?_
      refine lj_seq ?_
      have hm := hRk6 _ (Option.some.inj hm).symm
      obtain rfl := Option.some.inj hm
      exact cj_rt () [] Try.results28 (.tmp rfl .nil) rfl rfl
    · have hm := ifB_f hb hm
      refine cj_skip ?_
      refine nj_seq ?_
      refine cj_seq ?_
      refine cj_blk ?_
      refine cj_seq ?_
      refine cj_reg ?_
      obtain ⟨k12, hk12, hm⟩ := bindS hm
      have hRk12 : ∀ t, k12 = .inr t → some t = some k6 := fun t e => by rw [e] at hm; exact hm
      refine lj_join (σ := Bool) (γ := Unit) (fun u10 => k12 = .inl u10) (fun u10 g11 => [(0, s0_.v), (2, .int .i64 u4.1), (3, .bool u4.2), (4, .int .i64 (i1 : Int)), (5, .pointer (some ⟨b8, 0, none⟩)), (7, s0_.v), (8, .int .i64 (a0.length : Int)), (9, .int .i64 (i1 : Int)), (19, .bool u10)]) (fun u10 g11 => Sat w0 (keys ([] : List Ent)) A [.box b8 49 [.int .i64 x2.Beats, .int .i64 x2.Unit, .int .i64 x2.Close, .int .i64 x2.Ending, .bool x2.Open], .ro (RdS R49 (SV.v s0_) a0)]) (fun u10 g11 hq => ?_) (fun J cnk12 => ?_)
      · have hm := Sum.fin_l hq hm
        refine cj_if (b := u10) rfl (fun hb => ?_) (fun hb => ?_)
        · have hm := ifB_t hb hm
          refine cj_seq ?_
          refine cj_reg ?_
          refine lp rfl (p_as rfl) ?_
          refine lj_seq ?_
          have hm := hRk6 _ (Option.some.inj hm).symm
          obtain rfl := Option.some.inj hm
          exact cj_rt () [] Try.results28 (.tmp rfl .nil) rfl rfl
        · have hm := ifB_f hb hm
          refine cj_seq ?_
          refine cj_reg ?_
          obtain ⟨k15, hk15, hm⟩ := bindS hm
          have hRk15 : ∀ t, k15 = .inr t → some t = some k6 := fun t e => by rw [e] at hm; exact hm
          refine lj_join (σ := Bool) (γ := Unit) (fun u13 => k15 = .inl u13) (fun u13 g14 => [(0, s0_.v), (3, .bool u4.2), (4, .int .i64 (i1 : Int)), (5, .pointer (some ⟨b8, 0, none⟩)), (2, .int .i64 u4.1), (7, s0_.v), (8, .int .i64 (a0.length : Int)), (9, .int .i64 (i1 : Int)), (25, .bool u13)]) (fun u13 g14 => Sat w0 (keys ([] : List Ent)) A [.box b8 49 [.int .i64 x2.Beats, .int .i64 x2.Unit, .int .i64 x2.Close, .int .i64 x2.Ending, .bool x2.Open], .ro (RdS R49 (SV.v s0_) a0)]) (fun u13 g14 hq => ?_) (fun J cnk15 => ?_)
          · have hm := Sum.fin_l hq hm
            refine cj_if (b := u13) rfl (fun hb => ?_) (fun hb => ?_)
            · have hm := ifB_t hb hm
              refine cj_seq ?_
              refine cj_reg ?_
              refine lp rfl (p_as rfl) ?_
              refine lj_seq ?_
              have hm := hRk6 _ (Option.some.inj hm).symm
              obtain rfl := Option.some.inj hm
              exact cj_rt () [] Try.results28 (.tmp rfl .nil) rfl rfl
            · have hm := ifB_f hb hm
              refine cj_seq ?_
              refine cj_quiet (by kernel_rfl) (by kernel_rfl) ?_
              refine q_p rfl (p_mv rfl) ?_
              refine q_p rfl (p_mv rfl) ?_
              refine q_case (i := 45) u4.2 rfl (fun hb => ?_) (fun hb => ?_)
              · have hm := ifB_t hb hm
                refine q_g true rfl rfl rfl ?_
                refine q_p rfl (p_fab fl49_3 rfl) ?_
                refine q_g true rfl rfl rfl ?_
                refine q_p rfl (p_lbs ty3 rfl (j := 0) rfl rfl) ?_
                refine q_g true rfl rfl rfl ?_
                refine q_p rfl (p_mv rfl) ?_
                refine q_g true rfl rfl rfl ?_
                refine q_p rfl (p_mv rfl) ?_
                refine q_g true rfl rfl rfl ?_
                refine q_p rfl (p_sub rfl rfl) ?_
                refine q_g true rfl rfl rfl ?_
                obtain ⟨e16, he16, hm⟩ := bindS hm
                refine q_p rfl (p_idx Try.underlying26 ty49 rfl rfl (.ro 1 rfl) he16) ?_
                refine q_g true rfl rfl rfl ?_
                refine q_p rfl (p_fae fl49_3 rfl (.ro 1 rfl) (getI_spec he16).2) ?_
                refine q_g true rfl rfl rfl ?_
                refine q_p rfl (p_lde (o := 3) ty3 rfl rfl (.ro 1 rfl) (getI_spec he16).2 rfl) ?_
                refine q_g true rfl rfl rfl ?_
                refine q_p rfl (p_lss rfl rfl) ?_
                refine q_p rfl (p_pkt rfl rfl) ?_
                refine q_p rfl (p_as rfl) ?_
                refine q_nil ?_
                refine nj_seq ?_
                refine cj_if (b := decide (x2.Ending < e16.Ending)) rfl (fun hb => ?_) (fun hb => ?_)
                · have hm := ifB_t hb hm
                  refine cj_seq ?_
                  refine cj_reg ?_
                  refine lp rfl (p_as rfl) ?_
                  refine lj_seq ?_
                  have hm := hRk6 _ (Option.some.inj hm).symm
                  obtain rfl := Option.some.inj hm
                  exact cj_rt () [] Try.results28 (.tmp rfl .nil) rfl rfl
                · have hm := ifB_f hb hm
                  refine cj_skip ?_
                  refine nj_blk ?_
                  refine nj_seq ?_
                  refine cj_reg ?_
                  refine lp rfl (p_mv rfl) ?_
                  refine lp rfl (p_mv rfl) ?_
                  refine lcase (i := 57) u4.2 rfl (fun hb => ?_) (fun hb => ?_)
                  · have hm := ifB_t hb hm
                    refine ls false rfl rfl rfl rfl ?_
                    refine ls false rfl rfl rfl rfl ?_
                    refine lp rfl (p_pkt rfl rfl) ?_
                    refine lp rfl (p_mv rfl) ?_
                    refine lg true rfl rfl rfl ?_
                    refine lp rfl (p_fab fl49_2 rfl) ?_
                    refine lg true rfl rfl rfl ?_
                    refine lp rfl (p_lbs ty3 rfl (j := 0) rfl rfl) ?_
                    refine lg true rfl rfl rfl ?_
                    refine lp rfl (p_eql rfl rfl) ?_
                    refine lp rfl (p_pkt rfl rfl) ?_
                    refine lp rfl (p_as rfl) ?_
                    refine lj_nil ?_
                    refine nj_blk ?_
                    exact cnk6 _ _ (u4.1, x2.Close == 0) () (hJk6 _ (Option.some.inj hm).symm) ⟨rfl, rfl, rfl, rfl, rfl, rfl, trivial⟩ (fun _ h => h.picks [1] rfl)
                  · have hm := ifB_f hb hm
                    refine lg false rfl rfl rfl ?_
                    refine lp rfl (p_fab fl49_4 rfl) ?_
                    refine lg false rfl rfl rfl ?_
                    refine lp rfl (p_lbs ty4 rfl (j := 0) rfl rfl) ?_
                    refine lp rfl (p_pkf rfl rfl) ?_
                    refine lp rfl (p_mv rfl) ?_
                    refine lcase (i := 61) x2.Open rfl (fun hb => ?_) (fun hb => ?_)
                    · have hm := ifB_t hb hm
                      refine lg true rfl rfl rfl ?_
                      refine lp rfl (p_fab fl49_2 rfl) ?_
                      refine lg true rfl rfl rfl ?_
                      refine lp rfl (p_lbs ty3 rfl (j := 0) rfl rfl) ?_
                      refine lg true rfl rfl rfl ?_
                      refine lp rfl (p_eql rfl rfl) ?_
                      refine lp rfl (p_pkt rfl rfl) ?_
                      refine lp rfl (p_as rfl) ?_
                      refine lj_nil ?_
                      refine nj_blk ?_
                      exact cnk6 _ _ (u4.1, x2.Close == 0) () (hJk6 _ (Option.some.inj hm).symm) ⟨rfl, rfl, rfl, rfl, rfl, rfl, trivial⟩ (fun _ h => h.picks [1] rfl)
                    · have hm := ifB_f hb hm
                      refine ls true rfl rfl rfl rfl ?_
                      refine ls true rfl rfl rfl rfl ?_
                      refine ls true rfl rfl rfl rfl ?_
                      refine lp rfl (p_pkf rfl rfl) ?_
                      refine lp rfl (p_as rfl) ?_
                      refine lj_nil ?_
                      refine nj_blk ?_
                      exact cnk6 _ _ (u4.1, false) () (hJk6 _ (Option.some.inj hm).symm) ⟨rfl, rfl, rfl, rfl, rfl, rfl, trivial⟩ (fun _ h => h.picks [1] rfl)
              · have hm := ifB_f hb hm
                refine q_s true rfl rfl rfl rfl ?_
                refine q_s true rfl rfl rfl rfl ?_
                refine q_s true rfl rfl rfl rfl ?_
                refine q_s true rfl rfl rfl rfl ?_
                refine q_s true rfl rfl rfl rfl ?_
                refine q_s true rfl rfl rfl rfl ?_
                refine q_s true rfl rfl rfl rfl ?_
                refine q_s true rfl rfl rfl rfl ?_
                refine q_s true rfl rfl rfl rfl ?_
                refine q_p rfl (p_pkf rfl rfl) ?_
                refine q_p rfl (p_as rfl) ?_
                refine q_nil ?_
                refine nj_seq ?_
                refine cj_if_f rfl ?_
                refine cj_skip ?_
                refine nj_blk ?_
                refine nj_seq ?_
                refine cj_reg ?_
                refine lp rfl (p_mv rfl) ?_
                refine lp rfl (p_mv rfl) ?_
                refine lcase (i := 57) u4.2 rfl (fun hb => ?_) (fun hb => ?_)
                · have hm := ifB_t hb hm
                  refine ls false rfl rfl rfl rfl ?_
                  refine ls false rfl rfl rfl rfl ?_
                  refine lp rfl (p_pkt rfl rfl) ?_
                  refine lp rfl (p_mv rfl) ?_
                  refine lg true rfl rfl rfl ?_
                  refine lp rfl (p_fab fl49_2 rfl) ?_
                  refine lg true rfl rfl rfl ?_
                  refine lp rfl (p_lbs ty3 rfl (j := 0) rfl rfl) ?_
                  refine lg true rfl rfl rfl ?_
                  refine lp rfl (p_eql rfl rfl) ?_
                  refine lp rfl (p_pkt rfl rfl) ?_
                  refine lp rfl (p_as rfl) ?_
                  refine lj_nil ?_
                  refine nj_blk ?_
                  exact cnk6 _ _ (u4.1, x2.Close == 0) () (hJk6 _ (Option.some.inj hm).symm) ⟨rfl, rfl, rfl, rfl, rfl, rfl, trivial⟩ (fun _ h => h.picks [1] rfl)
                · have hm := ifB_f hb hm
                  refine lg false rfl rfl rfl ?_
                  refine lp rfl (p_fab fl49_4 rfl) ?_
                  refine lg false rfl rfl rfl ?_
                  refine lp rfl (p_lbs ty4 rfl (j := 0) rfl rfl) ?_
                  refine lp rfl (p_pkf rfl rfl) ?_
                  refine lp rfl (p_mv rfl) ?_
                  refine lcase (i := 61) x2.Open rfl (fun hb => ?_) (fun hb => ?_)
                  · have hm := ifB_t hb hm
                    refine lg true rfl rfl rfl ?_
                    refine lp rfl (p_fab fl49_2 rfl) ?_
                    refine lg true rfl rfl rfl ?_
                    refine lp rfl (p_lbs ty3 rfl (j := 0) rfl rfl) ?_
                    refine lg true rfl rfl rfl ?_
                    refine lp rfl (p_eql rfl rfl) ?_
                    refine lp rfl (p_pkt rfl rfl) ?_
                    refine lp rfl (p_as rfl) ?_
                    refine lj_nil ?_
                    refine nj_blk ?_
                    exact cnk6 _ _ (u4.1, x2.Close == 0) () (hJk6 _ (Option.some.inj hm).symm) ⟨rfl, rfl, rfl, rfl, rfl, rfl, trivial⟩ (fun _ h => h.picks [1] rfl)
                  · have hm := ifB_f hb hm
                    refine ls true rfl rfl rfl rfl ?_
                    refine ls true rfl rfl rfl rfl ?_
                    refine ls true rfl rfl rfl rfl ?_
                    refine lp rfl (p_pkf rfl rfl) ?_
                    refine lp rfl (p_as rfl) ?_
                    refine lj_nil ?_
                    refine nj_blk ?_
                    exact cnk6 _ _ (u4.1, false) () (hJk6 _ (Option.some.inj hm).symm) ⟨rfl, rfl, rfl, rfl, rfl, rfl, trivial⟩ (fun _ h => h.picks [1] rfl)
          · have hm := hk15
            refine lp rfl (p_fab fl49_4 rfl) ?_
            refine lp rfl (p_lbs ty4 rfl (j := 0) rfl rfl) ?_
            refine lp rfl (p_not rfl) ?_
            refine lp rfl (p_mv rfl) ?_
            refine lcase (i := 29) (!x2.Open) rfl (fun hb => ?_) (fun hb => ?_)
            · have hm := ifB_t hb hm
              refine lg true rfl rfl rfl ?_
              refine lp rfl (p_mv rfl) ?_
              refine lg true rfl rfl rfl ?_
              refine lp rfl (p_not rfl) ?_
              refine lp rfl (p_pkt rfl rfl) ?_
              refine lp rfl (p_mv rfl) ?_
              refine lcase (i := 33) (!u4.2) rfl (fun hb => ?_) (fun hb => ?_)
              · have hm := ifB_t hb hm
                refine lg true rfl rfl rfl ?_
                refine lp rfl (p_fab fl49_2 rfl) ?_
                refine lg true rfl rfl rfl ?_
                refine lp rfl (p_lbs ty3 rfl (j := 0) rfl rfl) ?_
                refine lg true rfl rfl rfl ?_
                refine lp rfl (p_neq rfl rfl) ?_
                refine lg true rfl rfl rfl ?_
                refine lp rfl (p_mv rfl) ?_
                refine lcase (i := 37) (x2.Close != 0) rfl (fun hb => ?_) (fun hb => ?_)
                · have hm := ifB_t hb hm
                  refine ls false rfl rfl rfl rfl ?_
                  refine ls false rfl rfl rfl rfl ?_
                  refine ls false rfl rfl rfl rfl ?_
                  refine lg true rfl rfl rfl ?_
                  refine lp rfl (p_pkt rfl rfl) ?_
                  refine lp rfl (p_pkt rfl rfl) ?_
                  refine lp rfl (p_as rfl) ?_
                  refine lj_nil ?_
                  exact cnk15 _ _ true () (Option.some.inj hm).symm ⟨rfl, rfl, rfl, rfl, rfl, rfl, rfl, rfl, rfl, trivial⟩ (fun _ h => h.picks [0, 0] rfl)
                · have hm := ifB_f hb hm
                  refine lg false rfl rfl rfl ?_
                  refine lp rfl (p_fab fl49_3 rfl) ?_
                  refine lg false rfl rfl rfl ?_
                  refine lp rfl (p_lbs ty3 rfl (j := 0) rfl rfl) ?_
                  refine lg false rfl rfl rfl ?_
                  refine lp rfl (p_neq rfl rfl) ?_
                  refine lg true rfl rfl rfl ?_
                  refine lp rfl (p_pkf rfl rfl) ?_
                  refine lp rfl (p_pkt rfl rfl) ?_
                  refine lp rfl (p_as rfl) ?_
                  refine lj_nil ?_
                  exact cnk15 _ _ (x2.Ending != 0) () (Option.some.inj hm).symm ⟨rfl, rfl, rfl, rfl, rfl, rfl, rfl, rfl, rfl, trivial⟩ (fun _ h => h.picks [0, 0] rfl)
              · have hm := ifB_f hb hm
                refine ls true rfl rfl rfl rfl ?_
                refine ls true rfl rfl rfl rfl ?_
                refine ls true rfl rfl rfl rfl ?_
                refine ls true rfl rfl rfl rfl ?_
                refine lsu rfl rfl rfl rfl ?_
                refine lsu rfl rfl rfl rfl ?_
                refine lsu rfl rfl rfl rfl ?_
                refine ls true rfl rfl rfl rfl ?_
                refine lp rfl (p_pkf rfl rfl) ?_
                refine lp rfl (p_as rfl) ?_
                refine lj_nil ?_
                exact cnk15 _ _ false () (Option.some.inj hm).symm ⟨rfl, rfl, rfl, rfl, rfl, rfl, rfl, rfl, rfl, trivial⟩ (fun _ h => h.picks [0, 0] rfl)
            · have hm := ifB_f hb hm
              refine ls true rfl rfl rfl rfl ?_
              refine ls true rfl rfl rfl rfl ?_
              refine lp rfl (p_pkf rfl rfl) ?_
              refine lp rfl (p_mv rfl) ?_
              refine ls true rfl rfl rfl rfl ?_
              refine ls true rfl rfl rfl rfl ?_
              refine ls true rfl rfl rfl rfl ?_
              refine ls true rfl rfl rfl rfl ?_
              refine lsu rfl rfl rfl rfl ?_
              refine lsu rfl rfl rfl rfl ?_
              refine lsu rfl rfl rfl rfl ?_
              refine ls true rfl rfl rfl rfl ?_
              refine lp rfl (p_pkf rfl rfl) ?_
              refine lp rfl (p_as rfl) ?_
              refine lj_nil ?_
              exact cnk15 _ _ false () (Option.some.inj hm).symm ⟨rfl, rfl, rfl, rfl, rfl, rfl, rfl, rfl, rfl, trivial⟩ (fun _ h => h.picks [0, 0] rfl)
      · have hm := hk12
        refine lp rfl (p_fab fl49_4 rfl) ?_
        refine lp rfl (p_lbs ty4 rfl (j := 0) rfl rfl) ?_
        refine lp rfl (p_mv rfl) ?_
        refine lcase (i := 22) x2.Open rfl (fun hb => ?_) (fun hb => ?_)
        · have hm := ifB_t hb hm
          refine lg true rfl rfl rfl ?_
          refine lp rfl (p_mv rfl) ?_
          refine lp rfl (p_pkt rfl rfl) ?_
          refine lp rfl (p_as rfl) ?_
          refine lj_nil ?_
          exact cnk12 _ _ u4.2 () (Option.some.inj hm).symm ⟨rfl, rfl, rfl, rfl, rfl, rfl, rfl, rfl, rfl, trivial⟩ (fun _ h => h.picks [0, 0] rfl)
        · have hm := ifB_f hb hm
          refine ls true rfl rfl rfl rfl ?_
          refine lp rfl (p_pkf rfl rfl) ?_
          refine lp rfl (p_as rfl) ?_
          refine lj_nil ?_
          exact cnk12 _ _ false () (Option.some.inj hm).symm ⟨rfl, rfl, rfl, rfl, rfl, rfl, rfl, rfl, rfl, trivial⟩ (fun _ h => h.picks [0, 0] rfl)
theorem ok_piece_repeats (s0_ : SV) (a0 : (List Bar)) {r : (List piece_repeat) × Bool} (hm : m_piece_repeats a0 = some r) :
    Ctr Try.prog 29 [s0_.v].toArray ([] : List Ent) [RdS R49 s0_.v a0] (X := SV) (fun s => .tuple [s.v, .bool r.2].toArray) (fun s => [.row R66 s.v r.1]) := by
  unfold m_piece_repeats at hm
  refine ctr_mk (vs := [(0, s0_.v)]) Try.func29 rfl Try.ntmps29 rfl ⟨rfl, trivial⟩ (fun w0 A => ?_)
  refine cj_seq ?_
  refine cj_reg ?_
  refine lp rfl (p_as rfl) ?_
  refine lp rfl (p_as rfl) ?_
  refine lj_seq ?_
  refine cj_seq ?_
  refine cj_reg ?_
  refine lp rfl (p_as rfl) ?_
  refine lj_seq ?_
  refine cj_seq ?_
  refine cj_reg ?_
  refine lp rfl (p_as rfl) ?_
  refine lj_seq ?_
  refine cj_seq ?_
  refine cj_seq ?_
  refine cj_reg ?_
  refine lp rfl (p_mv rfl) ?_
  refine lp rfl (p_len Try.underlying26 rfl (.ro 0 rfl)) ?_
  refine lp rfl (p_mv rfl) ?_
  refine lj_seq ?_
  refine cj_nil R66 ?_
  obtain ⟨f8, hf8, hm⟩ := bindS hm
  refine cj_range (γ := SV) (m := (a0.length : Int)) hf8 nilS (fun u5 g6 => [(0, s0_.v), (2, .slice none 0 0), (3, .bool false), (4, g6.v), (5, .int .i64 u5.1), (12, s0_.v)]) (fun u5 g6 => Sat w0 (keys ([] : List Ent)) A [.row R66 (SV.v g6) u5.2, .ro (RdS R49 (SV.v s0_) a0)]) ⟨rfl, rfl, rfl, rfl, rfl, rfl, rfl, rfl, trivial⟩ (fun _ h => h.picks [0, 0] rfl) (nat_lt _) (fun _ h => (FactAt.get (.ro 1 rfl) h).1) (fun _ _ => ⟨rfl, rfl, rfl, rfl⟩) ⟨rfl, rfl, rfl, rfl, rfl⟩ rfl rfl rfl (fun u5 g6 e => ?_) (fun aftk7 i1 x2 u5 g6 k7 hx3 hs J hJk7 hBk7 hX I cnk7 => ?_)
  · have hm := Flow.fin_b e hm
    refine nj_seq ?_
    refine cj_seq ?_
    refine cj_seq ?_
    refine cj_reg ?_
    refine lp rfl (p_mv rfl) ?_
    refine lp rfl (p_len Try.underlying58 rfl (.row 0 rfl)) ?_
    refine lp rfl (p_mv rfl) ?_
    refine lj_seq ?_
    refine cj_nil R66 ?_
    obtain ⟨f26, hf26, hm⟩ := bindS hm
    refine cj_range (γ := SV) (m := (u5.2.length : Int)) hf26 nilS (fun u23 g24 => [(0, s0_.v), (2, g24.v), (3, .bool u23.1), (4, g6.v), (5, .int .i64 u5.1), (44, g6.v)]) (fun u23 g24 => Sat w0 (keys ([] : List Ent)) A [.row R66 (SV.v g24) u23.2, .row R66 (SV.v g6) u5.2, .ro (RdS R49 (SV.v s0_) a0)]) ⟨rfl, rfl, rfl, rfl, rfl, rfl, rfl, rfl, trivial⟩ (fun _ h => h.picks [0, 0, 0] rfl) (nat_lt _) (fun _ h => (FactAt.get (.row 1 rfl) h).1) (fun _ _ => ⟨rfl, rfl, rfl, rfl⟩) ⟨rfl, rfl, rfl, rfl, rfl⟩ rfl rfl rfl (fun u23 g24 e => ?_) (fun aftk25 i19 x20 u23 g24 k25 hx21 hs J hJk25 hBk25 hX I cnk25 => ?_)
    · have hm := Flow.fin_b e hm
      refine nj_seq ?_
      refine cj_seq ?_
      refine cj_reg ?_
      refine lp rfl (p_mv rfl) ?_
      refine lp rfl (p_mv rfl) ?_
      refine lp rfl (p_lss rfl rfl) ?_
      refine lp rfl (p_as rfl) ?_
      refine lp rfl (p_as rfl) ?_
      refine lj_seq ?_
      obtain rfl := Option.some.inj hm
      exact cj_rt g6 [1] Try.results29 (.tmp rfl (.tmp rfl .nil)) rfl rfl
    · have hRk25 : ∀ t, k25 = .ret t → some t = some r := fun t e => by rw [hX t e] at hm; exact hm
      have hm := hs
      refine cj_seq ?_
      refine cj_reg ?_
      refine lp rfl (p_idx Try.underlying58 ty66 rfl rfl (.row 1 rfl) (getI_nat.trans hx21)) ?_
      refine lp rfl (p_lea ty66 rfl (.row 1 rfl) hx21) ?_
      refine r_al ty66 rfl (fun b27 => ?_)
      refine r_sb (vs := [.int .i64 x20.from_, .int .i64 x20.to_, .int .i64 x20.times]) (j := 0) ty66 rfl rfl rfl rfl rfl rfl rfl ?_
      refine lj_seq ?_
      refine cj_seq ?_
      refine cj_reg ?_
      refine lp rfl (p_mv rfl) ?_
      refine lp rfl (p_fab fl66_0 rfl) ?_
      refine lp rfl (p_lbs ty3 rfl (j := 0) rfl rfl) ?_
      refine lp rfl (p_fab fl66_1 rfl) ?_
      refine lp rfl (p_lbs ty3 rfl (j := 0) rfl rfl) ?_
      obtain ⟨q28, hq28, hm⟩ := bindS hm
      refine r_cut (k := 3) Try.underlying26 ty49 rfl rfl rfl rfl rfl rfl hq28 rfl (fun s29 => ?_)
      refine lp rfl (p_len Try.underlying26 rfl (.ro 0 rfl)) ?_
      refine lp rfl (p_mv rfl) ?_
      refine lj_seq ?_
      obtain ⟨f36, hf36, hm⟩ := bindS hm
      refine cj_range (γ := SV) (m := (q28.length : Int)) hf36 g24 (fun u33 g34 => [(0, s0_.v), (2, g34.v), (3, .bool u33.1), (4, g6.v), (5, .int .i64 u5.1), (9, .pointer (some ⟨b27, 0, none⟩)), (44, g6.v), (45, .int .i64 (u5.2.length : Int)), (46, .int .i64 (i19 : Int)), (55, s29.v)]) (fun u33 g34 => Sat w0 (keys ([] : List Ent)) A [.ro (RdS R49 (SV.v s29) q28), .box b27 66 [.int .i64 x20.from_, .int .i64 x20.to_, .int .i64 x20.times], .row R66 (SV.v g34) u33.2, .row R66 (SV.v g6) u5.2, .ro (RdS R49 (SV.v s0_) a0)]) ⟨rfl, rfl, rfl, rfl, rfl, rfl, rfl, rfl, rfl, rfl, rfl, rfl, trivial⟩ (fun _ h => h.picks [0, 0, 0, 0, 0] rfl) (nat_lt _) (fun _ h => (FactAt.get (.ro 0 rfl) h).1) (fun _ _ => ⟨rfl, rfl, rfl, rfl⟩) ⟨rfl, rfl, rfl, rfl, rfl⟩ rfl rfl rfl (fun u33 g34 e => ?_) (fun aftk35 i30 x31 u33 g34 k35 hx32 hs J hJk35 hBk35 hX I cnk35 => ?_)
      · have hm := Flow.fin_b e hm
        refine nj_blk ?_
        exact cnk25 _ _ (u33.1, u33.2) g34 (hJk25 _ (Option.some.inj hm).symm) ⟨rfl, rfl, rfl, rfl, rfl, rfl, rfl, rfl, trivial⟩ (fun _ h => h.picks [2, 2, 2] rfl)
      · have hRk35 : ∀ t, k35 = .ret t → some t = some k25 := fun t e => by rw [hX t e] at hm; exact hm
        have hm := hs
        refine cj_seq ?_
        refine cj_reg ?_
        refine lp rfl (p_idx Try.underlying26 ty49 rfl rfl (.ro 0 rfl) (getI_nat.trans hx32)) ?_
        refine lp rfl (p_lea ty49 rfl (.ro 0 rfl) hx32) ?_
        refine r_al ty49 rfl (fun b37 => ?_)
        refine r_sb (vs := [.int .i64 x31.Beats, .int .i64 x31.Unit, .int .i64 x31.Close, .int .i64 x31.Ending, .bool x31.Open]) (j := 0) ty49 rfl rfl rfl rfl rfl rfl rfl ?_
        refine lj_seq ?_
        refine cj_seq ?_
        refine cj_reg ?_
        obtain ⟨k40, hk40, hm⟩ := bindS hm
        have hRk40 : ∀ t, k40 = .inr t → some t = some k35 := fun t e => by rw [e] at hm; exact hm
        refine lj_join (σ := Bool) (γ := Unit) (fun u38 => k40 = .inl u38) (fun u38 g39 => [(0, s0_.v), (2, g34.v), (3, .bool u33.1), (4, g6.v), (5, .int .i64 u5.1), (70, .bool u38), (9, .pointer (some ⟨b27, 0, none⟩)), (44, g6.v), (45, .int .i64 (u5.2.length : Int)), (46, .int .i64 (i19 : Int)), (55, s29.v), (56, .int .i64 (q28.length : Int)), (57, .int .i64 (i30 : Int))]) (fun u38 g39 => Sat w0 (keys ([] : List Ent)) A [.box b37 49 [.int .i64 x31.Beats, .int .i64 x31.Unit, .int .i64 x31.Close, .int .i64 x31.Ending, .bool x31.Open], .ro (RdS R49 (SV.v s29) q28), .box b27 66 [.int .i64 x20.from_, .int .i64 x20.to_, .int .i64 x20.times], .row R66 (SV.v g34) u33.2, .row R66 (SV.v g6) u5.2, .ro (RdS R49 (SV.v s0_) a0)]) (fun u38 g39 hq => ?_) (fun J cnk40 => ?_)
        · have hm := Sum.fin_l hq hm
          refine cj_if (b := u38) rfl (fun hb => ?_) (fun hb => ?_)
          · have hm := ifB_t hb hm
            refine cj_seq ?_
            refine cj_reg ?_
            refine lp rfl (p_as rfl) ?_
            refine lp rfl (p_as rfl) ?_
            refine lj_seq ?_
            have hm := hRk35 _ (Option.some.inj hm).symm
            have hm := hRk25 _ (Option.some.inj hm).symm
            obtain rfl := Option.some.inj hm
            refine cj_nil R66 ?_
            exact cj_rt nilS [0] Try.results29 (.tmp rfl (.tmp rfl .nil)) rfl rfl
          · have hm := ifB_f hb hm
            refine cj_skip ?_
            refine nj_blk ?_
            exact cnk35 _ _ (u33.1, u33.2) g34 (hJk35 _ (Option.some.inj hm).symm) ⟨rfl, rfl, rfl, rfl, rfl, rfl, rfl, rfl, rfl, rfl, rfl, rfl, trivial⟩ (fun _ h => h.picks [1, 1, 1, 1, 1] rfl)
        · have hm := hk40
          refine lp rfl (p_fab fl66_2 rfl) ?_
          refine lp rfl (p_lbs ty3 rfl (j := 2) rfl rfl) ?_
          refine lp rfl (p_gtr rfl rfl) ?_
          refine lp rfl (p_mv rfl) ?_
          refine lcase (i := 64) (decide (x20.times > 1)) rfl (fun hb => ?_) (fun hb => ?_)
          · have hm := ifB_t hb hm
            refine lg true rfl rfl rfl ?_
            refine lp rfl (p_fab fl49_3 rfl) ?_
            refine lg true rfl rfl rfl ?_
            refine lp rfl (p_lbs ty3 rfl (j := 0) rfl rfl) ?_
            refine lg true rfl rfl rfl ?_
            refine lp rfl (p_fab fl66_2 rfl) ?_
            refine lg true rfl rfl rfl ?_
            refine lp rfl (p_lbs ty3 rfl (j := 2) rfl rfl) ?_
            refine lg true rfl rfl rfl ?_
            refine lp rfl (p_gtr rfl rfl) ?_
            refine lp rfl (p_pkt rfl rfl) ?_
            refine lj_nil ?_
            exact cnk40 _ _ (decide (x31.Ending > x20.times)) () (Option.some.inj hm).symm ⟨rfl, rfl, rfl, rfl, rfl, rfl, rfl, rfl, rfl, rfl, rfl, rfl, rfl, trivial⟩ (fun _ h => h.picks [0, 0, 0, 0, 0, 0] rfl)
          · have hm := ifB_f hb hm
            refine ls true rfl rfl rfl rfl ?_
            refine ls true rfl rfl rfl rfl ?_
            refine ls true rfl rfl rfl rfl ?_
            refine ls true rfl rfl rfl rfl ?_
            refine ls true rfl rfl rfl rfl ?_
            refine lp rfl (p_pkf rfl rfl) ?_
            refine lj_nil ?_
            exact cnk40 _ _ false () (Option.some.inj hm).symm ⟨rfl, rfl, rfl, rfl, rfl, rfl, rfl, rfl, rfl, rfl, rfl, rfl, rfl, trivial⟩ (fun _ h => h.picks [0, 0, 0, 0, 0, 0] rfl)
  · have hRk7 : ∀ t, k7 = .ret t → some t = some r := fun t e => by rw [hX t e] at hm; exact hm
    have hm := hs
    refine cj_seq ?_
    refine cj_reg ?_
    refine lp rfl (p_mv rfl) ?_
    refine lp rfl (p_idx Try.underlying26 ty49 rfl rfl (.ro 1 rfl) (getI_nat.trans hx3)) ?_
    refine lp rfl (p_lea ty49 rfl (.ro 1 rfl) hx3) ?_
    refine r_al ty49 rfl (fun b9 => ?_)
    refine lp rfl (p_as rfl) ?_
    refine r_sb (vs := [.int .i64 x2.Beats, .int .i64 x2.Unit, .int .i64 x2.Close, .int .i64 x2.Ending, .bool x2.Open]) (j := 0) ty49 rfl rfl rfl rfl rfl rfl rfl ?_
    refine lj_seq ?_
    refine cj_seq ?_
    refine cj_seq ?_
    refine cj_reg ?_
    refine lp rfl (p_fab fl49_4 rfl) ?_
    refine lp rfl (p_lbs ty4 rfl (j := 0) rfl rfl) ?_
    refine lj_seq ?_
    obtain ⟨k12, hk12, hm⟩ := bindS hm
    have hRk12 : ∀ t, k12 = .inr t → some t = some k7 := fun t e => by rw [e] at hm; exact hm
    refine cj_joinK (σ := Int) (γ := Unit) (fun u10 => k12 = .inl u10) (fun u10 g11 => [(0, s0_.v), (2, .slice none 0 0), (3, .bool false), (4, g6.v), (5, .int .i64 u10), (6, .int .i64 (i1 : Int)), (7, .pointer (some ⟨b9, 0, none⟩)), (12, s0_.v), (13, .int .i64 (a0.length : Int)), (14, .int .i64 (i1 : Int))]) (fun u10 g11 => Sat w0 (keys ([] : List Ent)) A [.box b9 49 [.int .i64 x2.Beats, .int .i64 x2.Unit, .int .i64 x2.Close, .int .i64 x2.Ending, .bool x2.Open], .row R66 (SV.v g6) u5.2, .ro (RdS R49 (SV.v s0_) a0)]) (fun u10 g11 hq => ?_) (fun J cnk12 => ?_)
    · have hm := Sum.fin_l hq hm
      refine cj_seq ?_
      refine cj_reg ?_
      refine lp rfl (p_mv rfl) ?_
      refine lp rfl (p_lss rfl rfl) ?_
      refine lj_seq ?_
      refine cj_if (b := decide (u10 < 0)) rfl (fun hb => ?_) (fun hb => ?_)
      · have hm := ifB_t hb hm
        refine cj_reg ?_
        refine lp rfl (p_mv rfl) ?_
        refine lp rfl (p_mv rfl) ?_
        refine lp rfl (p_mv rfl) ?_
        refine lp rfl (p_add rfl rfl) ?_
        refine lp rfl (p_bld [.int .i64 (i1 : Int), .int .i64 (w64 ((i1 : Int) + 1)), .int .i64 1] rfl (fun _ => by kernel_rfl)) ?_
        refine r_bs R66 [(piece_repeat.mk (i1 : Int) (w64 ((i1 : Int) + 1)) 1)] rfl rfl rfl (fun _ => by kernel_rfl) rfl (fun s13 => ?_)
        obtain ⟨q14, hq14, hm⟩ := bindS hm
        refine r_app (k := 2) Try.underlying58 ty66 rfl rfl rfl rfl (.row 0 rfl) hq14 rfl (fun s15 => ?_)
        refine lp rfl (p_as rfl) ?_
        refine lj_nil ?_
        refine nj_blk ?_
        exact cnk7 _ _ (u10, q14) s15 (hJk7 _ (Option.some.inj hm).symm) ⟨rfl, rfl, rfl, rfl, rfl, rfl, rfl, rfl, trivial⟩ (fun _ h => h.picks [2, 2] rfl)
      · have hm := ifB_f hb hm
        refine cj_seq ?_
        refine cj_reg ?_
        refine lp rfl (p_fab fl49_2 rfl) ?_
        refine lp rfl (p_lbs ty3 rfl (j := 0) rfl rfl) ?_
        refine lp rfl (p_gtr rfl rfl) ?_
        refine lj_seq ?_
        refine cj_if (b := decide (x2.Close > 0)) rfl (fun hb => ?_) (fun hb => ?_)
        · have hm := ifB_t hb hm
          refine cj_seq ?_
          refine cj_reg ?_
          refine lp rfl (p_mv rfl) ?_
          refine lp rfl (p_mv rfl) ?_
          refine lp rfl (p_mv rfl) ?_
          refine lp rfl (p_add rfl rfl) ?_
          refine lp rfl (p_fab fl49_2 rfl) ?_
          refine lp rfl (p_lbs ty3 rfl (j := 0) rfl rfl) ?_
          refine lp rfl (p_bld [.int .i64 u10, .int .i64 (w64 ((i1 : Int) + 1)), .int .i64 x2.Close] rfl (fun _ => by kernel_rfl)) ?_
          refine r_bs R66 [(piece_repeat.mk u10 (w64 ((i1 : Int) + 1)) x2.Close)] rfl rfl rfl (fun _ => by kernel_rfl) rfl (fun s16 => ?_)
          obtain ⟨q17, hq17, hm⟩ := bindS hm
          refine r_app (k := 2) Try.underlying58 ty66 rfl rfl rfl rfl (.row 0 rfl) hq17 rfl (fun s18 => ?_)
          refine lp rfl (p_as rfl) ?_
          refine lj_seq ?_
          refine cj_reg ?_
          refine lp rfl (p_as rfl) ?_
          refine lj_nil ?_
          refine nj_blk ?_
          exact cnk7 _ _ ((-1), q17) s18 (hJk7 _ (Option.some.inj hm).symm) ⟨rfl, rfl, rfl, rfl, rfl, rfl, rfl, rfl, trivial⟩ (fun _ h => h.picks [2, 2] rfl)
        · have hm := ifB_f hb hm
          refine cj_skip ?_
          refine nj_blk ?_
          exact cnk7 _ _ (u10, u5.2) g6 (hJk7 _ (Option.some.inj hm).symm) ⟨rfl, rfl, rfl, rfl, rfl, rfl, rfl, rfl, trivial⟩ (fun _ h => h.picks [1, 1] rfl)
    · have hm := hk12
      refine cj_if (b := x2.Open) rfl (fun hb => ?_) (fun hb => ?_)
      · have hm := ifB_t hb hm
        refine cj_reg ?_
        refine lp rfl (p_mv rfl) ?_
        refine lp rfl (p_as rfl) ?_
        refine lj_nil ?_
        exact cnk12 _ _ (i1 : Int) () (Option.some.inj hm).symm ⟨rfl, rfl, rfl, rfl, rfl, rfl, rfl, rfl, rfl, rfl, trivial⟩ (fun _ h => h.picks [0, 0, 0] rfl)
      · have hm := ifB_f hb hm
        refine cj_skip ?_
        exact cnk12 _ _ u5.1 () (Option.some.inj hm).symm ⟨rfl, rfl, rfl, rfl, rfl, rfl, rfl, rfl, rfl, rfl, trivial⟩ (fun _ h => h.picks [0, 0, 0] rfl)
theorem ok_piece_order (s0_ : SV) (a0 : (List Bar)) (s1_ : SV) (a1 : (List piece_repeat)) (a2 : Int) {r : (List Int)} (hm : m_piece_order a0 a1 a2 = some r) :
    Ctr Try.prog 30 [s0_.v, s1_.v, .int .i64 a2].toArray ([] : List Ent) [RdS R49 s0_.v a0, RdS R66 s1_.v a1] (X := SV) (fun s => s.v) (fun s => [.row R3 s.v r]) := by
  unfold m_piece_order at hm
  refine ctr_mk (vs := [(0, s0_.v), (1, s1_.v), (2, .int .i64 a2)]) Try.func30 rfl Try.ntmps30 rfl ⟨rfl, rfl, rfl, trivial⟩ (fun w0 A => ?_)
  refine cj_seq ?_
  refine cj_reg ?_
  refine lp rfl (p_as rfl) ?_
  refine lj_seq ?_
  refine cj_seq ?_
  refine cj_reg ?_
  refine lp rfl (p_as rfl) ?_
  refine lj_seq ?_
  refine cj_seq ?_
  refine cj_seq ?_
  refine cj_reg ?_
  refine lp rfl (p_mv rfl) ?_
  refine lp rfl (p_len Try.underlying58 rfl (.ro 1 rfl)) ?_
  refine lp rfl (p_mv rfl) ?_
  refine lj_seq ?_
  refine cj_nil R3 ?_
  obtain ⟨f8, hf8, hm⟩ := bindS hm
  refine cj_range (γ := SV) (m := (a1.length : Int)) hf8 nilS (fun u5 g6 => [(0, s0_.v), (2, .int .i64 a2), (6, .slice none 0 0), (7, g6.v), (12, s1_.v)]) (fun u5 g6 => Sat w0 (keys ([] : List Ent)) A [.row R3 (SV.v g6) u5, .ro (RdS R49 (SV.v s0_) a0), .ro (RdS R66 (SV.v s1_) a1)]) ⟨rfl, rfl, rfl, rfl, rfl, rfl, rfl, trivial⟩ (fun _ h => h.picks [0, 0, 0] rfl) (nat_lt _) (fun _ h => (FactAt.get (.ro 2 rfl) h).1) (fun _ _ => ⟨rfl, rfl, rfl, rfl⟩) ⟨rfl, rfl, rfl, rfl, rfl⟩ rfl rfl rfl (fun u5 g6 e => ?_) (fun aftk7 i1 x2 u5 g6 k7 hx3 hs J hJk7 hBk7 hX I cnk7 => ?_)
  · have hm := Flow.fin_b e hm
    refine nj_seq ?_
    refine cj_seq ?_
    refine cj_reg ?_
    refine lp rfl (p_mv rfl) ?_
    refine lp rfl (p_as rfl) ?_
    refine lj_seq ?_
    obtain rfl := Option.some.inj hm
    exact cj_rt g6 [0] Try.results30 (.tmp rfl .nil) rfl rfl
  · have hRk7 : ∀ t, k7 = .ret t → some t = some r := fun t e => by rw [hX t e] at hm; exact hm
    have hm := hs
    refine cj_seq ?_
    refine cj_reg ?_
    refine lp rfl (p_idx Try.underlying58 ty66 rfl rfl (.ro 2 rfl) (getI_nat.trans hx3)) ?_
    refine lp rfl (p_lea ty66 rfl (.ro 2 rfl) hx3) ?_
    refine r_al ty66 rfl (fun b9 => ?_)
    refine r_sb (vs := [.int .i64 x2.from_, .int .i64 x2.to_, .int .i64 x2.times]) (j := 0) ty66 rfl rfl rfl rfl rfl rfl rfl ?_
    refine lj_seq ?_
    refine cj_seq ?_
    refine cj_reg ?_
    refine lp rfl (p_as rfl) ?_
    refine lj_seq ?_
    obtain ⟨f13, hf13, hm⟩ := bindS hm
    refine cj_whileA (γ := SV) hf13 g6 (fun u10 g11 => [(0, s0_.v), (2, .int .i64 a2), (6, .slice none 0 0), (7, g11.v), (9, .pointer (some ⟨b9, 0, none⟩)), (10, .int .i64 u10.1), (12, s1_.v), (13, .int .i64 (a1.length : Int)), (14, .int .i64 (i1 : Int))]) (fun u10 g11 => Sat w0 (keys ([] : List Ent)) A [.box b9 66 [.int .i64 x2.from_, .int .i64 x2.to_, .int .i64 x2.times], .row R3 (SV.v g11) u10.2, .ro (RdS R49 (SV.v s0_) a0), .ro (RdS R66 (SV.v s1_) a1)]) ⟨rfl, rfl, rfl, rfl, rfl, rfl, rfl, rfl, rfl, trivial⟩ (fun _ h => h.picks [0, 0, 0, 0] rfl) (fun u10 g11 e => ?_) (fun aftk12 u10 g11 k12 hs J hJk12 hBk12 hX I cnk12 => ?_)
    · have hm := Flow.fin_b e hm
      refine nj_blk ?_
      exact cnk7 _ _ u10.2 g11 (hJk7 _ (Option.some.inj hm).symm) ⟨rfl, rfl, rfl, rfl, rfl, rfl, rfl, trivial⟩ (fun _ h => h.picks [1, 1, 1] rfl)
    · have hRk12 : ∀ t, k12 = .ret t → some t = some k7 := fun t e => by rw [hX t e] at hm; exact hm
      have hm := hs
      refine cj_seq ?_
      refine cj_seq ?_
      refine cj_reg ?_
      refine lp rfl (p_mv rfl) ?_
      refine lp rfl (p_fab fl66_2 rfl) ?_
      refine lp rfl (p_lbs ty3 rfl (j := 0) rfl rfl) ?_
      refine lp rfl (p_leq rfl rfl) ?_
      refine lj_seq ?_
      refine cj_if (b := decide (u10.1 ≤ x2.times)) rfl (fun hb => ?_) (fun hb => ?_)
      · have hm := ifB_t hb hm
        refine cj_skip ?_
        refine nj_seq ?_
        refine cj_seq ?_
        refine cj_blk ?_
        refine cj_seq ?_
        refine cj_reg ?_
        refine lp rfl (p_fab fl66_0 rfl) ?_
        refine lp rfl (p_lbs ty3 rfl (j := 0) rfl rfl) ?_
        refine lp rfl (p_as rfl) ?_
        refine lj_seq ?_
        obtain ⟨f17, hf17, hm⟩ := bindS hm
        refine cj_whileA (γ := SV) hf17 g11 (fun u14 g15 => [(0, s0_.v), (2, .int .i64 a2), (6, .slice none 0 0), (7, g15.v), (9, .pointer (some ⟨b9, 0, none⟩)), (10, .int .i64 u10.1), (11, .int .i64 u14.1), (12, s1_.v), (13, .int .i64 (a1.length : Int)), (14, .int .i64 (i1 : Int))]) (fun u14 g15 => Sat w0 (keys ([] : List Ent)) A [.box b9 66 [.int .i64 x2.from_, .int .i64 x2.to_, .int .i64 x2.times], .row R3 (SV.v g15) u14.2, .ro (RdS R49 (SV.v s0_) a0), .ro (RdS R66 (SV.v s1_) a1)]) ⟨rfl, rfl, rfl, rfl, rfl, rfl, rfl, rfl, rfl, rfl, trivial⟩ (fun _ h => h.picks [0, 0, 0, 0] rfl) (fun u14 g15 e => ?_) (fun aftk16 u14 g15 k16 hs J hJk16 hBk16 hX I cnk16 => ?_)
        · have hm := Flow.fin_b e hm
          refine nj_blk ?_
          refine nj_seq ?_
          refine cj_reg ?_
          refine lp rfl (p_mv rfl) ?_
          refine lp rfl (p_add rfl rfl) ?_
          refine lp rfl (p_as rfl) ?_
          refine lj_nil ?_
          exact cnk12 _ _ (w64 (u10.1 + 1), u14.2) g15 (hJk12 _ (Option.some.inj hm).symm) ⟨rfl, rfl, rfl, rfl, rfl, rfl, rfl, rfl, rfl, trivial⟩ (fun _ h => h.picks [0, 0, 0, 0] rfl)
        · have hRk16 : ∀ t, k16 = .ret t → some t = some k12 := fun t e => by rw [hX t e] at hm; exact hm
          have hm := hs
          refine cj_seq ?_
          refine cj_seq ?_
          refine cj_reg ?_
          obtain ⟨k20, hk20, hm⟩ := bindS hm
          have hRk20 : ∀ t, k20 = .inr t → some t = some k16 := fun t e => by rw [e] at hm; exact hm
          refine lj_join (σ := Bool) (γ := Unit) (fun u18 => k20 = .inl u18) (fun u18 g19 => [(0, s0_.v), (2, .int .i64 a2), (6, .slice none 0 0), (7, g15.v), (9, .pointer (some ⟨b9, 0, none⟩)), (10, .int .i64 u10.1), (11, .int .i64 u14.1), (12, s1_.v), (13, .int .i64 (a1.length : Int)), (14, .int .i64 (i1 : Int)), (35, .bool u18)]) (fun u18 g19 => Sat w0 (keys ([] : List Ent)) A [.box b9 66 [.int .i64 x2.from_, .int .i64 x2.to_, .int .i64 x2.times], .row R3 (SV.v g15) u14.2, .ro (RdS R49 (SV.v s0_) a0), .ro (RdS R66 (SV.v s1_) a1)]) (fun u18 g19 hq => ?_) (fun J cnk20 => ?_)
          · have hm := Sum.fin_l hq hm
            refine cj_if (b := u18) rfl (fun hb => ?_) (fun hb => ?_)
            · have hm := ifB_t hb hm
              refine cj_skip ?_
              refine nj_seq ?_
              refine cj_seq ?_
              refine cj_blk ?_
              refine cj_seq ?_
              refine cj_reg ?_
              obtain ⟨k23, hk23, hm⟩ := bindS hm
              have hRk23 : ∀ t, k23 = .inr t → some t = some k16 := fun t e => by rw [e] at hm; exact hm
              refine lj_join (σ := Bool) (γ := Unit) (fun u21 => k23 = .inl u21) (fun u21 g22 => [(0, s0_.v), (2, .int .i64 a2), (6, .slice none 0 0), (7, g15.v), (9, .pointer (some ⟨b9, 0, none⟩)), (10, .int .i64 u10.1), (11, .int .i64 u14.1), (12, s1_.v), (13, .int .i64 (a1.length : Int)), (14, .int .i64 (i1 : Int)), (52, .bool u21)]) (fun u21 g22 => Sat w0 (keys ([] : List Ent)) A [.box b9 66 [.int .i64 x2.from_, .int .i64 x2.to_, .int .i64 x2.times], .row R3 (SV.v g15) u14.2, .ro (RdS R49 (SV.v s0_) a0), .ro (RdS R66 (SV.v s1_) a1)]) (fun u21 g22 hq => ?_) (fun J cnk23 => ?_)
              · have hm := Sum.fin_l hq hm
                refine cj_if (b := u21) rfl (fun hb => ?_) (fun hb => ?_)
                · have hm := ifB_t hb hm
                  refine cj_reg ?_
                  refine lp rfl (p_mv rfl) ?_
                  refine lp rfl (p_mv rfl) ?_
                  refine r_bs R3 [u14.1] rfl rfl rfl (fun _ => by kernel_rfl) rfl (fun s26 => ?_)
                  obtain ⟨q27, hq27, hm⟩ := bindS hm
                  refine r_app (k := 2) Try.underlying22 ty3 rfl rfl rfl rfl (.row 0 rfl) hq27 rfl (fun s28 => ?_)
                  refine lp rfl (p_as rfl) ?_
                  refine lj_nil ?_
                  refine nj_blk ?_
                  refine nj_seq ?_
                  refine cj_reg ?_
                  refine lp rfl (p_mv rfl) ?_
                  refine lp rfl (p_add rfl rfl) ?_
                  refine lp rfl (p_as rfl) ?_
                  refine lj_nil ?_
                  exact cnk16 _ _ (w64 (u14.1 + 1), q27) s28 (hJk16 _ (Option.some.inj hm).symm) ⟨rfl, rfl, rfl, rfl, rfl, rfl, rfl, rfl, rfl, rfl, trivial⟩ (fun _ h => h.picks [1, 1, 1, 1] rfl)
                · have hm := ifB_f hb hm
                  refine cj_skip ?_
                  refine nj_blk ?_
                  refine nj_seq ?_
                  refine cj_reg ?_
                  refine lp rfl (p_mv rfl) ?_
                  refine lp rfl (p_add rfl rfl) ?_
                  refine lp rfl (p_as rfl) ?_
                  refine lj_nil ?_
                  exact cnk16 _ _ (w64 (u14.1 + 1), u14.2) g15 (hJk16 _ (Option.some.inj hm).symm) ⟨rfl, rfl, rfl, rfl, rfl, rfl, rfl, rfl, rfl, rfl, trivial⟩ (fun _ h => h.picks [0, 0, 0, 0] rfl)
              · have hm := hk23
                refine lp rfl (p_mv rfl) ?_
                refine lp rfl (p_mv rfl) ?_
                obtain ⟨e24, he24, hm⟩ := bindS hm
                refine lp rfl (p_idx Try.underlying26 ty49 rfl rfl (.ro 2 rfl) he24) ?_
                refine lp rfl (p_fae fl49_3 rfl (.ro 2 rfl) (getI_spec he24).2) ?_
                refine lp rfl (p_lde (o := 3) ty3 rfl rfl (.ro 2 rfl) (getI_spec he24).2 rfl) ?_
                refine lp rfl (p_eql rfl rfl) ?_
                refine lp rfl (p_mv rfl) ?_
                refine lcase (i := 44) (e24.Ending == 0) rfl (fun hb => ?_) (fun hb => ?_)
                · have hm := ifB_t hb hm
                  refine ls false rfl rfl rfl rfl ?_
                  refine ls false rfl rfl rfl rfl ?_
                  refine ls false rfl rfl rfl rfl ?_
                  refine ls false rfl rfl rfl rfl ?_
                  refine ls false rfl rfl rfl rfl ?_
                  refine ls false rfl rfl rfl rfl ?_
                  refine ls false rfl rfl rfl rfl ?_
                  refine lp rfl (p_pkt rfl rfl) ?_
                  refine lj_nil ?_
                  exact cnk23 _ _ true () (Option.some.inj hm).symm ⟨rfl, rfl, rfl, rfl, rfl, rfl, rfl, rfl, rfl, rfl, rfl, trivial⟩ (fun _ h => h.picks [0, 0, 0, 0] rfl)
                · have hm := ifB_f hb hm
                  refine lg false rfl rfl rfl ?_
                  refine lp rfl (p_mv rfl) ?_
                  refine lg false rfl rfl rfl ?_
                  refine lp rfl (p_mv rfl) ?_
                  refine lg false rfl rfl rfl ?_
                  obtain ⟨e25, he25, hm⟩ := bindS hm
                  refine lp rfl (p_idx Try.underlying26 ty49 rfl rfl (.ro 2 rfl) he25) ?_
                  refine lg false rfl rfl rfl ?_
                  refine lp rfl (p_fae fl49_3 rfl (.ro 2 rfl) (getI_spec he25).2) ?_
                  refine lg false rfl rfl rfl ?_
                  refine lp rfl (p_lde (o := 3) ty3 rfl rfl (.ro 2 rfl) (getI_spec he25).2 rfl) ?_
                  refine lg false rfl rfl rfl ?_
                  refine lp rfl (p_mv rfl) ?_
                  refine lg false rfl rfl rfl ?_
                  refine lp rfl (p_eql rfl rfl) ?_
                  refine lp rfl (p_pkf rfl rfl) ?_
                  refine lj_nil ?_
                  exact cnk23 _ _ (e25.Ending == u10.1) () (Option.some.inj hm).symm ⟨rfl, rfl, rfl, rfl, rfl, rfl, rfl, rfl, rfl, rfl, rfl, trivial⟩ (fun _ h => h.picks [0, 0, 0, 0] rfl)
            · have hm := ifB_f hb hm
              refine cj_exit rfl ?_
              exact (aftk16 (u14.1, u14.2) g15 (hBk16 _ (Option.some.inj hm).symm)).sub ⟨rfl, rfl, rfl, rfl, rfl, rfl, rfl, rfl, rfl, rfl, trivial⟩ (fun _ h => h.picks [0, 0, 0, 0] rfl)
          · have hm := hk20
            refine lp rfl (p_mv rfl) ?_
            refine lp rfl (p_fab fl66_1 rfl) ?_
            refine lp rfl (p_lbs ty3 rfl (j := 0) rfl rfl) ?_
            refine lp rfl (p_lss rfl rfl) ?_
            refine lp rfl (p_mv rfl) ?_
            refine lcase (i := 30) (decide (u14.1 < x2.to_)) rfl (fun hb => ?_) (fun hb => ?_)
            · have hm := ifB_t hb hm
              refine lg true rfl rfl rfl ?_
              refine lp rfl (p_mv rfl) ?_
              refine lg true rfl rfl rfl ?_
              refine lp rfl (p_len Try.underlying22 rfl (.row 1 rfl)) ?_
              refine lg true rfl rfl rfl ?_
              refine lp rfl (p_mv rfl) ?_
              refine lg true rfl rfl rfl ?_
              refine lp rfl (p_leq rfl rfl) ?_
              refine lp rfl (p_pkt rfl rfl) ?_
              refine lj_nil ?_
              exact cnk20 _ _ (decide ((u14.2.length : Int) ≤ a2)) () (Option.some.inj hm).symm ⟨rfl, rfl, rfl, rfl, rfl, rfl, rfl, rfl, rfl, rfl, rfl, trivial⟩ (fun _ h => h.picks [0, 0, 0, 0] rfl)
            · have hm := ifB_f hb hm
              refine ls true rfl rfl rfl rfl ?_
              refine ls true rfl rfl rfl rfl ?_
              refine ls true rfl rfl rfl rfl ?_
              refine ls true rfl rfl rfl rfl ?_
              refine lp rfl (p_pkf rfl rfl) ?_
              refine lj_nil ?_
              exact cnk20 _ _ false () (Option.some.inj hm).symm ⟨rfl, rfl, rfl, rfl, rfl, rfl, rfl, rfl, rfl, rfl, rfl, trivial⟩ (fun _ h => h.picks [0, 0, 0, 0] rfl)
      · have hm := ifB_f hb hm
        refine cj_exit rfl ?_
        exact (aftk12 (u10.1, u10.2) g11 (hBk12 _ (Option.some.inj hm).symm)).sub ⟨rfl, rfl, rfl, rfl, rfl, rfl, rfl, rfl, rfl, trivial⟩ (fun _ h => h.picks [0, 0, 0, 0] rfl)
theorem ok_piece_CheckBars (s0_ : SV) (a0 : (List Bar)) {r : Int} (hm : m_piece_CheckBars a0 = some r) :
    Ctr Try.prog 13 [s0_.v].toArray ([] : List Ent) [RdS R49 s0_.v a0] (X := Unit) (fun _ => .int .i64 r) (fun _ => []) := by
  unfold m_piece_CheckBars at hm
  refine ctr_mk (vs := [(0, s0_.v)]) Try.func13 rfl Try.ntmps13 rfl ⟨rfl, trivial⟩ (fun w0 A => ?_)
  refine cj_seq ?_
  refine cj_reg ?_
  refine lp rfl (p_as rfl) ?_
  refine lj_seq ?_
  refine cj_seq ?_
  refine cj_seq ?_
  refine cj_reg ?_
  refine lp rfl (p_mv rfl) ?_
  refine lp rfl (p_len Try.underlying26 rfl (.ro 0 rfl)) ?_
  refine lp rfl (p_eql rfl rfl) ?_
  refine lj_seq ?_
  refine cj_if (b := (a0.length : Int) == 0) rfl (fun hb => ?_) (fun hb => ?_)
  · have hm := ifB_t hb hm
    refine cj_seq ?_
    refine cj_reg ?_
    refine lp rfl (p_as rfl) ?_
    refine lj_seq ?_
    obtain rfl := Option.some.inj hm
    exact cj_rt () [] Try.results13 (.tmp rfl .nil) rfl rfl
  · have hm := ifB_f hb hm
    refine cj_skip ?_
    refine nj_seq ?_
    refine cj_seq ?_
    refine cj_seq ?_
    refine cj_reg ?_
    refine lp rfl (p_mv rfl) ?_
    refine lp rfl (p_len Try.underlying26 rfl (.ro 0 rfl)) ?_
    refine lp rfl (p_gtr rfl rfl) ?_
    refine lj_seq ?_
    refine cj_if (b := decide ((a0.length : Int) > 300)) rfl (fun hb => ?_) (fun hb => ?_)
    · have hm := ifB_t hb hm
      refine cj_seq ?_
      refine cj_reg ?_
      refine lp rfl (p_as rfl) ?_
      refine lj_seq ?_
      obtain rfl := Option.some.inj hm
      exact cj_rt () [] Try.results13 (.tmp rfl .nil) rfl rfl
    · have hm := ifB_f hb hm
      refine cj_skip ?_
      refine nj_seq ?_
      refine cj_seq ?_
      refine cj_seq ?_
      refine cj_reg ?_
      refine lp rfl (p_mv rfl) ?_
      obtain ⟨y1, hy1, hm⟩ := bindS hm
      refine r_call [] cf28 rfl rfl (ok_piece_rulesFault s0_ a0 hy1) rfl rfl (.cons (.ro 0 rfl) .nil) (fun _ => rfl) rfl (fun _ => ?_)
      refine lp rfl (p_as rfl) ?_
      refine lj_seq ?_
      refine cj_seq ?_
      refine cj_reg ?_
      refine lp rfl (p_mv rfl) ?_
      refine lp rfl (p_neq rfl rfl) ?_
      refine lj_seq ?_
      refine cj_if (b := y1 != 0) rfl (fun hb => ?_) (fun hb => ?_)
      · have hm := ifB_t hb hm
        refine cj_seq ?_
        refine cj_reg ?_
        refine lp rfl (p_mv rfl) ?_
        refine lp rfl (p_as rfl) ?_
        refine lj_seq ?_
        obtain rfl := Option.some.inj hm
        exact cj_rt () [] Try.results13 (.tmp rfl .nil) rfl rfl
      · have hm := ifB_f hb hm
        refine cj_skip ?_
        refine nj_seq ?_
        refine cj_seq ?_
        refine cj_reg ?_
        refine lp rfl (p_mv rfl) ?_
        obtain ⟨y2, hy2, hm⟩ := bindS hm
        refine r_call [] cf29 rfl rfl (ok_piece_repeats s0_ a0 hy2) rfl rfl (.cons (.ro 0 rfl) .nil) (fun _ => rfl) rfl (fun s3 => ?_)
        refine lp rfl (p_mv rfl) ?_
        refine lp rfl (p_ext rfl rfl) ?_
        refine lp rfl (p_ext rfl rfl) ?_
        refine lp rfl (p_as rfl) ?_
        refine lp rfl (p_as rfl) ?_
        refine lj_seq ?_
        refine cj_seq ?_
        refine cj_seq ?_
        refine cj_reg ?_
        refine lp rfl (p_mv rfl) ?_
        refine lp rfl (p_not rfl) ?_
        refine lj_seq ?_
        refine cj_if (b := !y2.2) rfl (fun hb => ?_) (fun hb => ?_)
        · have hm := ifB_t hb hm
          refine cj_seq ?_
          refine cj_reg ?_
          refine lp rfl (p_as rfl) ?_
          refine lj_seq ?_
          obtain rfl := Option.some.inj hm
          exact cj_rt () [] Try.results13 (.tmp rfl .nil) rfl rfl
        · have hm := ifB_f hb hm
          refine cj_skip ?_
          refine nj_seq ?_
          refine cj_seq ?_
          refine cj_seq ?_
          refine cj_reg ?_
          refine lp rfl (p_mv rfl) ?_
          refine lp rfl (p_mv rfl) ?_
          obtain ⟨y4, hy4, hm⟩ := bindS hm
          refine r_call [] cf30 rfl rfl (ok_piece_order s0_ a0 s3 y2.1 2000 hy4) rfl rfl (.cons (.ro 1 rfl) (.cons (.row 0 rfl) .nil)) (fun _ => rfl) rfl (fun s5 => ?_)
          refine lp rfl (p_len Try.underlying22 rfl (.row 0 rfl)) ?_
          refine lp rfl (p_gtr rfl rfl) ?_
          refine lj_seq ?_
          refine cj_if (b := decide ((y4.length : Int) > 2000)) rfl (fun hb => ?_) (fun hb => ?_)
          · have hm := ifB_t hb hm
            refine cj_seq ?_
            refine cj_reg ?_
            refine lp rfl (p_as rfl) ?_
            refine lj_seq ?_
            obtain rfl := Option.some.inj hm
            exact cj_rt () [] Try.results13 (.tmp rfl .nil) rfl rfl
          · have hm := ifB_f hb hm
            refine cj_skip ?_
            refine nj_seq ?_
            refine cj_seq ?_
            refine cj_reg ?_
            refine lp rfl (p_as rfl) ?_
            refine lj_seq ?_
            obtain rfl := Option.some.inj hm
            exact cj_rt () [] Try.results13 (.tmp rfl .nil) rfl rfl
theorem ok_piece_played (s0_ : SV) (a0 : (List Bar)) {r : (List Int)} (hm : m_piece_played a0 = some r) :
    Ctr Try.prog 21 [s0_.v].toArray ([] : List Ent) [RdS R49 s0_.v a0] (X := SV) (fun s => s.v) (fun s => [.row R3 s.v r]) := by
  unfold m_piece_played at hm
  refine ctr_mk (vs := [(0, s0_.v)]) Try.func21 rfl Try.ntmps21 rfl ⟨rfl, trivial⟩ (fun w0 A => ?_)
  refine cj_seq ?_
  refine cj_reg ?_
  refine lp rfl (p_as rfl) ?_
  refine lj_seq ?_
  refine cj_seq ?_
  refine cj_reg ?_
  refine lp rfl (p_mv rfl) ?_
  obtain ⟨y1, hy1, hm⟩ := bindS hm
  refine r_call [] cf29 rfl rfl (ok_piece_repeats s0_ a0 hy1) rfl rfl (.cons (.ro 0 rfl) .nil) (fun _ => rfl) rfl (fun s2 => ?_)
  refine lp rfl (p_mv rfl) ?_
  refine lp rfl (p_ext rfl rfl) ?_
  refine lp rfl (p_ext rfl rfl) ?_
  refine lp rfl (p_as rfl) ?_
  refine lp rfl (p_as rfl) ?_
  refine lj_seq ?_
  refine cj_seq ?_
  refine cj_reg ?_
  refine lp rfl (p_mv rfl) ?_
  refine lp rfl (p_mv rfl) ?_
  obtain ⟨y3, hy3, hm⟩ := bindS hm
  refine r_call [] cf30 rfl rfl (ok_piece_order s0_ a0 s2 y1.1 2000 hy3) rfl rfl (.cons (.ro 1 rfl) (.cons (.row 0 rfl) .nil)) (fun _ => rfl) rfl (fun s4 => ?_)
  refine lp rfl (p_as rfl) ?_
  refine lj_seq ?_
  obtain rfl := Option.some.inj hm
  exact cj_rt s4 [0] Try.results21 (.tmp rfl .nil) rfl rfl
theorem ok_piece_Order (s0_ : SV) (a0 : (List Bar)) {r : (List Int) × Int} (hm : m_piece_Order a0 = some r) :
    Ctr Try.prog 6 [s0_.v].toArray ([] : List Ent) [RdS R49 s0_.v a0] (X := SV) (fun s => .tuple [s.v, .int .i64 r.2].toArray) (fun s => [.row R3 s.v r.1]) := by
  unfold m_piece_Order at hm
  refine ctr_mk (vs := [(0, s0_.v)]) Try.func6 rfl Try.ntmps6 rfl ⟨rfl, trivial⟩ (fun w0 A => ?_)
  refine cj_seq ?_
  refine cj_reg ?_
  refine lp rfl (p_as rfl) ?_
  refine lp rfl (p_as rfl) ?_
  refine lj_seq ?_
  refine cj_seq ?_
  refine cj_seq ?_
  refine cj_reg ?_
  refine lp rfl (p_mv rfl) ?_
  obtain ⟨y1, hy1, hm⟩ := bindS hm
  refine r_call [] cf13 rfl rfl (ok_piece_CheckBars s0_ a0 hy1) rfl rfl (.cons (.ro 0 rfl) .nil) (fun _ => rfl) rfl (fun _ => ?_)
  refine lp rfl (p_as rfl) ?_
  refine lj_seq ?_
  refine cj_seq ?_
  refine cj_reg ?_
  refine lp rfl (p_mv rfl) ?_
  refine lp rfl (p_neq rfl rfl) ?_
  refine lj_seq ?_
  refine cj_if (b := y1 != 0) rfl (fun hb => ?_) (fun hb => ?_)
  · have hm := ifB_t hb hm
    refine cj_seq ?_
    refine cj_reg ?_
    refine lp rfl (p_mv rfl) ?_
    refine lp rfl (p_as rfl) ?_
    refine lp rfl (p_as rfl) ?_
    refine lj_seq ?_
    obtain rfl := Option.some.inj hm
    refine cj_nil R3 ?_
    exact cj_rt nilS [0] Try.results6 (.tmp rfl (.tmp rfl .nil)) rfl rfl
  · have hm := ifB_f hb hm
    refine cj_skip ?_
    refine nj_seq ?_
    refine cj_seq ?_
    refine cj_reg ?_
    refine lp rfl (p_mv rfl) ?_
    obtain ⟨y3, hy3, hm⟩ := bindS hm
    refine r_call [] cf21 rfl rfl (ok_piece_played s0_ a0 hy3) rfl rfl (.cons (.ro 0 rfl) .nil) (fun _ => rfl) rfl (fun s4 => ?_)
    refine lp rfl (p_as rfl) ?_
    refine lp rfl (p_as rfl) ?_
    refine lj_seq ?_
    obtain rfl := Option.some.inj hm
    exact cj_rt s4 [0] Try.results6 (.tmp rfl (.tmp rfl .nil)) rfl rfl
theorem ok_piece_Long (s0_ : SV) (a0 : (List Bar)) {r : Fraction × Int} (hm : m_piece_Long a0 = some r) :
    Ctr Try.prog 7 [s0_.v].toArray ([] : List Ent) [RdS R49 s0_.v a0] (X := Unit) (fun _ => .tuple [.agg (R33.enc r.1).toArray, .int .i64 r.2].toArray) (fun _ => []) := by
  unfold m_piece_Long at hm
  refine ctr_mk (vs := [(0, s0_.v)]) Try.func7 rfl Try.ntmps7 rfl ⟨rfl, trivial⟩ (fun w0 A => ?_)
  refine cj_seq ?_
  refine cj_reg ?_
  refine r_al ty33 rfl (fun b1 => ?_)
  refine lp rfl (p_as rfl) ?_
  refine lj_seq ?_
  refine cj_seq ?_
  refine cj_seq ?_
  refine cj_reg ?_
  refine lp rfl (p_mv rfl) ?_
  obtain ⟨y2, hy2, hm⟩ := bindS hm
  refine r_call [] cf13 rfl rfl (ok_piece_CheckBars s0_ a0 hy2) rfl rfl (.cons (.ro 1 rfl) .nil) (fun _ => rfl) rfl (fun _ => ?_)
  refine lp rfl (p_as rfl) ?_
  refine lj_seq ?_
  refine cj_seq ?_
  refine cj_reg ?_
  refine lp rfl (p_mv rfl) ?_
  refine lp rfl (p_neq rfl rfl) ?_
  refine lj_seq ?_
  refine cj_if (b := y2 != 0) rfl (fun hb => ?_) (fun hb => ?_)
  · have hm := ifB_t hb hm
    refine cj_seq ?_
    refine cj_reg ?_
    refine lp rfl (p_bld [.int .i64 0, .int .i64 0] rfl (fun _ => by kernel_rfl)) ?_
    refine lp rfl (p_mv rfl) ?_
    refine r_sb (vs := [.int .i64 0, .int .i64 0]) (j := 0) ty33 rfl rfl rfl rfl rfl rfl rfl ?_
    refine lp rfl (p_as rfl) ?_
    refine lj_seq ?_
    obtain rfl := Option.some.inj hm
    exact cj_rt () [] Try.results7 (.agg (k := 0) ty33 rfl rfl rfl (.tmp rfl .nil)) rfl rfl
  · have hm := ifB_f hb hm
    refine cj_skip ?_
    refine nj_seq ?_
    refine cj_seq ?_
    refine cj_reg ?_
    refine lp rfl (p_as rfl) ?_
    refine lj_seq ?_
    refine cj_seq ?_
    refine cj_seq ?_
    refine cj_reg ?_
    refine lp rfl (p_mv rfl) ?_
    obtain ⟨y3, hy3, hm⟩ := bindS hm
    refine r_call [] cf21 rfl rfl (ok_piece_played s0_ a0 hy3) rfl rfl (.cons (.ro 1 rfl) .nil) (fun _ => rfl) rfl (fun s4 => ?_)
    refine lp rfl (p_len Try.underlying22 rfl (.row 0 rfl)) ?_
    refine lp rfl (p_mv rfl) ?_
    refine lj_seq ?_
    obtain ⟨f11, hf11, hm⟩ := bindS hm
    refine cj_range (γ := Unit) (m := (y3.length : Int)) hf11 () (fun u8 g9 => [(0, s0_.v), (2, .pointer (some ⟨b1, 0, none⟩)), (3, .int .i64 0), (5, .int .i64 u8), (15, s4.v)]) (fun u8 g9 => Sat w0 (keys ([] : List Ent)) A [.row R3 (SV.v s4) y3, .box b1 33 [.int .i64 0, .int .i64 0], .ro (RdS R49 (SV.v s0_) a0)]) ⟨rfl, rfl, rfl, rfl, rfl, rfl, rfl, trivial⟩ (fun _ h => h.picks [0, 0, 0] rfl) (nat_lt _) (fun _ h => (FactAt.get (.row 0 rfl) h).1) (fun _ _ => ⟨rfl, rfl, rfl, rfl⟩) ⟨rfl, rfl, rfl, rfl, rfl⟩ rfl rfl rfl (fun u8 g9 e => ?_) (fun aftk10 i5 x6 u8 g9 k10 hx7 hs J hJk10 hBk10 hX I cnk10 => ?_)
    · have hm := Flow.fin_b e hm
      refine nj_seq ?_
      refine cj_seq ?_
      refine cj_reg ?_
      refine lp rfl (p_mv rfl) ?_
      obtain ⟨y14, hy14, hm⟩ := bindS hm
      refine r_call [] cf23 rfl rfl (ok_piece_fraction u8 hy14) rfl rfl .nil (fun _ => rfl) rfl (fun _ => ?_)
      refine r_sb (vs := [.int .i64 y14.Num, .int .i64 y14.Den]) (j := 1) ty33 rfl rfl rfl rfl rfl rfl rfl ?_
      refine lp rfl (p_as rfl) ?_
      refine lj_seq ?_
      obtain rfl := Option.some.inj hm
      exact cj_rt () [] Try.results7 (.agg (k := 1) ty33 rfl rfl rfl (.tmp rfl .nil)) rfl rfl
    · have hRk10 : ∀ t, k10 = .ret t → some t = some r := fun t e => by rw [hX t e] at hm; exact hm
      have hm := hs
      refine cj_seq ?_
      refine cj_reg ?_
      refine lp rfl (p_idx Try.underlying22 ty3 rfl rfl (.row 0 rfl) (getI_nat.trans hx7)) ?_
      refine lp rfl (p_lde (o := 0) ty3 rfl rfl (.row 0 rfl) hx7 rfl) ?_
      refine lp rfl (p_as rfl) ?_
      refine lj_seq ?_
      refine cj_reg ?_
      refine lp rfl (p_mv rfl) ?_
      refine lp rfl (p_mv rfl) ?_
      refine lp rfl (p_mv rfl) ?_
      obtain ⟨e12, he12, hm⟩ := bindS hm
      refine lp rfl (p_idx Try.underlying26 ty49 rfl rfl (.ro 2 rfl) he12) ?_
      refine lp rfl (p_lea ty49 rfl (.ro 2 rfl) (getI_spec he12).2) ?_
      obtain ⟨y13, hy13, hm⟩ := bindS hm
      refine r_call [] cf22 rfl rfl (ok_piece_long e12 hy13) rfl rfl .nil (fun _ => rfl) rfl (fun _ => ?_)
      refine lp rfl (p_add rfl rfl) ?_
      refine lp rfl (p_as rfl) ?_
      refine lj_nil ?_
      refine nj_blk ?_
      exact cnk10 _ _ (w64 (u8 + y13)) () (hJk10 _ (Option.some.inj hm).symm) ⟨rfl, rfl, rfl, rfl, rfl, rfl, rfl, trivial⟩ (fun _ h => h.picks [0, 0, 0] rfl)
theorem ok_piece_Begins (s0_ : SV) (a0 : (List Bar)) {r : (List Fraction) × Int} (hm : m_piece_Begins a0 = some r) :
    Ctr Try.prog 8 [s0_.v].toArray ([] : List Ent) [RdS R49 s0_.v a0] (X := SV) (fun s => .tuple [s.v, .int .i64 r.2].toArray) (fun s => [.row R33 s.v r.1]) := by
  unfold m_piece_Begins at hm
  refine ctr_mk (vs := [(0, s0_.v)]) Try.func8 rfl Try.ntmps8 rfl ⟨rfl, trivial⟩ (fun w0 A => ?_)
  refine cj_seq ?_
  refine cj_reg ?_
  refine lp rfl (p_as rfl) ?_
  refine lp rfl (p_as rfl) ?_
  refine lj_seq ?_
  refine cj_seq ?_
  refine cj_seq ?_
  refine cj_reg ?_
  refine lp rfl (p_mv rfl) ?_
  obtain ⟨y1, hy1, hm⟩ := bindS hm
  refine r_call [] cf13 rfl rfl (ok_piece_CheckBars s0_ a0 hy1) rfl rfl (.cons (.ro 0 rfl) .nil) (fun _ => rfl) rfl (fun _ => ?_)
  refine lp rfl (p_as rfl) ?_
  refine lj_seq ?_
  refine cj_seq ?_
  refine cj_reg ?_
  refine lp rfl (p_mv rfl) ?_
  refine lp rfl (p_neq rfl rfl) ?_
  refine lj_seq ?_
  refine cj_if (b := y1 != 0) rfl (fun hb => ?_) (fun hb => ?_)
  · have hm := ifB_t hb hm
    refine cj_seq ?_
    refine cj_reg ?_
    refine lp rfl (p_mv rfl) ?_
    refine lp rfl (p_as rfl) ?_
    refine lp rfl (p_as rfl) ?_
    refine lj_seq ?_
    obtain rfl := Option.some.inj hm
    refine cj_nil R33 ?_
    exact cj_rt nilS [0] Try.results8 (.tmp rfl (.tmp rfl .nil)) rfl rfl
  · have hm := ifB_f hb hm
    refine cj_skip ?_
    refine nj_seq ?_
    refine cj_seq ?_
    refine cj_reg ?_
    refine lp rfl (p_as rfl) ?_
    refine lj_seq ?_
    refine cj_seq ?_
    refine cj_reg ?_
    refine lp rfl (p_as rfl) ?_
    refine lj_seq ?_
    refine cj_seq ?_
    refine cj_seq ?_
    refine cj_reg ?_
    refine lp rfl (p_mv rfl) ?_
    refine lp rfl (p_len Try.underlying26 rfl (.ro 0 rfl)) ?_
    refine lp rfl (p_mv rfl) ?_
    refine lj_seq ?_
    refine cj_nil R33 ?_
    obtain ⟨f10, hf10, hm⟩ := bindS hm
    refine cj_range (γ := SV) (m := (a0.length : Int)) hf10 nilS (fun u7 g8 => [(2, .slice none 0 0), (3, .int .i64 0), (5, g8.v), (6, .int .i64 u7.1), (14, s0_.v)]) (fun u7 g8 => Sat w0 (keys ([] : List Ent)) A [.row R33 (SV.v g8) u7.2, .ro (RdS R49 (SV.v s0_) a0)]) ⟨rfl, rfl, rfl, rfl, rfl, rfl, rfl, trivial⟩ (fun _ h => h.picks [0, 0] rfl) (nat_lt _) (fun _ h => (FactAt.get (.ro 1 rfl) h).1) (fun _ _ => ⟨rfl, rfl, rfl, rfl⟩) ⟨rfl, rfl, rfl, rfl, rfl⟩ rfl rfl rfl (fun u7 g8 e => ?_) (fun aftk9 i3 x4 u7 g8 k9 hx5 hs J hJk9 hBk9 hX I cnk9 => ?_)
    · have hm := Flow.fin_b e hm
      refine nj_seq ?_
      refine cj_seq ?_
      refine cj_reg ?_
      refine lp rfl (p_mv rfl) ?_
      refine lp rfl (p_as rfl) ?_
      refine lp rfl (p_as rfl) ?_
      refine lj_seq ?_
      obtain rfl := Option.some.inj hm
      exact cj_rt g8 [0] Try.results8 (.tmp rfl (.tmp rfl .nil)) rfl rfl
    · have hRk9 : ∀ t, k9 = .ret t → some t = some r := fun t e => by rw [hX t e] at hm; exact hm
      have hm := hs
      refine cj_seq ?_
      refine cj_reg ?_
      refine lp rfl (p_idx Try.underlying26 ty49 rfl rfl (.ro 1 rfl) (getI_nat.trans hx5)) ?_
      refine lp rfl (p_lea ty49 rfl (.ro 1 rfl) hx5) ?_
      refine r_al ty49 rfl (fun b11 => ?_)
      refine r_sb (vs := [.int .i64 x4.Beats, .int .i64 x4.Unit, .int .i64 x4.Close, .int .i64 x4.Ending, .bool x4.Open]) (j := 0) ty49 rfl rfl rfl rfl rfl rfl rfl ?_
      refine lj_seq ?_
      refine cj_seq ?_
      refine cj_reg ?_
      refine lp rfl (p_mv rfl) ?_
      refine lp rfl (p_mv rfl) ?_
      obtain ⟨y12, hy12, hm⟩ := bindS hm
      refine r_call [] cf23 rfl rfl (ok_piece_fraction u7.1 hy12) rfl rfl .nil (fun _ => rfl) rfl (fun _ => ?_)
      refine r_bs R33 [y12] rfl rfl rfl (fun _ => by kernel_rfl) rfl (fun s13 => ?_)
      obtain ⟨q14, hq14, hm⟩ := bindS hm
      refine r_app (k := 2) Try.underlying36 ty33 rfl rfl rfl rfl (.row 0 rfl) hq14 rfl (fun s15 => ?_)
      refine lp rfl (p_as rfl) ?_
      refine lj_seq ?_
      refine cj_reg ?_
      refine lp rfl (p_mv rfl) ?_
      refine lp rfl (p_lbw ty49 rfl (j := 1) rfl rfl) ?_
      obtain ⟨y16, hy16, hm⟩ := bindS hm
      refine r_call [] cf22 rfl rfl (ok_piece_long x4 hy16) rfl rfl .nil (fun _ => rfl) rfl (fun _ => ?_)
      refine lp rfl (p_add rfl rfl) ?_
      refine lp rfl (p_as rfl) ?_
      refine lj_nil ?_
      refine nj_blk ?_
      exact cnk9 _ _ (w64 (u7.1 + y16), q14) s15 (hJk9 _ (Option.some.inj hm).symm) ⟨rfl, rfl, rfl, rfl, rfl, rfl, rfl, trivial⟩ (fun _ h => h.picks [2, 2] rfl)
theorem ok_gleeref2_OrderOf (s0_ : SV) (a0 : (List Bar)) {r : (List Int)} (hm : m_gleeref2_OrderOf a0 = some r) :
    Ctr Try.prog 10 [s0_.v].toArray ([] : List Ent) [RdS R49 s0_.v a0] (X := SV) (fun s => s.v) (fun s => [.row R3 s.v r]) := by
  unfold m_gleeref2_OrderOf at hm
  refine ctr_mk (vs := [(0, s0_.v)]) Try.func10 rfl Try.ntmps10 rfl ⟨rfl, trivial⟩ (fun w0 A => ?_)
  refine cj_seq ?_
  refine cj_reg ?_
  refine lp rfl (p_as rfl) ?_
  refine lj_seq ?_
  refine cj_seq ?_
  refine cj_reg ?_
  refine lp rfl (p_as rfl) ?_
  refine lj_seq ?_
  refine cj_seq ?_
  refine cj_seq ?_
  refine cj_reg ?_
  refine lp rfl (p_as rfl) ?_
  refine lj_seq ?_
  refine cj_nil R3 ?_
  obtain ⟨f5, hf5, hm⟩ := bindS hm
  refine cj_whileA (γ := SV) hf5 nilS (fun u2 g3 => [(0, s0_.v), (2, .slice none 0 0), (3, g3.v), (4, .int .i64 u2.1)]) (fun u2 g3 => Sat w0 (keys ([] : List Ent)) A [.row R3 (SV.v g3) u2.2, .ro (RdS R49 (SV.v s0_) a0)]) ⟨rfl, rfl, rfl, rfl, trivial⟩ (fun _ h => h.picks [0, 0] rfl) (fun u2 g3 e => ?_) (fun aftk4 u2 g3 k4 hs J hJk4 hBk4 hX I cnk4 => ?_)
  · have hm := Flow.fin_b e hm
    refine nj_seq ?_
    refine cj_seq ?_
    refine cj_reg ?_
    refine lp rfl (p_mv rfl) ?_
    refine lp rfl (p_as rfl) ?_
    refine lj_seq ?_
    obtain rfl := Option.some.inj hm
    exact cj_rt g3 [0] Try.results10 (.tmp rfl .nil) rfl rfl
  · have hRk4 : ∀ t, k4 = .ret t → some t = some r := fun t e => by rw [hX t e] at hm; exact hm
    have hm := hs
    refine cj_seq ?_
    refine cj_seq ?_
    refine cj_reg ?_
    refine lp rfl (p_mv rfl) ?_
    refine lp rfl (p_mv rfl) ?_
    refine lp rfl (p_len Try.underlying26 rfl (.ro 1 rfl)) ?_
    refine lp rfl (p_lss rfl rfl) ?_
    refine lj_seq ?_
    refine cj_if (b := decide (u2.1 < (a0.length : Int))) rfl (fun hb => ?_) (fun hb => ?_)
    · have hm := ifB_t hb hm
      refine cj_skip ?_
      refine nj_seq ?_
      refine cj_seq ?_
      refine cj_blk ?_
      refine cj_seq ?_
      refine cj_seq ?_
      refine cj_reg ?_
      refine lp rfl (p_mv rfl) ?_
      refine lp rfl (p_mv rfl) ?_
      obtain ⟨e6, he6, hm⟩ := bindS hm
      refine lp rfl (p_idx Try.underlying26 ty49 rfl rfl (.ro 1 rfl) he6) ?_
      refine lp rfl (p_fae fl49_4 rfl (.ro 1 rfl) (getI_spec he6).2) ?_
      refine lp rfl (p_lde (o := 4) ty4 rfl rfl (.ro 1 rfl) (getI_spec he6).2 rfl) ?_
      refine lp rfl (p_not rfl) ?_
      refine lj_seq ?_
      refine cj_if (b := !e6.Open) rfl (fun hb => ?_) (fun hb => ?_)
      · have hm := ifB_t hb hm
        refine cj_seq ?_
        refine cj_reg ?_
        refine lp rfl (p_mv rfl) ?_
        refine lp rfl (p_mv rfl) ?_
        refine r_bs R3 [u2.1] rfl rfl rfl (fun _ => by kernel_rfl) rfl (fun s7 => ?_)
        obtain ⟨q8, hq8, hm⟩ := bindS hm
        refine r_app (k := 1) Try.underlying22 ty3 rfl rfl rfl rfl (.row 0 rfl) hq8 rfl (fun s9 => ?_)
        refine lp rfl (p_as rfl) ?_
        refine lj_seq ?_
        refine cj_exit rfl ?_
        refine nj_seq ?_
        refine cj_reg ?_
        refine lp rfl (p_mv rfl) ?_
        refine lp rfl (p_add rfl rfl) ?_
        refine lp rfl (p_as rfl) ?_
        refine lj_nil ?_
        exact cnk4 _ _ (w64 (u2.1 + 1), q8) s9 (hJk4 _ (Option.some.inj hm).symm) ⟨rfl, rfl, rfl, rfl, trivial⟩ (fun _ h => h.picks [1, 1] rfl)
      · have hm := ifB_f hb hm
        refine cj_skip ?_
        refine nj_seq ?_
        refine cj_seq ?_
        refine cj_reg ?_
        refine lp rfl (p_mv rfl) ?_
        refine lp rfl (p_as rfl) ?_
        refine lj_seq ?_
        refine cj_seq ?_
        obtain ⟨f13, hf13, hm⟩ := bindS hm
        refine cj_whileA (γ := Unit) hf13 () (fun u10 g11 => [(0, s0_.v), (2, .slice none 0 0), (3, g3.v), (4, .int .i64 u2.1), (5, .int .i64 u10)]) (fun u10 g11 => Sat w0 (keys ([] : List Ent)) A [.row R3 (SV.v g3) u2.2, .ro (RdS R49 (SV.v s0_) a0)]) ⟨rfl, rfl, rfl, rfl, rfl, trivial⟩ (fun _ h => h.picks [0, 0] rfl) (fun u10 g11 e => ?_) (fun aftk12 u10 g11 k12 hs J hJk12 hBk12 hX I cnk12 => ?_)
        · have hm := Flow.fin_b e hm
          refine nj_seq ?_
          refine cj_seq ?_
          refine cj_seq ?_
          refine cj_reg ?_
          refine lp rfl (p_as rfl) ?_
          refine lj_seq ?_
          obtain ⟨f18, hf18, hm⟩ := bindS hm
          refine cj_whileA (γ := SV) hf18 g3 (fun u15 g16 => [(0, s0_.v), (2, .slice none 0 0), (3, g16.v), (4, .int .i64 u2.1), (5, .int .i64 u10), (6, .int .i64 u15.1)]) (fun u15 g16 => Sat w0 (keys ([] : List Ent)) A [.row R3 (SV.v g16) u15.2, .ro (RdS R49 (SV.v s0_) a0)]) ⟨rfl, rfl, rfl, rfl, rfl, rfl, trivial⟩ (fun _ h => h.picks [0, 0] rfl) (fun u15 g16 e => ?_) (fun aftk17 u15 g16 k17 hs J hJk17 hBk17 hX I cnk17 => ?_)
          · have hm := Flow.fin_b e hm
            refine nj_seq ?_
            refine cj_reg ?_
            refine lp rfl (p_mv rfl) ?_
            refine lp rfl (p_as rfl) ?_
            refine lj_nil ?_
            refine nj_blk ?_
            refine nj_seq ?_
            refine cj_reg ?_
            refine lp rfl (p_mv rfl) ?_
            refine lp rfl (p_add rfl rfl) ?_
            refine lp rfl (p_as rfl) ?_
            refine lj_nil ?_
            exact cnk4 _ _ (w64 (u10 + 1), u15.2) g16 (hJk4 _ (Option.some.inj hm).symm) ⟨rfl, rfl, rfl, rfl, trivial⟩ (fun _ h => h.picks [0, 0] rfl)
          · have hRk17 : ∀ t, k17 = .ret t → some t = some k4 := fun t e => by rw [hX t e] at hm; exact hm
            have hm := hs
            refine cj_seq ?_
            refine cj_seq ?_
            refine cj_reg ?_
            refine lp rfl (p_mv rfl) ?_
            refine lp rfl (p_mv rfl) ?_
            refine lp rfl (p_mv rfl) ?_
            obtain ⟨e19, he19, hm⟩ := bindS hm
            refine lp rfl (p_idx Try.underlying26 ty49 rfl rfl (.ro 1 rfl) he19) ?_
            refine lp rfl (p_fae fl49_2 rfl (.ro 1 rfl) (getI_spec he19).2) ?_
            refine lp rfl (p_lde (o := 2) ty3 rfl rfl (.ro 1 rfl) (getI_spec he19).2 rfl) ?_
            refine lp rfl (p_leq rfl rfl) ?_
            refine lj_seq ?_
            refine cj_if (b := decide (u15.1 ≤ e19.Close)) rfl (fun hb => ?_) (fun hb => ?_)
            · have hm := ifB_t hb hm
              refine cj_skip ?_
              refine nj_seq ?_
              refine cj_seq ?_
              refine cj_blk ?_
              refine cj_seq ?_
              refine cj_reg ?_
              refine lp rfl (p_mv rfl) ?_
              refine lp rfl (p_as rfl) ?_
              refine lj_seq ?_
              obtain ⟨f23, hf23, hm⟩ := bindS hm
              refine cj_whileA (γ := SV) hf23 g16 (fun u20 g21 => [(0, s0_.v), (2, .slice none 0 0), (3, g21.v), (4, .int .i64 u2.1), (5, .int .i64 u10), (6, .int .i64 u15.1), (7, .int .i64 u20.1)]) (fun u20 g21 => Sat w0 (keys ([] : List Ent)) A [.row R3 (SV.v g21) u20.2, .ro (RdS R49 (SV.v s0_) a0)]) ⟨rfl, rfl, rfl, rfl, rfl, rfl, rfl, trivial⟩ (fun _ h => h.picks [0, 0] rfl) (fun u20 g21 e => ?_) (fun aftk22 u20 g21 k22 hs J hJk22 hBk22 hX I cnk22 => ?_)
              · have hm := Flow.fin_b e hm
                refine nj_blk ?_
                refine nj_seq ?_
                refine cj_reg ?_
                refine lp rfl (p_mv rfl) ?_
                refine lp rfl (p_add rfl rfl) ?_
                refine lp rfl (p_as rfl) ?_
                refine lj_nil ?_
                exact cnk17 _ _ (w64 (u15.1 + 1), u20.2) g21 (hJk17 _ (Option.some.inj hm).symm) ⟨rfl, rfl, rfl, rfl, rfl, rfl, trivial⟩ (fun _ h => h.picks [0, 0] rfl)
              · have hRk22 : ∀ t, k22 = .ret t → some t = some k17 := fun t e => by rw [hX t e] at hm; exact hm
                have hm := hs
                refine cj_seq ?_
                refine cj_seq ?_
                refine cj_reg ?_
                refine lp rfl (p_mv rfl) ?_
                refine lp rfl (p_mv rfl) ?_
                refine lp rfl (p_leq rfl rfl) ?_
                refine lj_seq ?_
                refine cj_if (b := decide (u20.1 ≤ u10)) rfl (fun hb => ?_) (fun hb => ?_)
                · have hm := ifB_t hb hm
                  refine cj_skip ?_
                  refine nj_seq ?_
                  refine cj_seq ?_
                  refine cj_blk ?_
                  refine cj_seq ?_
                  refine cj_reg ?_
                  obtain ⟨k26, hk26, hm⟩ := bindS hm
                  have hRk26 : ∀ t, k26 = .inr t → some t = some k22 := fun t e => by rw [e] at hm; exact hm
                  refine lj_join (σ := Bool) (γ := Unit) (fun u24 => k26 = .inl u24) (fun u24 g25 => [(3, g21.v), (0, s0_.v), (2, .slice none 0 0), (7, .int .i64 u20.1), (4, .int .i64 u2.1), (5, .int .i64 u10), (6, .int .i64 u15.1), (62, .bool u24)]) (fun u24 g25 => Sat w0 (keys ([] : List Ent)) A [.row R3 (SV.v g21) u20.2, .ro (RdS R49 (SV.v s0_) a0)]) (fun u24 g25 hq => ?_) (fun J cnk26 => ?_)
                  · have hm := Sum.fin_l hq hm
                    refine cj_if (b := u24) rfl (fun hb => ?_) (fun hb => ?_)
                    · have hm := ifB_t hb hm
                      refine cj_reg ?_
                      refine lp rfl (p_mv rfl) ?_
                      refine lp rfl (p_mv rfl) ?_
                      refine r_bs R3 [u20.1] rfl rfl rfl (fun _ => by kernel_rfl) rfl (fun s29 => ?_)
                      obtain ⟨q30, hq30, hm⟩ := bindS hm
                      refine r_app (k := 1) Try.underlying22 ty3 rfl rfl rfl rfl (.row 0 rfl) hq30 rfl (fun s31 => ?_)
                      refine lp rfl (p_as rfl) ?_
                      refine lj_nil ?_
                      refine nj_blk ?_
                      refine nj_seq ?_
                      refine cj_reg ?_
                      refine lp rfl (p_mv rfl) ?_
                      refine lp rfl (p_add rfl rfl) ?_
                      refine lp rfl (p_as rfl) ?_
                      refine lj_nil ?_
                      exact cnk22 _ _ (w64 (u20.1 + 1), q30) s31 (hJk22 _ (Option.some.inj hm).symm) ⟨rfl, rfl, rfl, rfl, rfl, rfl, rfl, trivial⟩ (fun _ h => h.picks [1, 1] rfl)
                    · have hm := ifB_f hb hm
                      refine cj_skip ?_
                      refine nj_blk ?_
                      refine nj_seq ?_
                      refine cj_reg ?_
                      refine lp rfl (p_mv rfl) ?_
                      refine lp rfl (p_add rfl rfl) ?_
                      refine lp rfl (p_as rfl) ?_
                      refine lj_nil ?_
                      exact cnk22 _ _ (w64 (u20.1 + 1), u20.2) g21 (hJk22 _ (Option.some.inj hm).symm) ⟨rfl, rfl, rfl, rfl, rfl, rfl, rfl, trivial⟩ (fun _ h => h.picks [0, 0] rfl)
                  · have hm := hk26
                    refine lp rfl (p_mv rfl) ?_
                    refine lp rfl (p_mv rfl) ?_
                    obtain ⟨e27, he27, hm⟩ := bindS hm
                    refine lp rfl (p_idx Try.underlying26 ty49 rfl rfl (.ro 1 rfl) he27) ?_
                    refine lp rfl (p_fae fl49_3 rfl (.ro 1 rfl) (getI_spec he27).2) ?_
                    refine lp rfl (p_lde (o := 3) ty3 rfl rfl (.ro 1 rfl) (getI_spec he27).2 rfl) ?_
                    refine lp rfl (p_eql rfl rfl) ?_
                    refine lp rfl (p_mv rfl) ?_
                    refine lcase (i := 54) (e27.Ending == 0) rfl (fun hb => ?_) (fun hb => ?_)
                    · have hm := ifB_t hb hm
                      refine ls false rfl rfl rfl rfl ?_
                      refine ls false rfl rfl rfl rfl ?_
                      refine ls false rfl rfl rfl rfl ?_
                      refine ls false rfl rfl rfl rfl ?_
                      refine ls false rfl rfl rfl rfl ?_
                      refine ls false rfl rfl rfl rfl ?_
                      refine ls false rfl rfl rfl rfl ?_
                      refine lp rfl (p_pkt rfl rfl) ?_
                      refine lj_nil ?_
                      exact cnk26 _ _ true () (Option.some.inj hm).symm ⟨rfl, rfl, rfl, rfl, rfl, rfl, rfl, rfl, trivial⟩ (fun _ h => h.picks [0, 0] rfl)
                    · have hm := ifB_f hb hm
                      refine lg false rfl rfl rfl ?_
                      refine lp rfl (p_mv rfl) ?_
                      refine lg false rfl rfl rfl ?_
                      refine lp rfl (p_mv rfl) ?_
                      refine lg false rfl rfl rfl ?_
                      obtain ⟨e28, he28, hm⟩ := bindS hm
                      refine lp rfl (p_idx Try.underlying26 ty49 rfl rfl (.ro 1 rfl) he28) ?_
                      refine lg false rfl rfl rfl ?_
                      refine lp rfl (p_fae fl49_3 rfl (.ro 1 rfl) (getI_spec he28).2) ?_
                      refine lg false rfl rfl rfl ?_
                      refine lp rfl (p_lde (o := 3) ty3 rfl rfl (.ro 1 rfl) (getI_spec he28).2 rfl) ?_
                      refine lg false rfl rfl rfl ?_
                      refine lp rfl (p_mv rfl) ?_
                      refine lg false rfl rfl rfl ?_
                      refine lp rfl (p_eql rfl rfl) ?_
                      refine lp rfl (p_pkf rfl rfl) ?_
                      refine lj_nil ?_
                      exact cnk26 _ _ (e28.Ending == u15.1) () (Option.some.inj hm).symm ⟨rfl, rfl, rfl, rfl, rfl, rfl, rfl, rfl, trivial⟩ (fun _ h => h.picks [0, 0] rfl)
                · have hm := ifB_f hb hm
                  refine cj_exit rfl ?_
                  exact (aftk22 (u20.1, u20.2) g21 (hBk22 _ (Option.some.inj hm).symm)).sub ⟨rfl, rfl, rfl, rfl, rfl, rfl, rfl, trivial⟩ (fun _ h => h.picks [0, 0] rfl)
            · have hm := ifB_f hb hm
              refine cj_exit rfl ?_
              exact (aftk17 (u15.1, u15.2) g16 (hBk17 _ (Option.some.inj hm).symm)).sub ⟨rfl, rfl, rfl, rfl, rfl, rfl, trivial⟩ (fun _ h => h.picks [0, 0] rfl)
        · have hRk12 : ∀ t, k12 = .ret t → some t = some k4 := fun t e => by rw [hX t e] at hm; exact hm
          have hm := hs
          refine cj_seq ?_
          refine cj_seq ?_
          refine cj_reg ?_
          refine lp rfl (p_mv rfl) ?_
          refine lp rfl (p_mv rfl) ?_
          obtain ⟨e14, he14, hm⟩ := bindS hm
          refine lp rfl (p_idx Try.underlying26 ty49 rfl rfl (.ro 1 rfl) he14) ?_
          refine lp rfl (p_fae fl49_2 rfl (.ro 1 rfl) (getI_spec he14).2) ?_
          refine lp rfl (p_lde (o := 2) ty3 rfl rfl (.ro 1 rfl) (getI_spec he14).2 rfl) ?_
          refine lp rfl (p_eql rfl rfl) ?_
          refine lj_seq ?_
          refine cj_if (b := e14.Close == 0) rfl (fun hb => ?_) (fun hb => ?_)
          · have hm := ifB_t hb hm
            refine cj_skip ?_
            refine nj_seq ?_
            refine cj_blk ?_
            refine cj_reg ?_
            refine lp rfl (p_mv rfl) ?_
            refine lp rfl (p_add rfl rfl) ?_
            refine lp rfl (p_as rfl) ?_
            refine lj_nil ?_
            refine nj_blk ?_
            exact cnk12 _ _ (w64 (u10 + 1)) () (hJk12 _ (Option.some.inj hm).symm) ⟨rfl, rfl, rfl, rfl, rfl, trivial⟩ (fun _ h => h.picks [0, 0] rfl)
          · have hm := ifB_f hb hm
            refine cj_exit rfl ?_
            exact (aftk12 u10 () (hBk12 _ (Option.some.inj hm).symm)).sub ⟨rfl, rfl, rfl, rfl, rfl, trivial⟩ (fun _ h => h.picks [0, 0] rfl)
    · have hm := ifB_f hb hm
      refine cj_exit rfl ?_
      exact (aftk4 (u2.1, u2.2) g3 (hBk4 _ (Option.some.inj hm).symm)).sub ⟨rfl, rfl, rfl, rfl, trivial⟩ (fun _ h => h.picks [0, 0] rfl)
theorem ok_gleeref2_BeginsOf (s0_ : SV) (a0 : (List Bar)) {r : (List Fraction)} (hm : m_gleeref2_BeginsOf a0 = some r) :
    Ctr Try.prog 12 [s0_.v].toArray ([] : List Ent) [RdS R49 s0_.v a0] (X := SV) (fun s => s.v) (fun s => [.row R33 s.v r]) := by
  unfold m_gleeref2_BeginsOf at hm
  refine ctr_mk (vs := [(0, s0_.v)]) Try.func12 rfl Try.ntmps12 rfl ⟨rfl, trivial⟩ (fun w0 A => ?_)
  refine cj_seq ?_
  refine cj_reg ?_
  refine lp rfl (p_as rfl) ?_
  refine lj_seq ?_
  refine cj_seq ?_
  refine cj_reg ?_
  refine lp rfl (p_as rfl) ?_
  refine lj_seq ?_
  refine cj_seq ?_
  refine cj_reg ?_
  refine lp rfl (p_as rfl) ?_
  refine lj_seq ?_
  refine cj_seq ?_
  refine cj_seq ?_
  refine cj_reg ?_
  refine lp rfl (p_mv rfl) ?_
  refine lp rfl (p_len Try.underlying26 rfl (.ro 0 rfl)) ?_
  refine lp rfl (p_mv rfl) ?_
  refine lj_seq ?_
  refine cj_nil R33 ?_
  obtain ⟨f8, hf8, hm⟩ := bindS hm
  refine cj_range (γ := SV) (m := (a0.length : Int)) hf8 nilS (fun u5 g6 => [(2, .slice none 0 0), (3, g6.v), (4, .int .i64 u5.1), (7, s0_.v)]) (fun u5 g6 => Sat w0 (keys ([] : List Ent)) A [.row R33 (SV.v g6) u5.2, .ro (RdS R49 (SV.v s0_) a0)]) ⟨rfl, rfl, rfl, rfl, rfl, rfl, trivial⟩ (fun _ h => h.picks [0, 0] rfl) (nat_lt _) (fun _ h => (FactAt.get (.ro 1 rfl) h).1) (fun _ _ => ⟨rfl, rfl, rfl, rfl⟩) ⟨rfl, rfl, rfl, rfl, rfl⟩ rfl rfl rfl (fun u5 g6 e => ?_) (fun aftk7 i1 x2 u5 g6 k7 hx3 hs J hJk7 hBk7 hX I cnk7 => ?_)
  · have hm := Flow.fin_b e hm
    refine nj_seq ?_
    refine cj_seq ?_
    refine cj_reg ?_
    refine lp rfl (p_mv rfl) ?_
    refine lp rfl (p_as rfl) ?_
    refine lj_seq ?_
    obtain rfl := Option.some.inj hm
    exact cj_rt g6 [0] Try.results12 (.tmp rfl .nil) rfl rfl
  · have hRk7 : ∀ t, k7 = .ret t → some t = some r := fun t e => by rw [hX t e] at hm; exact hm
    have hm := hs
    refine cj_seq ?_
    refine cj_reg ?_
    refine lp rfl (p_idx Try.underlying26 ty49 rfl rfl (.ro 1 rfl) (getI_nat.trans hx3)) ?_
    refine lp rfl (p_lea ty49 rfl (.ro 1 rfl) hx3) ?_
    refine r_al ty49 rfl (fun b9 => ?_)
    refine r_sb (vs := [.int .i64 x2.Beats, .int .i64 x2.Unit, .int .i64 x2.Close, .int .i64 x2.Ending, .bool x2.Open]) (j := 0) ty49 rfl rfl rfl rfl rfl rfl rfl ?_
    refine lj_seq ?_
    refine cj_seq ?_
    refine cj_reg ?_
    refine lp rfl (p_mv rfl) ?_
    refine lp rfl (p_mv rfl) ?_
    obtain ⟨y10, hy10, hm⟩ := bindS hm
    refine r_call [] cf27 rfl rfl (ok_gleeref2_Lowest u5.1 192 hy10) rfl rfl .nil (fun _ => rfl) rfl (fun _ => ?_)
    refine r_bs R33 [y10] rfl rfl rfl (fun _ => by kernel_rfl) rfl (fun s11 => ?_)
    obtain ⟨q12, hq12, hm⟩ := bindS hm
    refine r_app (k := 2) Try.underlying36 ty33 rfl rfl rfl rfl (.row 0 rfl) hq12 rfl (fun s13 => ?_)
    refine lp rfl (p_as rfl) ?_
    refine lj_seq ?_
    refine cj_reg ?_
    refine lp rfl (p_mv rfl) ?_
    refine lp rfl (p_lbw ty49 rfl (j := 1) rfl rfl) ?_
    obtain ⟨y14, hy14, hm⟩ := bindS hm
    refine r_call [] cf26 rfl rfl (ok_gleeref2_barUnits x2 hy14) rfl rfl .nil (fun _ => rfl) rfl (fun _ => ?_)
    refine lp rfl (p_add rfl rfl) ?_
    refine lp rfl (p_as rfl) ?_
    refine lj_nil ?_
    refine nj_blk ?_
    exact cnk7 _ _ (w64 (u5.1 + y14), q12) s13 (hJk7 _ (Option.some.inj hm).symm) ⟨rfl, rfl, rfl, rfl, rfl, rfl, trivial⟩ (fun _ h => h.picks [2, 2] rfl)
theorem ok_gleeref2_LongOf (s0_ : SV) (a0 : (List Bar)) {r : Fraction} (hm : m_gleeref2_LongOf a0 = some r) :
    Ctr Try.prog 11 [s0_.v].toArray ([] : List Ent) [RdS R49 s0_.v a0] (X := Unit) (fun _ => .agg (R33.enc r).toArray) (fun _ => []) := by
  unfold m_gleeref2_LongOf at hm
  refine ctr_mk (vs := [(0, s0_.v)]) Try.func11 rfl Try.ntmps11 rfl ⟨rfl, trivial⟩ (fun w0 A => ?_)
  refine cj_seq ?_
  refine cj_reg ?_
  refine r_al ty33 rfl (fun b1 => ?_)
  refine lj_seq ?_
  refine cj_seq ?_
  refine cj_reg ?_
  refine lp rfl (p_as rfl) ?_
  refine lj_seq ?_
  refine cj_seq ?_
  refine cj_seq ?_
  refine cj_reg ?_
  refine lp rfl (p_mv rfl) ?_
  obtain ⟨y2, hy2, hm⟩ := bindS hm
  refine r_call [] cf10 rfl rfl (ok_gleeref2_OrderOf s0_ a0 hy2) rfl rfl (.cons (.ro 1 rfl) .nil) (fun _ => rfl) rfl (fun s3 => ?_)
  refine lp rfl (p_len Try.underlying22 rfl (.row 0 rfl)) ?_
  refine lp rfl (p_mv rfl) ?_
  refine lj_seq ?_
  obtain ⟨f10, hf10, hm⟩ := bindS hm
  refine cj_range (γ := Unit) (m := (y2.length : Int)) hf10 () (fun u7 g8 => [(0, s0_.v), (2, .pointer (some ⟨b1, 0, none⟩)), (3, .int .i64 u7), (7, s3.v)]) (fun u7 g8 => Sat w0 (keys ([] : List Ent)) A [.row R3 (SV.v s3) y2, .box b1 33 [.int .i64 0, .int .i64 0], .ro (RdS R49 (SV.v s0_) a0)]) ⟨rfl, rfl, rfl, rfl, rfl, rfl, trivial⟩ (fun _ h => h.picks [0, 0, 0] rfl) (nat_lt _) (fun _ h => (FactAt.get (.row 0 rfl) h).1) (fun _ _ => ⟨rfl, rfl, rfl, rfl⟩) ⟨rfl, rfl, rfl, rfl, rfl⟩ rfl rfl rfl (fun u7 g8 e => ?_) (fun aftk9 i4 x5 u7 g8 k9 hx6 hs J hJk9 hBk9 hX I cnk9 => ?_)
  · have hm := Flow.fin_b e hm
    refine nj_seq ?_
    refine cj_seq ?_
    refine cj_reg ?_
    refine lp rfl (p_mv rfl) ?_
    obtain ⟨y13, hy13, hm⟩ := bindS hm
    refine r_call [] cf27 rfl rfl (ok_gleeref2_Lowest u7 192 hy13) rfl rfl .nil (fun _ => rfl) rfl (fun _ => ?_)
    refine r_sb (vs := [.int .i64 y13.Num, .int .i64 y13.Den]) (j := 1) ty33 rfl rfl rfl rfl rfl rfl rfl ?_
    refine lj_seq ?_
    obtain rfl := Option.some.inj hm
    exact cj_rt () [] Try.results11 (.agg (k := 1) ty33 rfl rfl rfl .nil) rfl rfl
  · have hRk9 : ∀ t, k9 = .ret t → some t = some r := fun t e => by rw [hX t e] at hm; exact hm
    have hm := hs
    refine cj_seq ?_
    refine cj_reg ?_
    refine lp rfl (p_idx Try.underlying22 ty3 rfl rfl (.row 0 rfl) (getI_nat.trans hx6)) ?_
    refine lp rfl (p_lde (o := 0) ty3 rfl rfl (.row 0 rfl) hx6 rfl) ?_
    refine lp rfl (p_as rfl) ?_
    refine lj_seq ?_
    refine cj_reg ?_
    refine lp rfl (p_mv rfl) ?_
    refine lp rfl (p_mv rfl) ?_
    refine lp rfl (p_mv rfl) ?_
    obtain ⟨e11, he11, hm⟩ := bindS hm
    refine lp rfl (p_idx Try.underlying26 ty49 rfl rfl (.ro 2 rfl) he11) ?_
    refine lp rfl (p_lea ty49 rfl (.ro 2 rfl) (getI_spec he11).2) ?_
    obtain ⟨y12, hy12, hm⟩ := bindS hm
    refine r_call [] cf26 rfl rfl (ok_gleeref2_barUnits e11 hy12) rfl rfl .nil (fun _ => rfl) rfl (fun _ => ?_)
    refine lp rfl (p_add rfl rfl) ?_
    refine lp rfl (p_as rfl) ?_
    refine lj_nil ?_
    refine nj_blk ?_
    exact cnk9 _ _ (w64 (u7 + y12)) () (hJk9 _ (Option.some.inj hm).symm) ⟨rfl, rfl, rfl, rfl, rfl, rfl, trivial⟩ (fun _ h => h.picks [0, 0, 0] rfl)
theorem ok_gleeref2_BarsFault (s0_ : SV) (a0 : (List Bar)) {r : Int} (hm : m_gleeref2_BarsFault a0 = some r) :
    Ctr Try.prog 9 [s0_.v].toArray ([] : List Ent) [RdS R49 s0_.v a0] (X := Unit) (fun _ => .int .i64 r) (fun _ => []) := by
  unfold m_gleeref2_BarsFault at hm
  refine ctr_mk (vs := [(0, s0_.v)]) Try.func9 rfl Try.ntmps9 rfl ⟨rfl, trivial⟩ (fun w0 A => ?_)
  refine cj_seq ?_
  refine cj_reg ?_
  refine lp rfl (p_as rfl) ?_
  refine lj_seq ?_
  refine cj_seq ?_
  refine cj_blk ?_
  refine cj_seq ?_
  refine cj_reg ?_
  refine lp rfl (p_mv rfl) ?_
  refine lp rfl (p_len Try.underlying26 rfl (.ro 0 rfl)) ?_
  refine lp rfl (p_eql rfl rfl) ?_
  refine lp rfl (p_as rfl) ?_
  refine lj_seq ?_
  refine cj_if (b := (a0.length : Int) == 0) rfl (fun hb => ?_) (fun hb => ?_)
  · have hm := ifB_t hb hm
    refine cj_seq ?_
    refine cj_reg ?_
    refine lp rfl (p_as rfl) ?_
    refine lj_seq ?_
    obtain rfl := Option.some.inj hm
    exact cj_rt () [] Try.results9 (.tmp rfl .nil) rfl rfl
  · have hm := ifB_f hb hm
    refine cj_seq ?_
    refine cj_reg ?_
    refine lp rfl (p_mv rfl) ?_
    refine lp rfl (p_len Try.underlying26 rfl (.ro 0 rfl)) ?_
    refine lp rfl (p_gtr rfl rfl) ?_
    refine lp rfl (p_as rfl) ?_
    refine lj_seq ?_
    refine cj_if (b := decide ((a0.length : Int) > 300)) rfl (fun hb => ?_) (fun hb => ?_)
    · have hm := ifB_t hb hm
      refine cj_seq ?_
      refine cj_reg ?_
      refine lp rfl (p_as rfl) ?_
      refine lj_seq ?_
      obtain rfl := Option.some.inj hm
      exact cj_rt () [] Try.results9 (.tmp rfl .nil) rfl rfl
    · have hm := ifB_f hb hm
      refine cj_skip ?_
      refine nj_blk ?_
      refine nj_seq ?_
      refine cj_seq ?_
      refine cj_reg ?_
      refine lp rfl (p_as rfl) ?_
      refine lp rfl (p_as rfl) ?_
      refine lp rfl (p_as rfl) ?_
      refine lj_seq ?_
      refine cj_seq ?_
      refine cj_reg ?_
      refine lp rfl (p_as rfl) ?_
      refine lj_seq ?_
      refine cj_seq ?_
      refine cj_seq ?_
      refine cj_reg ?_
      refine lp rfl (p_mv rfl) ?_
      refine lp rfl (p_len Try.underlying26 rfl (.ro 0 rfl)) ?_
      refine lp rfl (p_mv rfl) ?_
      refine lj_seq ?_
      obtain ⟨f7, hf7, hm⟩ := bindS hm
      refine cj_range (γ := Unit) (m := (a0.length : Int)) hf7 () (fun u4 g5 => [(0, s0_.v), (2, .int .i64 u4.1), (3, .bool u4.2.1), (4, .int .i64 u4.2.2.1), (5, .int .i64 u4.2.2.2.1), (6, .bool u4.2.2.2.2), (17, s0_.v)]) (fun u4 g5 => Sat w0 (keys ([] : List Ent)) A [.ro (RdS R49 (SV.v s0_) a0)]) ⟨rfl, rfl, rfl, rfl, rfl, rfl, rfl, rfl, rfl, trivial⟩ (fun _ h => h.picks [0] rfl) (nat_lt _) (fun _ h => (FactAt.get (.ro 0 rfl) h).1) (fun _ _ => ⟨rfl, rfl, rfl, rfl⟩) ⟨rfl, rfl, rfl, rfl, rfl⟩ rfl rfl rfl (fun u4 g5 e => ?_) (fun aftk6 i1 x2 u4 g5 k6 hx3 hs J hJk6 hBk6 hX I cnk6 => ?_)
      · have hm := Flow.fin_b e hm
        refine nj_seq ?_
        refine cj_seq ?_
        refine cj_seq ?_
        refine cj_reg ?_
        obtain ⟨k29, hk29, hm⟩ := bindS hm
        have hRk29 : ∀ t, k29 = .inr t → some t = some r := fun t e => by rw [e] at hm; exact hm
        refine lj_join (σ := Bool) (γ := Unit) (fun u27 => k29 = .inl u27) (fun u27 g28 => [(96, .bool u27), (0, s0_.v), (2, .int .i64 u4.1)]) (fun u27 g28 => Sat w0 (keys ([] : List Ent)) A [.ro (RdS R49 (SV.v s0_) a0)]) (fun u27 g28 hq => ?_) (fun J cnk29 => ?_)
        · have hm := Sum.fin_l hq hm
          refine cj_if (b := u27) rfl (fun hb => ?_) (fun hb => ?_)
          · have hm := ifB_t hb hm
            refine cj_seq ?_
            refine cj_reg ?_
            refine lp rfl (p_as rfl) ?_
            refine lj_seq ?_
            obtain rfl := Option.some.inj hm
            exact cj_rt () [] Try.results9 (.tmp rfl .nil) rfl rfl
          · have hm := ifB_f hb hm
            refine cj_skip ?_
            refine nj_seq ?_
            refine cj_seq ?_
            refine cj_seq ?_
            refine cj_reg ?_
            refine lp rfl (p_mv rfl) ?_
            obtain ⟨y30, hy30, hm⟩ := bindS hm
            refine r_call [] cf10 rfl rfl (ok_gleeref2_OrderOf s0_ a0 hy30) rfl rfl (.cons (.ro 0 rfl) .nil) (fun _ => rfl) rfl (fun s31 => ?_)
            refine lp rfl (p_len Try.underlying22 rfl (.row 0 rfl)) ?_
            refine lp rfl (p_gtr rfl rfl) ?_
            refine lj_seq ?_
            refine cj_if (b := decide ((y30.length : Int) > 2000)) rfl (fun hb => ?_) (fun hb => ?_)
            · have hm := ifB_t hb hm
              refine cj_seq ?_
              refine cj_reg ?_
              refine lp rfl (p_as rfl) ?_
              refine lj_seq ?_
              obtain rfl := Option.some.inj hm
              exact cj_rt () [] Try.results9 (.tmp rfl .nil) rfl rfl
            · have hm := ifB_f hb hm
              refine cj_skip ?_
              refine nj_seq ?_
              refine cj_seq ?_
              refine cj_reg ?_
              refine lp rfl (p_as rfl) ?_
              refine lj_seq ?_
              obtain rfl := Option.some.inj hm
              exact cj_rt () [] Try.results9 (.tmp rfl .nil) rfl rfl
        · have hm := hk29
          refine lp rfl (p_mv rfl) ?_
          refine lp rfl (p_mv rfl) ?_
          refine lcase (i := 94) u4.2.1 rfl (fun hb => ?_) (fun hb => ?_)
          · have hm := ifB_t hb hm
            refine ls false rfl rfl rfl rfl ?_
            refine lp rfl (p_pkt rfl rfl) ?_
            refine lj_nil ?_
            exact cnk29 _ _ true () (Option.some.inj hm).symm ⟨rfl, rfl, rfl, trivial⟩ (fun _ h => h.picks [0] rfl)
          · have hm := ifB_f hb hm
            refine lg false rfl rfl rfl ?_
            refine lp rfl (p_mv rfl) ?_
            refine lp rfl (p_pkf rfl rfl) ?_
            refine lj_nil ?_
            exact cnk29 _ _ u4.2.2.2.2 () (Option.some.inj hm).symm ⟨rfl, rfl, rfl, trivial⟩ (fun _ h => h.picks [0] rfl)
      · have hRk6 : ∀ t, k6 = .ret t → some t = some r := fun t e => by rw [hX t e] at hm; exact hm
        have hm := hs
        refine cj_seq ?_
        refine cj_reg ?_
        refine lp rfl (p_idx Try.underlying26 ty49 rfl rfl (.ro 0 rfl) (getI_nat.trans hx3)) ?_
        refine lp rfl (p_lea ty49 rfl (.ro 0 rfl) hx3) ?_
        refine r_al ty49 rfl (fun b8 => ?_)
        refine r_sb (vs := [.int .i64 x2.Beats, .int .i64 x2.Unit, .int .i64 x2.Close, .int .i64 x2.Ending, .bool x2.Open]) (j := 0) ty49 rfl rfl rfl rfl rfl rfl rfl ?_
        refine lj_seq ?_
        refine cj_seq ?_
        refine cj_seq ?_
        refine cj_reg ?_
        obtain ⟨k11, hk11, hm⟩ := bindS hm
        have hRk11 : ∀ t, k11 = .inr t → some t = some k6 := fun t e => by rw [e] at hm; exact hm
        refine lj_join (σ := Bool) (γ := Unit) (fun u9 => k11 = .inl u9) (fun u9 g10 => [(0, s0_.v), (2, .int .i64 u4.1), (3, .bool u4.2.1), (4, .int .i64 u4.2.2.1), (5, .int .i64 u4.2.2.2.1), (6, .bool u4.2.2.2.2), (8, .pointer (some ⟨b8, 0, none⟩)), (17, s0_.v), (18, .int .i64 (a0.length : Int)), (19, .int .i64 (i1 : Int)), (50, .bool u9)]) (fun u9 g10 => Sat w0 (keys ([] : List Ent)) A [.box b8 49 [.int .i64 x2.Beats, .int .i64 x2.Unit, .int .i64 x2.Close, .int .i64 x2.Ending, .bool x2.Open], .ro (RdS R49 (SV.v s0_) a0)]) (fun u9 g10 hq => ?_) (fun J cnk11 => ?_)
        · have hm := Sum.fin_l hq hm
          refine cj_if (b := u9) rfl (fun hb => ?_) (fun hb => ?_)
          · have hm := ifB_t hb hm
            refine cj_seq ?_
            refine cj_reg ?_
            refine lp rfl (p_as rfl) ?_
            refine lj_seq ?_
            have hm := hRk6 _ (Option.some.inj hm).symm
            obtain rfl := Option.some.inj hm
            exact cj_rt () [] Try.results9 (.tmp rfl .nil) rfl rfl
          · have hm := ifB_f hb hm
            refine cj_skip ?_
            refine nj_seq ?_
            refine cj_seq ?_
            refine cj_seq ?_
            refine cj_reg ?_
            refine lp rfl (p_fab fl49_4 rfl) ?_
            refine lp rfl (p_lbs ty4 rfl (j := 0) rfl rfl) ?_
            refine lj_seq ?_
            obtain ⟨k20, hk20, hm⟩ := bindS hm
            have hRk20 : ∀ t, k20 = .inr t → some t = some k6 := fun t e => by rw [e] at hm; exact hm
            refine cj_joinK (σ := (Bool × Int × Int)) (γ := Unit) (fun u18 => k20 = .inl u18) (fun u18 g19 => [(0, s0_.v), (2, .int .i64 u4.1), (3, .bool u18.1), (4, .int .i64 u18.2.1), (5, .int .i64 u18.2.2), (6, .bool u4.2.2.2.2), (8, .pointer (some ⟨b8, 0, none⟩)), (17, s0_.v), (18, .int .i64 (a0.length : Int)), (19, .int .i64 (i1 : Int))]) (fun u18 g19 => Sat w0 (keys ([] : List Ent)) A [.box b8 49 [.int .i64 x2.Beats, .int .i64 x2.Unit, .int .i64 x2.Close, .int .i64 x2.Ending, .bool x2.Open], .ro (RdS R49 (SV.v s0_) a0)]) (fun u18 g19 hq => ?_) (fun J cnk20 => ?_)
            · have hm := Sum.fin_l hq hm
              refine cj_seq ?_
              refine cj_seq ?_
              refine cj_reg ?_
              obtain ⟨k23, hk23, hm⟩ := bindS hm
              have hRk23 : ∀ t, k23 = .inr t → some t = some k6 := fun t e => by rw [e] at hm; exact hm
              refine lj_join (σ := Bool) (γ := Unit) (fun u21 => k23 = .inl u21) (fun u21 g22 => [(0, s0_.v), (2, .int .i64 u4.1), (3, .bool u18.1), (4, .int .i64 u18.2.1), (5, .int .i64 u18.2.2), (6, .bool u4.2.2.2.2), (8, .pointer (some ⟨b8, 0, none⟩)), (17, s0_.v), (18, .int .i64 (a0.length : Int)), (19, .int .i64 (i1 : Int)), (74, .bool u21)]) (fun u21 g22 => Sat w0 (keys ([] : List Ent)) A [.box b8 49 [.int .i64 x2.Beats, .int .i64 x2.Unit, .int .i64 x2.Close, .int .i64 x2.Ending, .bool x2.Open], .ro (RdS R49 (SV.v s0_) a0)]) (fun u21 g22 hq => ?_) (fun J cnk23 => ?_)
              · have hm := Sum.fin_l hq hm
                refine cj_if (b := u21) rfl (fun hb => ?_) (fun hb => ?_)
                · have hm := ifB_t hb hm
                  refine cj_seq ?_
                  refine cj_reg ?_
                  refine lp rfl (p_as rfl) ?_
                  refine lj_seq ?_
                  have hm := hRk6 _ (Option.some.inj hm).symm
                  obtain rfl := Option.some.inj hm
                  exact cj_rt () [] Try.results9 (.tmp rfl .nil) rfl rfl
                · have hm := ifB_f hb hm
                  refine cj_skip ?_
                  refine nj_seq ?_
                  refine cj_seq ?_
                  refine cj_seq ?_
                  refine cj_reg ?_
                  refine lp rfl (p_mv rfl) ?_
                  refine lj_seq ?_
                  obtain ⟨k26, hk26, hm⟩ := bindS hm
                  have hRk26 : ∀ t, k26 = .inr t → some t = some k6 := fun t e => by rw [e] at hm; exact hm
                  refine cj_joinK (σ := (Int × Int)) (γ := Unit) (fun u24 => k26 = .inl u24) (fun u24 g25 => [(0, s0_.v), (2, .int .i64 u4.1), (3, .bool u18.1), (4, .int .i64 u24.1), (5, .int .i64 u24.2), (6, .bool u4.2.2.2.2), (8, .pointer (some ⟨b8, 0, none⟩)), (17, s0_.v), (18, .int .i64 (a0.length : Int)), (19, .int .i64 (i1 : Int))]) (fun u24 g25 => Sat w0 (keys ([] : List Ent)) A [.box b8 49 [.int .i64 x2.Beats, .int .i64 x2.Unit, .int .i64 x2.Close, .int .i64 x2.Ending, .bool x2.Open], .ro (RdS R49 (SV.v s0_) a0)]) (fun u24 g25 hq => ?_) (fun J cnk26 => ?_)
                  · have hm := Sum.fin_l hq hm
                    refine cj_seq ?_
                    refine cj_reg ?_
                    refine lp rfl (p_fab fl49_2 rfl) ?_
                    refine lp rfl (p_lbs ty3 rfl (j := 0) rfl rfl) ?_
                    refine lp rfl (p_neq rfl rfl) ?_
                    refine lj_seq ?_
                    refine cj_if (b := x2.Close != 0) rfl (fun hb => ?_) (fun hb => ?_)
                    · have hm := ifB_t hb hm
                      refine cj_seq ?_
                      refine cj_reg ?_
                      refine lp rfl (p_mv rfl) ?_
                      refine lp rfl (p_mv rfl) ?_
                      refine lcase (i := 86) u4.2.2.2.2 rfl (fun hb => ?_) (fun hb => ?_)
                      · have hm := ifB_t hb hm
                        refine ls false rfl rfl rfl rfl ?_
                        refine ls false rfl rfl rfl rfl ?_
                        refine ls false rfl rfl rfl rfl ?_
                        refine ls false rfl rfl rfl rfl ?_
                        refine lp rfl (p_pkt rfl rfl) ?_
                        refine lp rfl (p_as rfl) ?_
                        refine lj_seq ?_
                        refine cj_reg ?_
                        refine lp rfl (p_as rfl) ?_
                        refine lj_nil ?_
                        refine nj_blk ?_
                        exact cnk6 _ _ (u4.1, false, u24.1, u24.2, true) () (hJk6 _ (Option.some.inj hm).symm) ⟨rfl, rfl, rfl, rfl, rfl, rfl, rfl, rfl, rfl, trivial⟩ (fun _ h => h.picks [1] rfl)
                      · have hm := ifB_f hb hm
                        refine lg false rfl rfl rfl ?_
                        refine lp rfl (p_mv rfl) ?_
                        refine lg false rfl rfl rfl ?_
                        refine lp rfl (p_fab fl49_2 rfl) ?_
                        refine lg false rfl rfl rfl ?_
                        refine lp rfl (p_lbs ty3 rfl (j := 0) rfl rfl) ?_
                        refine lg false rfl rfl rfl ?_
                        refine lp rfl (p_gtr rfl rfl) ?_
                        refine lp rfl (p_pkf rfl rfl) ?_
                        refine lp rfl (p_as rfl) ?_
                        refine lj_seq ?_
                        refine cj_reg ?_
                        refine lp rfl (p_as rfl) ?_
                        refine lj_nil ?_
                        refine nj_blk ?_
                        exact cnk6 _ _ (u4.1, false, u24.1, u24.2, decide (u24.2 > x2.Close)) () (hJk6 _ (Option.some.inj hm).symm) ⟨rfl, rfl, rfl, rfl, rfl, rfl, rfl, rfl, rfl, trivial⟩ (fun _ h => h.picks [1] rfl)
                    · have hm := ifB_f hb hm
                      refine cj_skip ?_
                      refine nj_blk ?_
                      exact cnk6 _ _ (u4.1, u18.1, u24.1, u24.2, u4.2.2.2.2) () (hJk6 _ (Option.some.inj hm).symm) ⟨rfl, rfl, rfl, rfl, rfl, rfl, rfl, rfl, rfl, trivial⟩ (fun _ h => h.picks [1] rfl)
                  · have hm := hk26
                    refine cj_if (b := u18.1) rfl (fun hb => ?_) (fun hb => ?_)
                    · have hm := ifB_t hb hm
                      refine cj_quiet (by kernel_rfl) (by kernel_rfl) ?_
                      refine q_p rfl (p_fab fl49_3 rfl) ?_
                      refine q_p rfl (p_lbs ty3 rfl (j := 0) rfl rfl) ?_
                      refine q_p rfl (p_mv rfl) ?_
                      refine q_p rfl (p_fab fl49_3 rfl) ?_
                      refine q_p rfl (p_lbs ty3 rfl (j := 0) rfl rfl) ?_
                      refine q_p rfl (p_max rfl rfl) ?_
                      refine q_p rfl (p_as rfl) ?_
                      refine q_p rfl (p_as rfl) ?_
                      refine q_nil ?_
                      exact cnk26 _ _ (x2.Ending, max u18.2.2 x2.Ending) () (Option.some.inj hm).symm ⟨rfl, rfl, rfl, rfl, rfl, rfl, rfl, rfl, rfl, rfl, trivial⟩ (fun _ h => h.picks [0, 0] rfl)
                    · have hm := ifB_f hb hm
                      refine cj_skip ?_
                      exact cnk26 _ _ (u18.2.1, u18.2.2) () (Option.some.inj hm).symm ⟨rfl, rfl, rfl, rfl, rfl, rfl, rfl, rfl, rfl, rfl, trivial⟩ (fun _ h => h.picks [0, 0] rfl)
              · have hm := hk23
                refine lp rfl (p_mv rfl) ?_
                refine lp rfl (p_not rfl) ?_
                refine lp rfl (p_mv rfl) ?_
                refine lcase (i := 56) (!u18.1) rfl (fun hb => ?_) (fun hb => ?_)
                · have hm := ifB_t hb hm
                  refine lg true rfl rfl rfl ?_
                  refine lp rfl (p_fab fl49_2 rfl) ?_
                  refine lg true rfl rfl rfl ?_
                  refine lp rfl (p_lbs ty3 rfl (j := 0) rfl rfl) ?_
                  refine lg true rfl rfl rfl ?_
                  refine lp rfl (p_neq rfl rfl) ?_
                  refine lg true rfl rfl rfl ?_
                  refine lp rfl (p_mv rfl) ?_
                  refine lcase (i := 60) (x2.Close != 0) rfl (fun hb => ?_) (fun hb => ?_)
                  · have hm := ifB_t hb hm
                    refine ls false rfl rfl rfl rfl ?_
                    refine ls false rfl rfl rfl rfl ?_
                    refine ls false rfl rfl rfl rfl ?_
                    refine lg true rfl rfl rfl ?_
                    refine lp rfl (p_pkt rfl rfl) ?_
                    refine lp rfl (p_pkt rfl rfl) ?_
                    refine lp rfl (p_mv rfl) ?_
                    refine ls false rfl rfl rfl rfl ?_
                    refine ls false rfl rfl rfl rfl ?_
                    refine lsu rfl rfl rfl rfl ?_
                    refine lsu rfl rfl rfl rfl ?_
                    refine lsu rfl rfl rfl rfl ?_
                    refine lsu rfl rfl rfl rfl ?_
                    refine ls false rfl rfl rfl rfl ?_
                    refine lp rfl (p_pkt rfl rfl) ?_
                    refine lj_nil ?_
                    exact cnk23 _ _ true () (Option.some.inj hm).symm ⟨rfl, rfl, rfl, rfl, rfl, rfl, rfl, rfl, rfl, rfl, rfl, trivial⟩ (fun _ h => h.picks [0, 0] rfl)
                  · have hm := ifB_f hb hm
                    refine lg false rfl rfl rfl ?_
                    refine lp rfl (p_fab fl49_3 rfl) ?_
                    refine lg false rfl rfl rfl ?_
                    refine lp rfl (p_lbs ty3 rfl (j := 0) rfl rfl) ?_
                    refine lg false rfl rfl rfl ?_
                    refine lp rfl (p_neq rfl rfl) ?_
                    refine lg true rfl rfl rfl ?_
                    refine lp rfl (p_pkf rfl rfl) ?_
                    refine lp rfl (p_pkt rfl rfl) ?_
                    refine lp rfl (p_mv rfl) ?_
                    refine lcase (i := 66) (x2.Ending != 0) rfl (fun hb => ?_) (fun hb => ?_)
                    · have hm := ifB_t hb hm
                      refine ls false rfl rfl rfl rfl ?_
                      refine ls false rfl rfl rfl rfl ?_
                      refine lsu rfl rfl rfl rfl ?_
                      refine lsu rfl rfl rfl rfl ?_
                      refine lsu rfl rfl rfl rfl ?_
                      refine lsu rfl rfl rfl rfl ?_
                      refine ls false rfl rfl rfl rfl ?_
                      refine lp rfl (p_pkt rfl rfl) ?_
                      refine lj_nil ?_
                      exact cnk23 _ _ true () (Option.some.inj hm).symm ⟨rfl, rfl, rfl, rfl, rfl, rfl, rfl, rfl, rfl, rfl, rfl, trivial⟩ (fun _ h => h.picks [0, 0] rfl)
                    · have hm := ifB_f hb hm
                      refine lg false rfl rfl rfl ?_
                      refine lp rfl (p_mv rfl) ?_
                      refine lg false rfl rfl rfl ?_
                      refine lp rfl (p_mv rfl) ?_
                      refine lcase (i := 68) u18.1 rfl (fun hb => ?_) (fun hb => ?_)
                      · have hm := ifB_t hb hm
                        refine lg true rfl rfl rfl ?_
                        refine lp rfl (p_fab fl49_3 rfl) ?_
                        refine lg true rfl rfl rfl ?_
                        refine lp rfl (p_lbs ty3 rfl (j := 0) rfl rfl) ?_
                        refine lg true rfl rfl rfl ?_
                        refine lp rfl (p_mv rfl) ?_
                        refine lg true rfl rfl rfl ?_
                        refine lp rfl (p_lss rfl rfl) ?_
                        refine lg false rfl rfl rfl ?_
                        refine lp rfl (p_pkt rfl rfl) ?_
                        refine lp rfl (p_pkf rfl rfl) ?_
                        refine lj_nil ?_
                        exact cnk23 _ _ (decide (x2.Ending < u18.2.1)) () (Option.some.inj hm).symm ⟨rfl, rfl, rfl, rfl, rfl, rfl, rfl, rfl, rfl, rfl, rfl, trivial⟩ (fun _ h => h.picks [0, 0] rfl)
                      · have hm := ifB_f hb hm
                        refine ls true rfl rfl rfl rfl ?_
                        refine ls true rfl rfl rfl rfl ?_
                        refine ls true rfl rfl rfl rfl ?_
                        refine ls true rfl rfl rfl rfl ?_
                        refine lg false rfl rfl rfl ?_
                        refine lp rfl (p_pkf rfl rfl) ?_
                        refine lp rfl (p_pkf rfl rfl) ?_
                        refine lj_nil ?_
                        exact cnk23 _ _ false () (Option.some.inj hm).symm ⟨rfl, rfl, rfl, rfl, rfl, rfl, rfl, rfl, rfl, rfl, rfl, trivial⟩ (fun _ h => h.picks [0, 0] rfl)
                · have hm := ifB_f hb hm
                  refine ls true rfl rfl rfl rfl ?_
                  refine ls true rfl rfl rfl rfl ?_
                  refine ls true rfl rfl rfl rfl ?_
                  refine ls true rfl rfl rfl rfl ?_
                  refine lsu rfl rfl rfl rfl ?_
                  refine lsu rfl rfl rfl rfl ?_
                  refine lsu rfl rfl rfl rfl ?_
                  refine ls true rfl rfl rfl rfl ?_
                  refine lp rfl (p_pkf rfl rfl) ?_
                  refine lp rfl (p_mv rfl) ?_
                  refine lg false rfl rfl rfl ?_
                  refine lp rfl (p_mv rfl) ?_
                  refine lg false rfl rfl rfl ?_
                  refine lp rfl (p_mv rfl) ?_
                  refine lcase (i := 68) u18.1 rfl (fun hb => ?_) (fun hb => ?_)
                  · have hm := ifB_t hb hm
                    refine lg true rfl rfl rfl ?_
                    refine lp rfl (p_fab fl49_3 rfl) ?_
                    refine lg true rfl rfl rfl ?_
                    refine lp rfl (p_lbs ty3 rfl (j := 0) rfl rfl) ?_
                    refine lg true rfl rfl rfl ?_
                    refine lp rfl (p_mv rfl) ?_
                    refine lg true rfl rfl rfl ?_
                    refine lp rfl (p_lss rfl rfl) ?_
                    refine lg false rfl rfl rfl ?_
                    refine lp rfl (p_pkt rfl rfl) ?_
                    refine lp rfl (p_pkf rfl rfl) ?_
                    refine lj_nil ?_
                    exact cnk23 _ _ (decide (x2.Ending < u18.2.1)) () (Option.some.inj hm).symm ⟨rfl, rfl, rfl, rfl, rfl, rfl, rfl, rfl, rfl, rfl, rfl, trivial⟩ (fun _ h => h.picks [0, 0] rfl)
                  · have hm := ifB_f hb hm
                    refine ls true rfl rfl rfl rfl ?_
                    refine ls true rfl rfl rfl rfl ?_
                    refine ls true rfl rfl rfl rfl ?_
                    refine ls true rfl rfl rfl rfl ?_
                    refine lg false rfl rfl rfl ?_
                    refine lp rfl (p_pkf rfl rfl) ?_
                    refine lp rfl (p_pkf rfl rfl) ?_
                    refine lj_nil ?_
                    exact cnk23 _ _ false () (Option.some.inj hm).symm ⟨rfl, rfl, rfl, rfl, rfl, rfl, rfl, rfl, rfl, rfl, rfl, trivial⟩ (fun _ h => h.picks [0, 0] rfl)
            · have hm := hk20
              refine cj_if (b := x2.Open) rfl (fun hb => ?_) (fun hb => ?_)
              · have hm := ifB_t hb hm
                refine cj_seq ?_
                refine cj_seq ?_
                refine cj_reg ?_
                refine lp rfl (p_mv rfl) ?_
                refine lj_seq ?_
                refine cj_if (b := u4.2.1) rfl (fun hb => ?_) (fun hb => ?_)
                · have hm := ifB_t hb hm
                  refine cj_seq ?_
                  refine cj_reg ?_
                  refine lp rfl (p_as rfl) ?_
                  refine lj_seq ?_
                  have hm := hRk20 _ (Option.some.inj hm).symm
                  have hm := hRk6 _ (Option.some.inj hm).symm
                  obtain rfl := Option.some.inj hm
                  exact cj_rt () [] Try.results9 (.tmp rfl .nil) rfl rfl
                · have hm := ifB_f hb hm
                  refine cj_skip ?_
                  refine nj_seq ?_
                  refine cj_reg ?_
                  refine lp rfl (p_as rfl) ?_
                  refine lp rfl (p_as rfl) ?_
                  refine lp rfl (p_as rfl) ?_
                  refine lj_nil ?_
                  exact cnk20 _ _ (true, 0, 0) () (Option.some.inj hm).symm ⟨rfl, rfl, rfl, rfl, rfl, rfl, rfl, rfl, rfl, rfl, trivial⟩ (fun _ h => h.picks [0, 0] rfl)
              · have hm := ifB_f hb hm
                refine cj_skip ?_
                exact cnk20 _ _ (u4.2.1, u4.2.2.1, u4.2.2.2.1) () (Option.some.inj hm).symm ⟨rfl, rfl, rfl, rfl, rfl, rfl, rfl, rfl, rfl, rfl, trivial⟩ (fun _ h => h.picks [0, 0] rfl)
        · have hm := hk11
          refine lp rfl (p_fab fl49_0 rfl) ?_
          refine lp rfl (p_lbs ty3 rfl (j := 0) rfl rfl) ?_
          obtain ⟨y12, hy12, hm⟩ := bindS hm
          refine r_call [] cf24 rfl rfl (ok_gleeref2_in x2.Beats 1 16 hy12) rfl rfl .nil (fun _ => rfl) rfl (fun _ => ?_)
          refine lp rfl (p_not rfl) ?_
          refine lp rfl (p_mv rfl) ?_
          refine lcase (i := 27) (!y12) rfl (fun hb => ?_) (fun hb => ?_)
          · have hm := ifB_t hb hm
            refine ls false rfl rfl rfl rfl ?_
            refine ls false rfl rfl rfl rfl ?_
            refine ls false rfl rfl rfl rfl ?_
            refine ls false rfl rfl rfl rfl ?_
            refine ls false rfl rfl rfl rfl ?_
            refine lp rfl (p_pkt rfl rfl) ?_
            refine lp rfl (p_mv rfl) ?_
            refine ls false rfl rfl rfl rfl ?_
            refine ls false rfl rfl rfl rfl ?_
            refine ls false rfl rfl rfl rfl ?_
            refine ls false rfl rfl rfl rfl ?_
            refine lsu rfl rfl rfl rfl ?_
            refine lsu rfl rfl rfl rfl ?_
            refine lsu rfl rfl rfl rfl ?_
            refine lsu rfl rfl rfl rfl ?_
            refine ls false rfl rfl rfl rfl ?_
            refine lp rfl (p_pkt rfl rfl) ?_
            refine lp rfl (p_mv rfl) ?_
            refine ls false rfl rfl rfl rfl ?_
            refine ls false rfl rfl rfl rfl ?_
            refine ls false rfl rfl rfl rfl ?_
            refine ls false rfl rfl rfl rfl ?_
            refine lp rfl (p_pkt rfl rfl) ?_
            refine lj_nil ?_
            exact cnk11 _ _ true () (Option.some.inj hm).symm ⟨rfl, rfl, rfl, rfl, rfl, rfl, rfl, rfl, rfl, rfl, rfl, trivial⟩ (fun _ h => h.picks [0, 0] rfl)
          · have hm := ifB_f hb hm
            refine lg false rfl rfl rfl ?_
            refine r_bs R3 [1, 2, 4, 8, 16] rfl rfl rfl (fun _ => by kernel_rfl) rfl (fun s13 => ?_)
            refine lg false rfl rfl rfl ?_
            refine lp rfl (p_fab fl49_1 rfl) ?_
            refine lg false rfl rfl rfl ?_
            refine lp rfl (p_lbs ty3 rfl (j := 1) rfl rfl) ?_
            refine lg false rfl rfl rfl ?_
            obtain ⟨y14, hy14, hm⟩ := bindS hm
            refine r_call [] cf25 rfl rfl (ok_slices_Contains_int_int s13 ([1, 2, 4, 8, 16]) x2.Unit hy14) rfl rfl (.cons (.row 0 rfl) .nil) (fun _ => rfl) rfl (fun _ => ?_)
            refine lg false rfl rfl rfl ?_
            refine lp rfl (p_not rfl) ?_
            refine lp rfl (p_pkf rfl rfl) ?_
            refine lp rfl (p_mv rfl) ?_
            refine lcase (i := 34) (!y14) rfl (fun hb => ?_) (fun hb => ?_)
            · have hm := ifB_t hb hm
              refine ls false rfl rfl rfl rfl ?_
              refine ls false rfl rfl rfl rfl ?_
              refine ls false rfl rfl rfl rfl ?_
              refine ls false rfl rfl rfl rfl ?_
              refine lsu rfl rfl rfl rfl ?_
              refine lsu rfl rfl rfl rfl ?_
              refine lsu rfl rfl rfl rfl ?_
              refine lsu rfl rfl rfl rfl ?_
              refine ls false rfl rfl rfl rfl ?_
              refine lp rfl (p_pkt rfl rfl) ?_
              refine lp rfl (p_mv rfl) ?_
              refine ls false rfl rfl rfl rfl ?_
              refine ls false rfl rfl rfl rfl ?_
              refine ls false rfl rfl rfl rfl ?_
              refine ls false rfl rfl rfl rfl ?_
              refine lp rfl (p_pkt rfl rfl) ?_
              refine lj_nil ?_
              exact cnk11 _ _ true () (Option.some.inj hm).symm ⟨rfl, rfl, rfl, rfl, rfl, rfl, rfl, rfl, rfl, rfl, rfl, trivial⟩ (fun _ h => h.picks [1, 1] rfl)
            · have hm := ifB_f hb hm
              refine lg false rfl rfl rfl ?_
              refine lp rfl (p_fab fl49_2 rfl) ?_
              refine lg false rfl rfl rfl ?_
              refine lp rfl (p_lbs ty3 rfl (j := 1) rfl rfl) ?_
              refine lg false rfl rfl rfl ?_
              refine lp rfl (p_neq rfl rfl) ?_
              refine lg false rfl rfl rfl ?_
              refine lp rfl (p_mv rfl) ?_
              refine lcase (i := 38) (x2.Close != 0) rfl (fun hb => ?_) (fun hb => ?_)
              · have hm := ifB_t hb hm
                refine lg true rfl rfl rfl ?_
                refine lp rfl (p_fab fl49_2 rfl) ?_
                refine lg true rfl rfl rfl ?_
                refine lp rfl (p_lbs ty3 rfl (j := 1) rfl rfl) ?_
                refine lg true rfl rfl rfl ?_
                obtain ⟨y15, hy15, hm⟩ := bindS hm
                refine r_call [] cf24 rfl rfl (ok_gleeref2_in x2.Close 2 9 hy15) rfl rfl .nil (fun _ => rfl) rfl (fun _ => ?_)
                refine lg true rfl rfl rfl ?_
                refine lp rfl (p_not rfl) ?_
                refine lg false rfl rfl rfl ?_
                refine lp rfl (p_pkt rfl rfl) ?_
                refine lp rfl (p_pkf rfl rfl) ?_
                refine lp rfl (p_mv rfl) ?_
                refine lcase (i := 45) (!y15) rfl (fun hb => ?_) (fun hb => ?_)
                · have hm := ifB_t hb hm
                  refine ls false rfl rfl rfl rfl ?_
                  refine ls false rfl rfl rfl rfl ?_
                  refine ls false rfl rfl rfl rfl ?_
                  refine ls false rfl rfl rfl rfl ?_
                  refine lp rfl (p_pkt rfl rfl) ?_
                  refine lj_nil ?_
                  exact cnk11 _ _ true () (Option.some.inj hm).symm ⟨rfl, rfl, rfl, rfl, rfl, rfl, rfl, rfl, rfl, rfl, rfl, trivial⟩ (fun _ h => h.picks [1, 1] rfl)
                · have hm := ifB_f hb hm
                  refine lg false rfl rfl rfl ?_
                  refine lp rfl (p_fab fl49_3 rfl) ?_
                  refine lg false rfl rfl rfl ?_
                  refine lp rfl (p_lbs ty3 rfl (j := 1) rfl rfl) ?_
                  refine lg false rfl rfl rfl ?_
                  obtain ⟨y16, hy16, hm⟩ := bindS hm
                  refine r_call [] cf24 rfl rfl (ok_gleeref2_in x2.Ending 0 9 hy16) rfl rfl .nil (fun _ => rfl) rfl (fun _ => ?_)
                  refine lg false rfl rfl rfl ?_
                  refine lp rfl (p_not rfl) ?_
                  refine lp rfl (p_pkf rfl rfl) ?_
                  refine lj_nil ?_
                  exact cnk11 _ _ (!y16) () (Option.some.inj hm).symm ⟨rfl, rfl, rfl, rfl, rfl, rfl, rfl, rfl, rfl, rfl, rfl, trivial⟩ (fun _ h => h.picks [1, 1] rfl)
              · have hm := ifB_f hb hm
                refine ls true rfl rfl rfl rfl ?_
                refine ls true rfl rfl rfl rfl ?_
                refine ls true rfl rfl rfl rfl ?_
                refine ls true rfl rfl rfl rfl ?_
                refine lg false rfl rfl rfl ?_
                refine lp rfl (p_pkf rfl rfl) ?_
                refine lp rfl (p_pkf rfl rfl) ?_
                refine lp rfl (p_mv rfl) ?_
                refine lg false rfl rfl rfl ?_
                refine lp rfl (p_fab fl49_3 rfl) ?_
                refine lg false rfl rfl rfl ?_
                refine lp rfl (p_lbs ty3 rfl (j := 1) rfl rfl) ?_
                refine lg false rfl rfl rfl ?_
                obtain ⟨y17, hy17, hm⟩ := bindS hm
                refine r_call [] cf24 rfl rfl (ok_gleeref2_in x2.Ending 0 9 hy17) rfl rfl .nil (fun _ => rfl) rfl (fun _ => ?_)
                refine lg false rfl rfl rfl ?_
                refine lp rfl (p_not rfl) ?_
                refine lp rfl (p_pkf rfl rfl) ?_
                refine lj_nil ?_
                exact cnk11 _ _ (!y17) () (Option.some.inj hm).symm ⟨rfl, rfl, rfl, rfl, rfl, rfl, rfl, rfl, rfl, rfl, rfl, trivial⟩ (fun _ h => h.picks [1, 1] rfl)
theorem ok_slices_Equal_int_int (s0_ : SV) (a0 : (List Int)) (s1_ : SV) (a1 : (List Int)) {r : Bool} (hm : m_slices_Equal_int_int a0 a1 = some r) :
    Ctr Try.prog 14 [s0_.v, s1_.v].toArray ([] : List Ent) [RdS R3 s0_.v a0, RdS R3 s1_.v a1] (X := Unit) (fun _ => .bool r) (fun _ => []) := by
  unfold m_slices_Equal_int_int at hm
  refine ctr_mk (vs := [(0, s0_.v), (1, s1_.v)]) Try.func14 rfl Try.ntmps14 rfl ⟨rfl, rfl, trivial⟩ (fun w0 A => ?_)
  refine cj_seq ?_
  refine cj_reg ?_
  refine lp rfl (p_as rfl) ?_
  refine lj_seq ?_
  refine cj_seq ?_
  refine cj_seq ?_
  refine cj_reg ?_
  refine lp rfl (p_mv rfl) ?_
  refine lp rfl (p_len Try.underlying22 rfl (.ro 0 rfl)) ?_
  refine lp rfl (p_mv rfl) ?_
  refine lp rfl (p_len Try.underlying22 rfl (.ro 1 rfl)) ?_
  refine lp rfl (p_neq rfl rfl) ?_
  refine lj_seq ?_
  refine cj_if (b := (a0.length : Int) != (a1.length : Int)) rfl (fun hb => ?_) (fun hb => ?_)
  · have hm := ifB_t hb hm
    refine cj_seq ?_
    refine cj_reg ?_
    refine lp rfl (p_as rfl) ?_
    refine lj_seq ?_
    obtain rfl := Option.some.inj hm
    exact cj_rt () [] Try.results14 (.tmp rfl .nil) rfl rfl
  · have hm := ifB_f hb hm
    refine cj_skip ?_
    refine nj_seq ?_
    refine cj_seq ?_
    refine cj_seq ?_
    refine cj_reg ?_
    refine lp rfl (p_mv rfl) ?_
    refine lp rfl (p_len Try.underlying22 rfl (.ro 0 rfl)) ?_
    refine lp rfl (p_mv rfl) ?_
    refine lj_seq ?_
    obtain ⟨f7, hf7, hm⟩ := bindS hm
    refine cj_range (γ := Unit) (m := (a0.length : Int)) hf7 () (fun u4 g5 => [(0, s0_.v), (1, s1_.v), (4, .bool u4)]) (fun u4 g5 => Sat w0 (keys ([] : List Ent)) A [.ro (RdS R3 (SV.v s0_) a0), .ro (RdS R3 (SV.v s1_) a1)]) ⟨rfl, rfl, rfl, rfl, rfl, trivial⟩ (fun _ h => h.picks [0, 0] rfl) (nat_lt _) (fun _ h => (FactAt.get (.ro 0 rfl) h).1) (fun _ _ => ⟨rfl, rfl, rfl, rfl⟩) ⟨rfl, rfl, rfl, rfl, rfl⟩ rfl rfl rfl (fun u4 g5 e => ?_) (fun aftk6 i1 x2 u4 g5 k6 hx3 hs J hJk6 hBk6 hX I cnk6 => ?_)
    · have hm := Flow.fin_b e hm
      refine nj_seq ?_
      refine cj_seq ?_
      refine cj_reg ?_
      refine lp rfl (p_as rfl) ?_
      refine lj_seq ?_
      obtain rfl := Option.some.inj hm
      exact cj_rt () [] Try.results14 (.tmp rfl .nil) rfl rfl
    · have hRk6 : ∀ t, k6 = .ret t → some t = some r := fun t e => by rw [hX t e] at hm; exact hm
      have hm := hs
      refine cj_seq ?_
      refine cj_reg ?_
      refine lp rfl (p_mv rfl) ?_
      refine lp rfl (p_as rfl) ?_
      refine lj_seq ?_
      refine cj_seq ?_
      refine cj_quiet (by kernel_rfl) (by kernel_rfl) ?_
      refine q_p rfl (p_mv rfl) ?_
      refine q_p rfl (p_mv rfl) ?_
      refine q_p rfl (p_idx Try.underlying22 ty3 rfl rfl (.ro 0 rfl) (getI_nat.trans hx3)) ?_
      refine q_p rfl (p_lde (o := 0) ty3 rfl rfl (.ro 0 rfl) hx3 rfl) ?_
      refine q_p rfl (p_mv rfl) ?_
      refine q_p rfl (p_mv rfl) ?_
      obtain ⟨e8, he8, hm⟩ := bindS hm
      refine q_p rfl (p_idx Try.underlying22 ty3 rfl rfl (.ro 1 rfl) he8) ?_
      refine q_p rfl (p_lde (o := 0) ty3 rfl rfl (.ro 1 rfl) (getI_spec he8).2 rfl) ?_
      refine q_p rfl (p_neq rfl rfl) ?_
      refine q_nil ?_
      refine nj_seq ?_
      refine cj_if (b := x2 != e8) rfl (fun hb => ?_) (fun hb => ?_)
      · have hm := ifB_t hb hm
        refine cj_seq ?_
        refine cj_reg ?_
        refine lp rfl (p_as rfl) ?_
        refine lj_seq ?_
        have hm := hRk6 _ (Option.some.inj hm).symm
        obtain rfl := Option.some.inj hm
        exact cj_rt () [] Try.results14 (.tmp rfl .nil) rfl rfl
      · have hm := ifB_f hb hm
        refine cj_skip ?_
        refine nj_blk ?_
        exact cnk6 _ _ u4 () (hJk6 _ (Option.some.inj hm).symm) ⟨rfl, rfl, rfl, rfl, rfl, trivial⟩ (fun _ h => h.picks [0, 0] rfl)
theorem ok_slices_Equal_api_Fraction_api_Fraction (s0_ : SV) (a0 : (List Fraction)) (s1_ : SV) (a1 : (List Fraction)) {r : Bool} (hm : m_slices_Equal_api_Fraction_api_Fraction a0 a1 = some r) :
    Ctr Try.prog 15 [s0_.v, s1_.v].toArray ([] : List Ent) [RdS R33 s0_.v a0, RdS R33 s1_.v a1] (X := Unit) (fun _ => .bool r) (fun _ => []) := by
  unfold m_slices_Equal_api_Fraction_api_Fraction at hm
  refine ctr_mk (vs := [(0, s0_.v), (1, s1_.v)]) Try.func15 rfl Try.ntmps15 rfl ⟨rfl, rfl, trivial⟩ (fun w0 A => ?_)
  refine cj_seq ?_
  refine cj_reg ?_
  refine lp rfl (p_as rfl) ?_
  refine lj_seq ?_
  refine cj_seq ?_
  refine cj_seq ?_
  refine cj_reg ?_
  refine lp rfl (p_mv rfl) ?_
  refine lp rfl (p_len Try.underlying36 rfl (.ro 0 rfl)) ?_
  refine lp rfl (p_mv rfl) ?_
  refine lp rfl (p_len Try.underlying36 rfl (.ro 1 rfl)) ?_
  refine lp rfl (p_neq rfl rfl) ?_
  refine lj_seq ?_
  refine cj_if (b := (a0.length : Int) != (a1.length : Int)) rfl (fun hb => ?_) (fun hb => ?_)
  · have hm := ifB_t hb hm
    refine cj_seq ?_
    refine cj_reg ?_
    refine lp rfl (p_as rfl) ?_
    refine lj_seq ?_
    obtain rfl := Option.some.inj hm
    exact cj_rt () [] Try.results15 (.tmp rfl .nil) rfl rfl
  · have hm := ifB_f hb hm
    refine cj_skip ?_
    refine nj_seq ?_
    refine cj_seq ?_
    refine cj_seq ?_
    refine cj_reg ?_
    refine lp rfl (p_mv rfl) ?_
    refine lp rfl (p_len Try.underlying36 rfl (.ro 0 rfl)) ?_
    refine lp rfl (p_mv rfl) ?_
    refine lj_seq ?_
    obtain ⟨f7, hf7, hm⟩ := bindS hm
    refine cj_range (γ := Unit) (m := (a0.length : Int)) hf7 () (fun u4 g5 => [(0, s0_.v), (1, s1_.v), (4, .bool u4)]) (fun u4 g5 => Sat w0 (keys ([] : List Ent)) A [.ro (RdS R33 (SV.v s0_) a0), .ro (RdS R33 (SV.v s1_) a1)]) ⟨rfl, rfl, rfl, rfl, rfl, trivial⟩ (fun _ h => h.picks [0, 0] rfl) (nat_lt _) (fun _ h => (FactAt.get (.ro 0 rfl) h).1) (fun _ _ => ⟨rfl, rfl, rfl, rfl⟩) ⟨rfl, rfl, rfl, rfl, rfl⟩ rfl rfl rfl (fun u4 g5 e => ?_) (fun aftk6 i1 x2 u4 g5 k6 hx3 hs J hJk6 hBk6 hX I cnk6 => ?_)
    · have hm := Flow.fin_b e hm
      refine nj_seq ?_
      refine cj_seq ?_
      refine cj_reg ?_
      refine lp rfl (p_as rfl) ?_
      refine lj_seq ?_
      obtain rfl := Option.some.inj hm
      exact cj_rt () [] Try.results15 (.tmp rfl .nil) rfl rfl
    · have hRk6 : ∀ t, k6 = .ret t → some t = some r := fun t e => by rw [hX t e] at hm; exact hm
      have hm := hs
      refine cj_seq ?_
      refine cj_reg ?_
      refine lp rfl (p_mv rfl) ?_
      refine lp rfl (p_as rfl) ?_
      refine lj_seq ?_
      refine cj_seq ?_
      refine cj_quiet (by kernel_rfl) (by kernel_rfl) ?_
      refine q_p rfl (p_mv rfl) ?_
      refine q_p rfl (p_mv rfl) ?_
      refine q_p rfl (p_idx Try.underlying36 ty33 rfl rfl (.ro 0 rfl) (getI_nat.trans hx3)) ?_
      refine q_p rfl (p_lea ty33 rfl (.ro 0 rfl) hx3) ?_
      refine q_p rfl (p_mv rfl) ?_
      refine q_p rfl (p_mv rfl) ?_
      obtain ⟨e8, he8, hm⟩ := bindS hm
      refine q_p rfl (p_idx Try.underlying36 ty33 rfl rfl (.ro 1 rfl) he8) ?_
      refine q_p rfl (p_lea ty33 rfl (.ro 1 rfl) (getI_spec he8).2) ?_
      refine q_p rfl (p_nest (by kernel_rfl) rfl rfl (eqst33 x2 e8)) ?_
      refine q_nil ?_
      refine nj_seq ?_
      refine cj_if (b := !(decide (x2 = e8))) rfl (fun hb => ?_) (fun hb => ?_)
      · have hm := ifB_t hb hm
        refine cj_seq ?_
        refine cj_reg ?_
        refine lp rfl (p_as rfl) ?_
        refine lj_seq ?_
        have hm := hRk6 _ (Option.some.inj hm).symm
        obtain rfl := Option.some.inj hm
        exact cj_rt () [] Try.results15 (.tmp rfl .nil) rfl rfl
      · have hm := ifB_f hb hm
        refine cj_skip ?_
        refine nj_blk ?_
        exact cnk6 _ _ u4 () (hJk6 _ (Option.some.inj hm).symm) ⟨rfl, rfl, rfl, rfl, rfl, trivial⟩ (fun _ h => h.picks [0, 0] rfl)
theorem ok_gleelaw2_written  {r : Bool} (hm : m_gleelaw2_written  = some r) :
    Ctr Try.prog 16 [].toArray ([] : List Ent) [] (X := Unit) (fun _ => .bool r) (fun _ => []) := by
  unfold m_gleelaw2_written at hm
  refine ctr_mk (vs := []) Try.func16 rfl Try.ntmps16 rfl trivial (fun w0 A => ?_)
  refine cj_seq ?_
  refine cj_reg ?_
  refine lp rfl (p_as rfl) ?_
  refine lj_seq ?_
  refine cj_seq ?_
  refine cj_reg ?_
  refine lp rfl (p_bld [.int .i64 1, .int .i64 4, .int .i64 2, .int .i64 0, .bool true] rfl (fun _ => by kernel_rfl)) ?_
  refine r_bs R49 [(Bar.mk 1 4 2 0 true)] rfl rfl rfl (fun _ => by kernel_rfl) rfl (fun s1 => ?_)
  obtain ⟨y2, hy2, hm⟩ := bindS hm
  refine r_call [] cf6 rfl rfl (ok_piece_Order s1 ([(Bar.mk 1 4 2 0 true)]) hy2) rfl rfl (.cons (.row 0 rfl) .nil) (fun _ => rfl) rfl (fun s3 => ?_)
  refine lp rfl (p_mv rfl) ?_
  refine lp rfl (p_ext rfl rfl) ?_
  refine lp rfl (p_ext rfl rfl) ?_
  refine lp rfl (p_as rfl) ?_
  refine lp rfl (p_as rfl) ?_
  refine lj_seq ?_
  refine cj_seq ?_
  refine cj_reg ?_
  refine lp rfl (p_mv rfl) ?_
  refine lp rfl (p_eql rfl rfl) ?_
  refine lp rfl (p_mv rfl) ?_
  refine lcase (i := 11) (y2.2 == 0) rfl (fun hb => ?_) (fun hb => ?_)
  · have hm := ifB_t hb hm
    refine lg true rfl rfl rfl ?_
    refine lp rfl (p_mv rfl) ?_
    refine lg true rfl rfl rfl ?_
    refine r_bs R3 [0, 0] rfl rfl rfl (fun _ => by kernel_rfl) rfl (fun s4 => ?_)
    refine lg true rfl rfl rfl ?_
    obtain ⟨y5, hy5, hm⟩ := bindS hm
    refine r_call [] cf14 rfl rfl (ok_slices_Equal_int_int s3 y2.1 s4 ([0, 0]) hy5) rfl rfl (.cons (.row 1 rfl) (.cons (.row 0 rfl) .nil)) (fun _ => rfl) rfl (fun _ => ?_)
    refine lp rfl (p_pkt rfl rfl) ?_
    refine lp rfl (p_as rfl) ?_
    refine lj_seq ?_
    obtain rfl := Option.some.inj hm
    exact cj_rt () [] Try.results16 (.tmp rfl .nil) rfl rfl
  · have hm := ifB_f hb hm
    refine ls true rfl rfl rfl rfl ?_
    refine ls true rfl rfl rfl rfl ?_
    refine ls true rfl rfl rfl rfl ?_
    refine lp rfl (p_pkf rfl rfl) ?_
    refine lp rfl (p_as rfl) ?_
    refine lj_seq ?_
    obtain rfl := Option.some.inj hm
    exact cj_rt () [] Try.results16 (.tmp rfl .nil) rfl rfl
theorem ok_gleemake_Stream_Next (b0_ : Nat) (s0_0_ : SV) (a0_0 : (List Int)) (a0_1 : Int) (a1 : Int) {r : Int × Int} (hm : m_gleemake_Stream_Next a0_0 a0_1 a1 = some r) :
    Ctr Try.prog 18 [.pointer (some ⟨b0_, 0, none⟩), .int .i64 a1].toArray [.box b0_ 25 [s0_0_.v, .int .i64 a0_1]] [RdS R3 s0_0_.v a0_0] (X := Unit) (fun _ => .int .i64 r.1) (fun _ => [.box b0_ 25 [s0_0_.v, .int .i64 r.2]]) := by
  unfold m_gleemake_Stream_Next at hm
  refine ctr_mk (vs := [(0, .pointer (some ⟨b0_, 0, none⟩)), (1, .int .i64 a1)]) Try.func18 rfl Try.ntmps18 rfl ⟨rfl, rfl, trivial⟩ (fun w0 A => ?_)
  refine cj_seq ?_
  refine cj_reg ?_
  refine lp rfl (p_as rfl) ?_
  refine lj_seq ?_
  refine cj_seq ?_
  refine cj_reg ?_
  refine lp rfl (p_mv rfl) ?_
  refine lp rfl (p_nc rfl) ?_
  refine lp rfl (p_fab fl25_1 rfl) ?_
  refine lp rfl (p_lbs ty3 rfl (j := 0) rfl rfl) ?_
  refine lp rfl (p_add rfl rfl) ?_
  refine lp rfl (p_nc rfl) ?_
  refine lp rfl (p_fab fl25_1 rfl) ?_
  refine r_sb (vs := [.int .i64 (w64 (a0_1 + 1))]) (j := 0) ty3 rfl rfl rfl rfl rfl rfl rfl ?_
  refine lj_seq ?_
  refine cj_seq ?_
  refine cj_seq ?_
  refine cj_reg ?_
  refine lp rfl (p_mv rfl) ?_
  refine lp rfl (p_nc rfl) ?_
  refine lp rfl (p_fab fl25_0 rfl) ?_
  refine lp rfl (p_lbs ty22 rfl (j := 0) rfl rfl) ?_
  refine lp rfl (p_len Try.underlying22 rfl (.ro 1 rfl)) ?_
  refine lp rfl (p_eql rfl rfl) ?_
  refine lj_seq ?_
  refine cj_if (b := (a0_0.length : Int) == 0) rfl (fun hb => ?_) (fun hb => ?_)
  · have hm := ifB_t hb hm
    refine cj_seq ?_
    refine cj_reg ?_
    refine lp rfl (p_mv rfl) ?_
    refine lp rfl (p_nc rfl) ?_
    refine lp rfl (p_fab fl25_1 rfl) ?_
    refine lp rfl (p_lbs ty3 rfl (j := 0) rfl rfl) ?_
    refine lp rfl (p_mul rfl rfl) ?_
    refine lp rfl (p_mv rfl) ?_
    obtain ⟨y1, hy1, hm⟩ := bindS hm
    refine r_call [] cf33 rfl rfl (ok_gleemake_Below (w64 ((w64 (a0_1 + 1)) * 7919)) a1 hy1) rfl rfl .nil (fun _ => rfl) rfl (fun _ => ?_)
    refine lp rfl (p_as rfl) ?_
    refine lj_seq ?_
    obtain rfl := Option.some.inj hm
    exact cj_rt () [0] Try.results18 (.tmp rfl .nil) rfl rfl
  · have hm := ifB_f hb hm
    refine cj_skip ?_
    refine nj_seq ?_
    refine cj_seq ?_
    refine cj_quiet (by kernel_rfl) (by kernel_rfl) ?_
    refine q_p rfl (p_mv rfl) ?_
    refine q_p rfl (p_nc rfl) ?_
    refine q_p rfl (p_fab fl25_1 rfl) ?_
    refine q_p rfl (p_lbs ty3 rfl (j := 0) rfl rfl) ?_
    refine q_p rfl (p_sub rfl rfl) ?_
    refine q_p rfl (p_mv rfl) ?_
    refine q_p rfl (p_nc rfl) ?_
    refine q_p rfl (p_fab fl25_0 rfl) ?_
    refine q_p rfl (p_lbs ty22 rfl (j := 0) rfl rfl) ?_
    refine q_p rfl (p_len Try.underlying22 rfl (.ro 1 rfl)) ?_
    obtain ⟨z2, hz2, hm⟩ := bindS hm
    refine q_p rfl (p_remM hz2 rfl rfl) ?_
    refine q_p rfl (p_as rfl) ?_
    refine q_nil ?_
    refine nj_seq ?_
    refine cj_seq ?_
    refine cj_quiet (by kernel_rfl) (by kernel_rfl) ?_
    refine q_p rfl (p_mv rfl) ?_
    refine q_p rfl (p_nc rfl) ?_
    refine q_p rfl (p_fab fl25_1 rfl) ?_
    refine q_p rfl (p_lbs ty3 rfl (j := 0) rfl rfl) ?_
    refine q_p rfl (p_sub rfl rfl) ?_
    refine q_p rfl (p_mv rfl) ?_
    refine q_p rfl (p_nc rfl) ?_
    refine q_p rfl (p_fab fl25_0 rfl) ?_
    refine q_p rfl (p_lbs ty22 rfl (j := 0) rfl rfl) ?_
    refine q_p rfl (p_len Try.underlying22 rfl (.ro 1 rfl)) ?_
    obtain ⟨z3, hz3, hm⟩ := bindS hm
    refine q_p rfl (p_quoM hz3 rfl rfl) ?_
    refine q_p rfl (p_as rfl) ?_
    refine q_nil ?_
    refine nj_seq ?_
    refine cj_seq ?_
    refine cj_reg ?_
    refine lp rfl (p_mv rfl) ?_
    refine lp rfl (p_nc rfl) ?_
    refine lp rfl (p_fab fl25_0 rfl) ?_
    refine lp rfl (p_lbs ty22 rfl (j := 0) rfl rfl) ?_
    refine lp rfl (p_mv rfl) ?_
    obtain ⟨e4, he4, hm⟩ := bindS hm
    refine lp rfl (p_idx Try.underlying22 ty3 rfl rfl (.ro 1 rfl) he4) ?_
    refine lp rfl (p_lde (o := 0) ty3 rfl rfl (.ro 1 rfl) (getI_spec he4).2 rfl) ?_
    obtain ⟨y5, hy5, hm⟩ := bindS hm
    refine r_call [] cf33 rfl rfl (ok_gleemake_Below e4 1073741824 hy5) rfl rfl .nil (fun _ => rfl) rfl (fun _ => ?_)
    refine lp rfl (p_mv rfl) ?_
    refine lp rfl (p_mv rfl) ?_
    refine lp rfl (p_add rfl rfl) ?_
    refine lp rfl (p_mul rfl rfl) ?_
    refine lp rfl (p_add rfl rfl) ?_
    refine lp rfl (p_mv rfl) ?_
    obtain ⟨y6, hy6, hm⟩ := bindS hm
    refine r_call [] cf33 rfl rfl (ok_gleemake_Below (w64 (y5 + (w64 (z3 * (w64 (7919 + z2)))))) a1 hy6) rfl rfl .nil (fun _ => rfl) rfl (fun _ => ?_)
    refine lp rfl (p_as rfl) ?_
    refine lj_seq ?_
    obtain rfl := Option.some.inj hm
    exact cj_rt () [0] Try.results18 (.tmp rfl .nil) rfl rfl
theorem ok_gleemake_Stream_Flip (b0_ : Nat) (s0_0_ : SV) (a0_0 : (List Int)) (a0_1 : Int) (a1 : Int) {r : Bool × Int} (hm : m_gleemake_Stream_Flip a0_0 a0_1 a1 = some r) :
    Ctr Try.prog 5 [.pointer (some ⟨b0_, 0, none⟩), .int .i64 a1].toArray [.box b0_ 25 [s0_0_.v, .int .i64 a0_1]] [RdS R3 s0_0_.v a0_0] (X := Unit) (fun _ => .bool r.1) (fun _ => [.box b0_ 25 [s0_0_.v, .int .i64 r.2]]) := by
  unfold m_gleemake_Stream_Flip at hm
  refine ctr_mk (vs := [(0, .pointer (some ⟨b0_, 0, none⟩)), (1, .int .i64 a1)]) Try.func5 rfl Try.ntmps5 rfl ⟨rfl, rfl, trivial⟩ (fun w0 A => ?_)
  refine cj_seq ?_
  refine cj_reg ?_
  refine lp rfl (p_as rfl) ?_
  refine lj_seq ?_
  refine cj_seq ?_
  refine cj_reg ?_
  refine lp rfl (p_mv rfl) ?_
  refine lp rfl (p_mv rfl) ?_
  obtain ⟨y1, hy1, hm⟩ := bindS hm
  refine r_call [0] cf18 rfl rfl (ok_gleemake_Stream_Next b0_ s0_0_ a0_0 a0_1 a1 hy1) rfl rfl (.cons (.ro 0 rfl) .nil) (fun _ => rfl) rfl (fun _ => ?_)
  refine lp rfl (p_eql rfl rfl) ?_
  refine lp rfl (p_as rfl) ?_
  refine lj_seq ?_
  obtain rfl := Option.some.inj hm
  exact cj_rt () [0] Try.results5 (.tmp rfl .nil) rfl rfl
theorem ok_gleemake_Stream_Range (b0_ : Nat) (s0_0_ : SV) (a0_0 : (List Int)) (a0_1 : Int) (a1 : Int) (a2 : Int) {r : Int × Int} (hm : m_gleemake_Stream_Range a0_0 a0_1 a1 a2 = some r) :
    Ctr Try.prog 32 [.pointer (some ⟨b0_, 0, none⟩), .int .i64 a1, .int .i64 a2].toArray [.box b0_ 25 [s0_0_.v, .int .i64 a0_1]] [RdS R3 s0_0_.v a0_0] (X := Unit) (fun _ => .int .i64 r.1) (fun _ => [.box b0_ 25 [s0_0_.v, .int .i64 r.2]]) := by
  unfold m_gleemake_Stream_Range at hm
  refine ctr_mk (vs := [(0, .pointer (some ⟨b0_, 0, none⟩)), (1, .int .i64 a1), (2, .int .i64 a2)]) Try.func32 rfl Try.ntmps32 rfl ⟨rfl, rfl, rfl, trivial⟩ (fun w0 A => ?_)
  refine cj_seq ?_
  refine cj_reg ?_
  refine lp rfl (p_as rfl) ?_
  refine lj_seq ?_
  refine cj_seq ?_
  refine cj_seq ?_
  refine cj_reg ?_
  refine lp rfl (p_mv rfl) ?_
  refine lp rfl (p_mv rfl) ?_
  refine lp rfl (p_lss rfl rfl) ?_
  refine lj_seq ?_
  refine cj_if (b := decide (a2 < a1)) rfl (fun hb => ?_) (fun hb => ?_)
  · have hm := ifB_t hb hm
    refine cj_seq ?_
    refine cj_reg ?_
    refine lp rfl (p_mv rfl) ?_
    refine lp rfl (p_as rfl) ?_
    refine lj_seq ?_
    obtain rfl := Option.some.inj hm
    exact cj_rt () [0] Try.results32 (.tmp rfl .nil) rfl rfl
  · have hm := ifB_f hb hm
    refine cj_skip ?_
    refine nj_seq ?_
    refine cj_seq ?_
    refine cj_reg ?_
    refine lp rfl (p_mv rfl) ?_
    refine lp rfl (p_mv rfl) ?_
    refine lp rfl (p_mv rfl) ?_
    refine lp rfl (p_mv rfl) ?_
    refine lp rfl (p_sub rfl rfl) ?_
    refine lp rfl (p_add rfl rfl) ?_
    obtain ⟨y1, hy1, hm⟩ := bindS hm
    refine r_call [0] cf18 rfl rfl (ok_gleemake_Stream_Next b0_ s0_0_ a0_0 a0_1 (w64 ((w64 (a2 - a1)) + 1)) hy1) rfl rfl (.cons (.ro 0 rfl) .nil) (fun _ => rfl) rfl (fun _ => ?_)
    refine lp rfl (p_add rfl rfl) ?_
    refine lp rfl (p_as rfl) ?_
    refine lj_seq ?_
    obtain rfl := Option.some.inj hm
    exact cj_rt () [0] Try.results32 (.tmp rfl .nil) rfl rfl
theorem ok_gleemake_Stream_Pick (b0_ : Nat) (s0_0_ : SV) (a0_0 : (List Int)) (a0_1 : Int) (s1_ : SV) (a1 : (List Int)) {r : Int × Int} (hm : m_gleemake_Stream_Pick a0_0 a0_1 a1 = some r) :
    Ctr Try.prog 20 [.pointer (some ⟨b0_, 0, none⟩), s1_.v].toArray [.box b0_ 25 [s0_0_.v, .int .i64 a0_1]] [RdS R3 s0_0_.v a0_0, RdS R3 s1_.v a1] (X := Unit) (fun _ => .int .i64 r.1) (fun _ => [.box b0_ 25 [s0_0_.v, .int .i64 r.2]]) := by
  unfold m_gleemake_Stream_Pick at hm
  refine ctr_mk (vs := [(0, .pointer (some ⟨b0_, 0, none⟩)), (1, s1_.v)]) Try.func20 rfl Try.ntmps20 rfl ⟨rfl, rfl, trivial⟩ (fun w0 A => ?_)
  refine cj_seq ?_
  refine cj_reg ?_
  refine lp rfl (p_as rfl) ?_
  refine lj_seq ?_
  refine cj_seq ?_
  refine cj_reg ?_
  refine lp rfl (p_mv rfl) ?_
  refine lp rfl (p_mv rfl) ?_
  refine lp rfl (p_mv rfl) ?_
  refine lp rfl (p_len Try.underlying22 rfl (.ro 2 rfl)) ?_
  obtain ⟨y1, hy1, hm⟩ := bindS hm
  refine r_call [0] cf18 rfl rfl (ok_gleemake_Stream_Next b0_ s0_0_ a0_0 a0_1 (a1.length : Int) hy1) rfl rfl (.cons (.ro 0 rfl) .nil) (fun _ => rfl) rfl (fun _ => ?_)
  obtain ⟨e2, he2, hm⟩ := bindS hm
  refine lp rfl (p_idx Try.underlying22 ty3 rfl rfl (.ro 2 rfl) he2) ?_
  refine lp rfl (p_lde (o := 0) ty3 rfl rfl (.ro 2 rfl) (getI_spec he2).2 rfl) ?_
  refine lp rfl (p_as rfl) ?_
  refine lj_seq ?_
  obtain rfl := Option.some.inj hm
  exact cj_rt () [0] Try.results20 (.tmp rfl .nil) rfl rfl
theorem ok_gleemake_Stream_Odd (b0_ : Nat) (s0_0_ : SV) (a0_0 : (List Int)) (a0_1 : Int) (a1 : Int) (a2 : Int) {r : Int × Int} (hm : m_gleemake_Stream_Odd a0_0 a0_1 a1 a2 = some r) :
    Ctr Try.prog 19 [.pointer (some ⟨b0_, 0, none⟩), .int .i64 a1, .int .i64 a2].toArray [.box b0_ 25 [s0_0_.v, .int .i64 a0_1]] [RdS R3 s0_0_.v a0_0] (X := Unit) (fun _ => .int .i64 r.1) (fun _ => [.box b0_ 25 [s0_0_.v, .int .i64 r.2]]) := by
  unfold m_gleemake_Stream_Odd at hm
  refine ctr_mk (vs := [(0, .pointer (some ⟨b0_, 0, none⟩)), (1, .int .i64 a1), (2, .int .i64 a2)]) Try.func19 rfl Try.ntmps19 rfl ⟨rfl, rfl, rfl, trivial⟩ (fun w0 A => ?_)
  refine cj_seq ?_
  refine cj_reg ?_
  refine lp rfl (p_as rfl) ?_
  refine lj_seq ?_
  refine cj_seq ?_
  refine cj_seq ?_
  refine cj_reg ?_
  refine lp rfl (p_mv rfl) ?_
  obtain ⟨y1, hy1, hm⟩ := bindS hm
  refine r_call [0] cf5 rfl rfl (ok_gleemake_Stream_Flip b0_ s0_0_ a0_0 a0_1 12 hy1) rfl rfl (.cons (.ro 0 rfl) .nil) (fun _ => rfl) rfl (fun _ => ?_)
  refine lj_seq ?_
  refine cj_if (b := y1.1) rfl (fun hb => ?_) (fun hb => ?_)
  · have hm := ifB_t hb hm
    refine cj_seq ?_
    refine cj_reg ?_
    refine lp rfl (p_mv rfl) ?_
    refine lp rfl (p_mv rfl) ?_
    refine lp rfl (p_sub rfl rfl) ?_
    refine lp rfl (p_mv rfl) ?_
    refine lp rfl (p_add rfl rfl) ?_
    refine lp rfl (p_mv rfl) ?_
    refine lp rfl (p_mv rfl) ?_
    refine r_bs R3 [w64 (a1 - 1), w64 (a2 + 1), a1, a2, (-1099511627776), 1099511627776] rfl rfl rfl (fun _ => by kernel_rfl) rfl (fun s2 => ?_)
    obtain ⟨y3, hy3, hm⟩ := bindS hm
    refine r_call [1] cf20 rfl rfl (ok_gleemake_Stream_Pick b0_ s0_0_ a0_0 y1.2 s2 ([w64 (a1 - 1), w64 (a2 + 1), a1, a2, (-1099511627776), 1099511627776]) hy3) rfl rfl (.cons (.ro 1 rfl) (.cons (.row 0 rfl) .nil)) (fun _ => rfl) rfl (fun _ => ?_)
    refine lp rfl (p_as rfl) ?_
    refine lj_seq ?_
    obtain rfl := Option.some.inj hm
    exact cj_rt () [0] Try.results19 (.tmp rfl .nil) rfl rfl
  · have hm := ifB_f hb hm
    refine cj_skip ?_
    refine nj_seq ?_
    refine cj_seq ?_
    refine cj_reg ?_
    refine lp rfl (p_mv rfl) ?_
    refine lp rfl (p_mv rfl) ?_
    refine lp rfl (p_mv rfl) ?_
    obtain ⟨y4, hy4, hm⟩ := bindS hm
    refine r_call [0] cf32 rfl rfl (ok_gleemake_Stream_Range b0_ s0_0_ a0_0 y1.2 a1 a2 hy4) rfl rfl (.cons (.ro 0 rfl) .nil) (fun _ => rfl) rfl (fun _ => ?_)
    refine lp rfl (p_as rfl) ?_
    refine lj_seq ?_
    obtain rfl := Option.some.inj hm
    exact cj_rt () [0] Try.results19 (.tmp rfl .nil) rfl rfl
theorem ok_gleemake_Stream_RightBars_1 (b0_ : Nat) (b0_0_ : Nat) (s0_0_0_ : SV) (a0_0_0 : (List Int)) (a0_0_1 : Int) {r : Bar × Int} (hm : m_gleemake_Stream_RightBars_1 a0_0_0 a0_0_1 = some r) :
    Ctr Try.prog 31 [.pointer (some ⟨b0_, 0, none⟩)].toArray [.box b0_ 23 [.pointer (some ⟨b0_0_, 0, none⟩)], .box b0_0_ 25 [s0_0_0_.v, .int .i64 a0_0_1]] [RdS R3 s0_0_0_.v a0_0_0] (X := Unit) (fun _ => .agg (R49.enc r.1).toArray) (fun _ => [.box b0_ 23 [.pointer (some ⟨b0_0_, 0, none⟩)], .box b0_0_ 25 [s0_0_0_.v, .int .i64 r.2]]) := by
  unfold m_gleemake_Stream_RightBars_1 at hm
  refine ctr_mk (vs := [(0, .pointer (some ⟨b0_, 0, none⟩))]) Try.func31 rfl Try.ntmps31 rfl ⟨rfl, trivial⟩ (fun w0 A => ?_)
  refine cj_seq ?_
  refine cj_reg ?_
  refine r_al ty49 rfl (fun b1 => ?_)
  refine lj_seq ?_
  refine cj_seq ?_
  obtain ⟨k4, hk4, hm⟩ := bindS hm
  have hRk4 : ∀ t, k4 = .inr t → some t = some r := fun t e => by rw [e] at hm; exact hm
  refine cj_joinK (σ := (Int × Int × Int)) (γ := Unit) (fun u2 => k4 = .inl u2) (fun u2 g3 => [(1, .pointer (some ⟨b1, 0, none⟩))]) (fun u2 g3 => Sat w0 (keys [.box b0_ 23 [.pointer (some ⟨b0_0_, 0, none⟩)], .box b0_0_ 25 [s0_0_0_.v, .int .i64 a0_0_1]]) A [.box b1 49 [.int .i64 u2.1, .int .i64 u2.2.1, .int .i64 0, .int .i64 0, .bool false], .box b0_ 23 [.pointer (some ⟨b0_0_, 0, none⟩)], .box b0_0_ 25 [s0_0_0_.v, .int .i64 u2.2.2], .ro (RdS R3 (SV.v s0_0_0_) a0_0_0)]) (fun u2 g3 hq => ?_) (fun J cnk4 => ?_)
  · have hm := Sum.fin_l hq hm
    obtain rfl := Option.some.inj hm
    exact cj_rt () [1, 1] Try.results31 (.agg (k := 0) ty49 rfl rfl rfl .nil) rfl rfl
  · have hm := hk4
    obtain ⟨y6, hy6, hm⟩ := bindS hm
    obtain ⟨y8, hy8, hm⟩ := bindS hm
    refine cj_any (Sat w0 (keys [.box b0_ 23 [.pointer (some ⟨b0_0_, 0, none⟩)], .box b0_0_ 25 [s0_0_0_.v, .int .i64 a0_0_1]]) A [.box b0_ 23 [.pointer (some ⟨b0_0_, 0, none⟩)], .ro (RdS R3 (SV.v s0_0_0_) a0_0_0)]) (by kernel_rfl) ?_
    refine aj_take 0 rfl (by kernel_rfl) (by kernel_rfl) (by kernel_rfl) rfl (p_lbs ty23 rfl (j := 0) rfl rfl) (fun _ h => h.picks [1, 2] rfl) ?_
    refine aj_take 3 rfl (by kernel_rfl) (by kernel_rfl) (by kernel_rfl) rfl (p_lbs ty23 rfl (j := 0) rfl rfl) (fun _ h => h.picks [1, 2] rfl) ?_
    refine aj_each (rs := [1, 4]) (by kernel_rfl) (by decide) ?_
    refine (.cons rfl (fun I cnI => ?_) (.cons rfl (fun I cnI => ?_) .nil))
    · refine r_bs R3 [1, 2, 3, 4] rfl rfl rfl (fun _ => by kernel_rfl) rfl (fun s9 => ?_)
      refine lj_nil ?_
      refine cnI _ _ (fun _ h => h.picks [2, 3] rfl) ?_
      refine aj_each (rs := [2, 4]) (by kernel_rfl) (by decide) ?_
      refine (.cons rfl (fun I cnI => ?_) (.cons rfl (fun I cnI => ?_) .nil))
      · refine r_call [3] cf20 rfl rfl (ok_gleemake_Stream_Pick b0_0_ s0_0_0_ a0_0_0 a0_0_1 s9 ([1, 2, 3, 4]) hy6) rfl rfl (.cons (.ro 3 rfl) (.cons (.row 0 rfl) .nil)) (fun _ => rfl) rfl (fun _ => ?_)
        refine lj_nil ?_
        refine cnI _ _ (fun _ h => h.picks [3, 3] rfl) ?_
        refine aj_each (rs := [4]) (by kernel_rfl) (by decide) ?_
        refine (.cons rfl (fun I cnI => ?_) .nil)
        · refine r_bs R3 [4, 4, 2, 8] rfl rfl rfl (fun _ => by kernel_rfl) rfl (fun s10 => ?_)
          refine lj_nil ?_
          refine cnI _ _ (fun _ h => h.picks [4, 4] rfl) ?_
          refine aj_each (rs := [5]) (by kernel_rfl) (by decide) ?_
          refine (.cons rfl (fun I cnI => ?_) .nil)
          · refine r_call [1] cf20 rfl rfl (ok_gleemake_Stream_Pick b0_0_ s0_0_0_ a0_0_0 y6.2 s10 ([4, 4, 2, 8]) hy8) rfl rfl (.cons (.ro 4 rfl) (.cons (.row 0 rfl) .nil)) (fun _ => rfl) rfl (fun _ => ?_)
            refine lj_nil ?_
            refine cnI _ _ (fun _ h => h.picks [4, 4] rfl) ?_
            refine aj_take 6 rfl (by kernel_rfl) (by kernel_rfl) (by kernel_rfl) rfl (p_bld [.int .i64 y6.1, .int .i64 y8.1, .int .i64 0, .int .i64 0, .bool false] rfl (fun _ => by kernel_rfl)) (fun _ h => h.picks [4, 4] rfl) ?_
            refine aj_each (rs := [7]) (by kernel_rfl) (by decide) ?_
            refine (.cons rfl (fun I cnI => ?_) .nil)
            · refine r_sb (vs := [.int .i64 y6.1, .int .i64 y8.1, .int .i64 0, .int .i64 0, .bool false]) (j := 3) ty49 rfl rfl rfl rfl rfl rfl rfl ?_
              refine lj_nil ?_
              refine cnI _ _ (fun _ h => h.picks [4, 4] rfl) ?_
              refine aj_done (by kernel_rfl) ?_
              exact cnk4 _ _ (y6.1, y8.1, y8.2) () (Option.some.inj hm).symm ⟨rfl, trivial⟩ (fun _ h => h.picks [3, 3, 0, 2] rfl)
      · refine r_bs R3 [4, 4, 2, 8] rfl rfl rfl (fun _ => by kernel_rfl) rfl (fun s11 => ?_)
        refine lj_nil ?_
        refine cnI _ _ (fun _ h => h.picks [3, 4] rfl) ?_
        refine aj_each (rs := [2]) (by kernel_rfl) (by decide) ?_
        refine (.cons rfl (fun I cnI => ?_) .nil)
        · refine r_call [4] cf20 rfl rfl (ok_gleemake_Stream_Pick b0_0_ s0_0_0_ a0_0_0 a0_0_1 s9 ([1, 2, 3, 4]) hy6) rfl rfl (.cons (.ro 4 rfl) (.cons (.row 1 rfl) .nil)) (fun _ => rfl) rfl (fun _ => ?_)
          refine lj_nil ?_
          refine cnI _ _ (fun _ h => h.picks [4, 4] rfl) ?_
          refine aj_each (rs := [5]) (by kernel_rfl) (by decide) ?_
          refine (.cons rfl (fun I cnI => ?_) .nil)
          · refine r_call [0] cf20 rfl rfl (ok_gleemake_Stream_Pick b0_0_ s0_0_0_ a0_0_0 y6.2 s11 ([4, 4, 2, 8]) hy8) rfl rfl (.cons (.ro 4 rfl) (.cons (.row 0 rfl) .nil)) (fun _ => rfl) rfl (fun _ => ?_)
            refine lj_nil ?_
            refine cnI _ _ (fun _ h => h.picks [4, 4] rfl) ?_
            refine aj_take 6 rfl (by kernel_rfl) (by kernel_rfl) (by kernel_rfl) rfl (p_bld [.int .i64 y6.1, .int .i64 y8.1, .int .i64 0, .int .i64 0, .bool false] rfl (fun _ => by kernel_rfl)) (fun _ h => h.picks [4, 4] rfl) ?_
            refine aj_each (rs := [7]) (by kernel_rfl) (by decide) ?_
            refine (.cons rfl (fun I cnI => ?_) .nil)
            · refine r_sb (vs := [.int .i64 y6.1, .int .i64 y8.1, .int .i64 0, .int .i64 0, .bool false]) (j := 3) ty49 rfl rfl rfl rfl rfl rfl rfl ?_
              refine lj_nil ?_
              refine cnI _ _ (fun _ h => h.picks [4, 4] rfl) ?_
              refine aj_done (by kernel_rfl) ?_
              exact cnk4 _ _ (y6.1, y8.1, y8.2) () (Option.some.inj hm).symm ⟨rfl, trivial⟩ (fun _ h => h.picks [3, 3, 0, 2] rfl)
    · refine r_bs R3 [4, 4, 2, 8] rfl rfl rfl (fun _ => by kernel_rfl) rfl (fun s12 => ?_)
      refine lj_nil ?_
      refine cnI _ _ (fun _ h => h.picks [2, 3] rfl) ?_
      refine aj_each (rs := [1]) (by kernel_rfl) (by decide) ?_
      refine (.cons rfl (fun I cnI => ?_) .nil)
      · refine r_bs R3 [1, 2, 3, 4] rfl rfl rfl (fun _ => by kernel_rfl) rfl (fun s13 => ?_)
        refine lj_nil ?_
        refine cnI _ _ (fun _ h => h.picks [3, 4] rfl) ?_
        refine aj_each (rs := [2]) (by kernel_rfl) (by decide) ?_
        refine (.cons rfl (fun I cnI => ?_) .nil)
        · refine r_call [4] cf20 rfl rfl (ok_gleemake_Stream_Pick b0_0_ s0_0_0_ a0_0_0 a0_0_1 s13 ([1, 2, 3, 4]) hy6) rfl rfl (.cons (.ro 4 rfl) (.cons (.row 0 rfl) .nil)) (fun _ => rfl) rfl (fun _ => ?_)
          refine lj_nil ?_
          refine cnI _ _ (fun _ h => h.picks [4, 4] rfl) ?_
          refine aj_each (rs := [5]) (by kernel_rfl) (by decide) ?_
          refine (.cons rfl (fun I cnI => ?_) .nil)
          · refine r_call [0] cf20 rfl rfl (ok_gleemake_Stream_Pick b0_0_ s0_0_0_ a0_0_0 y6.2 s12 ([4, 4, 2, 8]) hy8) rfl rfl (.cons (.ro 4 rfl) (.cons (.row 1 rfl) .nil)) (fun _ => rfl) rfl (fun _ => ?_)
            refine lj_nil ?_
            refine cnI _ _ (fun _ h => h.picks [4, 4] rfl) ?_
            refine aj_take 6 rfl (by kernel_rfl) (by kernel_rfl) (by kernel_rfl) rfl (p_bld [.int .i64 y6.1, .int .i64 y8.1, .int .i64 0, .int .i64 0, .bool false] rfl (fun _ => by kernel_rfl)) (fun _ h => h.picks [4, 4] rfl) ?_
            refine aj_each (rs := [7]) (by kernel_rfl) (by decide) ?_
            refine (.cons rfl (fun I cnI => ?_) .nil)
            · refine r_sb (vs := [.int .i64 y6.1, .int .i64 y8.1, .int .i64 0, .int .i64 0, .bool false]) (j := 3) ty49 rfl rfl rfl rfl rfl rfl rfl ?_
              refine lj_nil ?_
              refine cnI _ _ (fun _ h => h.picks [4, 4] rfl) ?_
              refine aj_done (by kernel_rfl) ?_
              exact cnk4 _ _ (y6.1, y8.1, y8.2) () (Option.some.inj hm).symm ⟨rfl, trivial⟩ (fun _ h => h.picks [3, 3, 0, 2] rfl)
theorem ok_gleemake_Stream_RightBars (b0_ : Nat) (s0_0_ : SV) (a0_0 : (List Int)) (a0_1 : Int) {r : (List Bar) × Int} (hm : m_gleemake_Stream_RightBars a0_0 a0_1 = some r) :
    Ctr Try.prog 17 [.pointer (some ⟨b0_, 0, none⟩)].toArray [.box b0_ 25 [s0_0_.v, .int .i64 a0_1]] [RdS R3 s0_0_.v a0_0] (X := SV) (fun s => s.v) (fun s => [.row R49 s.v r.1, .box b0_ 25 [s0_0_.v, .int .i64 r.2]]) := by
  unfold m_gleemake_Stream_RightBars at hm
  refine ctr_mk (vs := [(0, .pointer (some ⟨b0_, 0, none⟩))]) Try.func17 rfl Try.ntmps17 rfl ⟨rfl, trivial⟩ (fun w0 A => ?_)
  refine cj_seq ?_
  refine cj_reg ?_
  refine r_bx (cs := [.pointer (some ⟨b0_, 0, none⟩)]) rfl rfl rfl (fun b1 => ?_)
  refine lp rfl (p_as rfl) ?_
  refine lj_seq ?_
  refine cj_seq ?_
  refine cj_reg ?_
  refine lp rfl (p_as rfl) ?_
  refine lj_seq ?_
  refine cj_seq ?_
  refine cj_reg ?_
  refine lp rfl (p_fn (cv := [.pointer (some ⟨b1, 0, none⟩)]) rfl) ?_
  refine lp rfl (p_as rfl) ?_
  refine lj_seq ?_
  refine cj_seq ?_
  refine cj_seq ?_
  refine cj_reg ?_
  refine lp rfl (p_lbs ty23 rfl (j := 0) rfl rfl) ?_
  obtain ⟨y2, hy2, hm⟩ := bindS hm
  refine r_call [1] cf32 rfl rfl (ok_gleemake_Stream_Range b0_ s0_0_ a0_0 a0_1 1 4 hy2) rfl rfl (.cons (.ro 1 rfl) .nil) (fun _ => rfl) rfl (fun _ => ?_)
  refine lp rfl (p_mv rfl) ?_
  refine lj_seq ?_
  refine cj_nil R49 ?_
  obtain ⟨L41, hL41, hm⟩ := bindS hm
  obtain ⟨f10, hf10, hm⟩ := bindS hm
  refine cj_range (γ := SV) (m := y2.1) hf10 nilS (fun u7 g8 => [(1, .pointer (some ⟨b1, 0, none⟩)), (2, .slice none 0 0), (3, g8.v), (4, .func (.func 31) #[] [.pointer (some ⟨b1, 0, none⟩)].toArray)]) (fun u7 g8 => Sat w0 (keys [.box b0_ 25 [s0_0_.v, .int .i64 a0_1]]) A [.row R49 (SV.v g8) u7.1, .box b0_ 25 [s0_0_.v, .int .i64 u7.2], .box b1 23 [.pointer (some ⟨b0_, 0, none⟩)], .ro (RdS R3 (SV.v s0_0_) a0_0)]) ⟨rfl, rfl, rfl, rfl, rfl, rfl, trivial⟩ (fun _ h => h.picks [0, 0, 0, 0] rfl) (rangeI_spec hL41).1 (fun _ _ => (rangeI_spec hL41).2) (fun _ _ => ⟨rfl, rfl, rfl, rfl⟩) ⟨rfl, rfl, rfl, rfl, rfl⟩ rfl rfl rfl (fun u7 g8 e => ?_) (fun aftk9 i3 x4 u7 g8 k9 hx5 hs J hJk9 hBk9 hX I cnk9 => ?_)
  · have hm := Flow.fin_b e hm
    refine nj_seq ?_
    refine cj_seq ?_
    refine cj_reg ?_
    refine lp rfl (p_mv rfl) ?_
    refine lp rfl (p_as rfl) ?_
    refine lj_seq ?_
    obtain rfl := Option.some.inj hm
    exact cj_rt g8 [0, 0] Try.results17 (.tmp rfl .nil) rfl rfl
  · have hRk9 : ∀ t, k9 = .ret t → some t = some r := fun t e => by rw [hX t e] at hm; exact hm
    have hm := hs
    refine cj_seq ?_
    refine cj_seq ?_
    refine cj_reg ?_
    refine lp rfl (p_lbs ty23 rfl (j := 2) rfl rfl) ?_
    obtain ⟨y11, hy11, hm⟩ := bindS hm
    refine r_call [1] cf5 rfl rfl (ok_gleemake_Stream_Flip b0_ s0_0_ a0_0 u7.2 2 hy11) rfl rfl (.cons (.ro 2 rfl) .nil) (fun _ => rfl) rfl (fun _ => ?_)
    refine lp rfl (p_not rfl) ?_
    refine lj_seq ?_
    refine cj_if (b := !y11.1) rfl (fun hb => ?_) (fun hb => ?_)
    · have hm := ifB_t hb hm
      refine cj_seq ?_
      refine cj_reg ?_
      refine lp rfl (p_mv rfl) ?_
      refine lp rfl (p_mv rfl) ?_
      obtain ⟨y12, hy12, hm⟩ := bindS hm
      refine r_call [2, 0] cf31 rfl rfl (ok_gleemake_Stream_RightBars_1 b1 b0_ s0_0_ a0_0 y11.2 hy12) rfl rfl (.cons (.ro 1 rfl) .nil) (fun _ => rfl) rfl (fun _ => ?_)
      refine r_bs R49 [y12.1] rfl rfl rfl (fun _ => by kernel_rfl) rfl (fun s13 => ?_)
      obtain ⟨q14, hq14, hm⟩ := bindS hm
      refine r_app (k := 3) Try.underlying26 ty49 rfl rfl rfl rfl (.row 0 rfl) hq14 rfl (fun s15 => ?_)
      refine lp rfl (p_as rfl) ?_
      refine lj_seq ?_
      refine cj_exit rfl ?_
      exact cnk9 _ _ (q14, y12.2) s15 (hJk9 _ (Option.some.inj hm).symm) ⟨rfl, rfl, rfl, rfl, rfl, rfl, trivial⟩ (fun _ h => h.picks [3, 2, 1, 1] rfl)
    · have hm := ifB_f hb hm
      refine cj_skip ?_
      refine nj_seq ?_
      refine cj_seq ?_
      refine cj_reg ?_
      refine lp rfl (p_lbs ty23 rfl (j := 2) rfl rfl) ?_
      obtain ⟨y16, hy16, hm⟩ := bindS hm
      refine r_call [0] cf32 rfl rfl (ok_gleemake_Stream_Range b0_ s0_0_ a0_0 y11.2 1 3 hy16) rfl rfl (.cons (.ro 2 rfl) .nil) (fun _ => rfl) rfl (fun _ => ?_)
      refine lp rfl (p_as rfl) ?_
      refine lj_seq ?_
      refine cj_seq ?_
      refine cj_reg ?_
      refine lp rfl (p_lbs ty23 rfl (j := 2) rfl rfl) ?_
      obtain ⟨y17, hy17, hm⟩ := bindS hm
      refine r_call [0] cf32 rfl rfl (ok_gleemake_Stream_Range b0_ s0_0_ a0_0 y16.2 2 3 hy17) rfl rfl (.cons (.ro 2 rfl) .nil) (fun _ => rfl) rfl (fun _ => ?_)
      refine lp rfl (p_as rfl) ?_
      refine lj_seq ?_
      refine cj_seq ?_
      refine cj_reg ?_
      refine lp rfl (p_as rfl) ?_
      refine lj_seq ?_
      refine cj_seq ?_
      refine cj_reg ?_
      refine lp rfl (p_mv rfl) ?_
      refine lp rfl (p_mv rfl) ?_
      refine lj_seq ?_
      obtain ⟨L40, hL40, hm⟩ := bindS hm
      obtain ⟨f24, hf24, hm⟩ := bindS hm
      refine cj_range (γ := SV) (m := y16.1) hf24 g8 (fun u21 g22 => [(1, .pointer (some ⟨b1, 0, none⟩)), (2, .slice none 0 0), (3, g22.v), (4, .func (.func 31) #[] [.pointer (some ⟨b1, 0, none⟩)].toArray), (5, .int .i64 y16.1), (6, .int .i64 y17.1), (7, .int .i64 u21.1), (12, .int .i64 y2.1), (13, .int .i64 (i3 : Int))]) (fun u21 g22 => Sat w0 (keys [.box b0_ 25 [s0_0_.v, .int .i64 a0_1]]) A [.box b0_ 25 [s0_0_.v, .int .i64 u21.2.1], .row R49 (SV.v g22) u21.2.2, .box b1 23 [.pointer (some ⟨b0_, 0, none⟩)], .ro (RdS R3 (SV.v s0_0_) a0_0)]) ⟨rfl, rfl, rfl, rfl, rfl, rfl, rfl, rfl, rfl, rfl, rfl, trivial⟩ (fun _ h => h.picks [0, 0, 0, 0] rfl) (rangeI_spec hL40).1 (fun _ _ => (rangeI_spec hL40).2) (fun _ _ => ⟨rfl, rfl, rfl, rfl⟩) ⟨rfl, rfl, rfl, rfl, rfl⟩ rfl rfl rfl (fun u21 g22 e => ?_) (fun aftk23 i18 x19 u21 g22 k23 hx20 hs J hJk23 hBk23 hX I cnk23 => ?_)
      · have hm := Flow.fin_b e hm
        refine nj_blk ?_
        exact cnk9 _ _ (u21.2.2, u21.2.1) g22 (hJk9 _ (Option.some.inj hm).symm) ⟨rfl, rfl, rfl, rfl, rfl, rfl, trivial⟩ (fun _ h => h.picks [1, 0, 0, 0] rfl)
      · have hRk23 : ∀ t, k23 = .ret t → some t = some k9 := fun t e => by rw [hX t e] at hm; exact hm
        have hm := hs
        refine cj_seq ?_
        refine cj_reg ?_
        refine lp rfl (p_mv rfl) ?_
        refine lp rfl (p_as rfl) ?_
        refine lj_seq ?_
        refine cj_seq ?_
        refine cj_reg ?_
        refine lp rfl (p_mv rfl) ?_
        obtain ⟨y25, hy25, hm⟩ := bindS hm
        refine r_call [2, 0] cf31 rfl rfl (ok_gleemake_Stream_RightBars_1 b1 b0_ s0_0_ a0_0 u21.2.1 hy25) rfl rfl (.cons (.ro 1 rfl) .nil) (fun _ => rfl) rfl (fun _ => ?_)
        refine r_al ty49 rfl (fun b26 => ?_)
        refine r_sb (vs := [.int .i64 y25.1.Beats, .int .i64 y25.1.Unit, .int .i64 y25.1.Close, .int .i64 y25.1.Ending, .bool y25.1.Open]) (j := 0) ty49 rfl rfl rfl rfl rfl rfl rfl ?_
        refine lj_seq ?_
        refine cj_seq ?_
        refine cj_reg ?_
        refine lp rfl (p_mv rfl) ?_
        refine lp rfl (p_eql rfl rfl) ?_
        refine lp rfl (p_fab fl49_4 rfl) ?_
        refine r_sb (vs := [.bool ((i18 : Int) == 0)]) (j := 0) ty4 rfl rfl rfl rfl rfl rfl rfl ?_
        refine lj_seq ?_
        refine cj_seq ?_
        refine cj_seq ?_
        refine cj_reg ?_
        obtain ⟨k29, hk29, hm⟩ := bindS hm
        have hRk29 : ∀ t, k29 = .inr t → some t = some k23 := fun t e => by rw [e] at hm; exact hm
        refine lj_join (σ := (Bool × Int)) (γ := Unit) (fun u27 => k29 = .inl u27) (fun u27 g28 => [(1, .pointer (some ⟨b1, 0, none⟩)), (2, .slice none 0 0), (3, g22.v), (4, .func (.func 31) #[] [.pointer (some ⟨b1, 0, none⟩)].toArray), (5, .int .i64 y16.1), (6, .int .i64 y17.1), (7, .int .i64 u21.1), (8, .int .i64 (i18 : Int)), (9, .pointer (some ⟨b26, 0, none⟩)), (12, .int .i64 y2.1), (13, .int .i64 (i3 : Int)), (27, .int .i64 y16.1), (28, .int .i64 (i18 : Int)), (41, .bool u27.1)]) (fun u27 g28 => Sat w0 (keys [.box b0_ 25 [s0_0_.v, .int .i64 a0_1]]) A [.box b26 49 [.int .i64 y25.1.Beats, .int .i64 y25.1.Unit, .int .i64 y25.1.Close, .int .i64 y25.1.Ending, .bool ((i18 : Int) == 0)], .box b1 23 [.pointer (some ⟨b0_, 0, none⟩)], .box b0_ 25 [s0_0_.v, .int .i64 u27.2], .row R49 (SV.v g22) u21.2.2, .ro (RdS R3 (SV.v s0_0_) a0_0)]) (fun u27 g28 hq => ?_) (fun J cnk29 => ?_)
        · have hm := Sum.fin_l hq hm
          obtain ⟨k33, hk33, hm⟩ := bindS hm
          have hRk33 : ∀ t, k33 = .inr t → some t = some k23 := fun t e => by rw [e] at hm; exact hm
          refine cj_joinK (σ := Int) (γ := Unit) (fun u31 => k33 = .inl u31) (fun u31 g32 => [(1, .pointer (some ⟨b1, 0, none⟩)), (2, .slice none 0 0), (3, g22.v), (4, .func (.func 31) #[] [.pointer (some ⟨b1, 0, none⟩)].toArray), (5, .int .i64 y16.1), (6, .int .i64 y17.1), (7, .int .i64 u31), (8, .int .i64 (i18 : Int)), (9, .pointer (some ⟨b26, 0, none⟩)), (12, .int .i64 y2.1), (13, .int .i64 (i3 : Int)), (27, .int .i64 y16.1), (28, .int .i64 (i18 : Int))]) (fun u31 g32 => Sat w0 (keys [.box b0_ 25 [s0_0_.v, .int .i64 a0_1]]) A [.box b26 49 [.int .i64 y25.1.Beats, .int .i64 y25.1.Unit, .int .i64 y25.1.Close, .int .i64 y25.1.Ending, .bool ((i18 : Int) == 0)], .box b1 23 [.pointer (some ⟨b0_, 0, none⟩)], .box b0_ 25 [s0_0_.v, .int .i64 u27.2], .row R49 (SV.v g22) u21.2.2, .ro (RdS R3 (SV.v s0_0_) a0_0)]) (fun u31 g32 hq => ?_) (fun J cnk33 => ?_)
          · have hm := Sum.fin_l hq hm
            refine cj_seq ?_
            refine cj_reg ?_
            refine lp rfl (p_mv rfl) ?_
            refine lp rfl (p_fab fl49_3 rfl) ?_
            refine r_sb (vs := [.int .i64 u31]) (j := 0) ty3 rfl rfl rfl rfl rfl rfl rfl ?_
            refine lj_seq ?_
            refine cj_seq ?_
            refine cj_seq ?_
            refine cj_reg ?_
            refine lp rfl (p_mv rfl) ?_
            refine lp rfl (p_mv rfl) ?_
            refine lp rfl (p_sub rfl rfl) ?_
            refine lp rfl (p_eql rfl rfl) ?_
            refine lj_seq ?_
            obtain ⟨k36, hk36, hm⟩ := bindS hm
            have hRk36 : ∀ t, k36 = .inr t → some t = some k23 := fun t e => by rw [e] at hm; exact hm
            refine cj_joinK (σ := Int) (γ := Unit) (fun u34 => k36 = .inl u34) (fun u34 g35 => [(1, .pointer (some ⟨b1, 0, none⟩)), (2, .slice none 0 0), (3, g22.v), (4, .func (.func 31) #[] [.pointer (some ⟨b1, 0, none⟩)].toArray), (5, .int .i64 y16.1), (6, .int .i64 y17.1), (7, .int .i64 u31), (9, .pointer (some ⟨b26, 0, none⟩)), (12, .int .i64 y2.1), (13, .int .i64 (i3 : Int)), (27, .int .i64 y16.1), (28, .int .i64 (i18 : Int))]) (fun u34 g35 => Sat w0 (keys [.box b0_ 25 [s0_0_.v, .int .i64 a0_1]]) A [.box b26 49 [.int .i64 y25.1.Beats, .int .i64 y25.1.Unit, .int .i64 u34, .int .i64 u31, .bool ((i18 : Int) == 0)], .box b1 23 [.pointer (some ⟨b0_, 0, none⟩)], .box b0_ 25 [s0_0_.v, .int .i64 u27.2], .row R49 (SV.v g22) u21.2.2, .ro (RdS R3 (SV.v s0_0_) a0_0)]) (fun u34 g35 hq => ?_) (fun J cnk36 => ?_)
            · have hm := Sum.fin_l hq hm
              refine cj_reg ?_
              refine lp rfl (p_mv rfl) ?_
              refine lp rfl (p_lbw ty49 rfl (j := 0) rfl rfl) ?_
              refine r_bs R49 [(Bar.mk y25.1.Beats y25.1.Unit u34 u31 ((i18 : Int) == 0))] rfl rfl rfl (fun _ => by kernel_rfl) rfl (fun s37 => ?_)
              obtain ⟨q38, hq38, hm⟩ := bindS hm
              refine r_app (k := 4) Try.underlying26 ty49 rfl rfl rfl rfl (.row 0 rfl) hq38 rfl (fun s39 => ?_)
              refine lp rfl (p_as rfl) ?_
              refine lj_nil ?_
              refine nj_blk ?_
              exact cnk23 _ _ (u31, u27.2, q38) s39 (hJk23 _ (Option.some.inj hm).symm) ⟨rfl, rfl, rfl, rfl, rfl, rfl, rfl, rfl, rfl, rfl, rfl, trivial⟩ (fun _ h => h.picks [3, 3, 2, 2] rfl)
            · have hm := hk36
              refine cj_if (b := (i18 : Int) == (w64 (y16.1 - 1))) rfl (fun hb => ?_) (fun hb => ?_)
              · have hm := ifB_t hb hm
                refine cj_reg ?_
                refine lp rfl (p_mv rfl) ?_
                refine lp rfl (p_fab fl49_2 rfl) ?_
                refine r_sb (vs := [.int .i64 y17.1]) (j := 0) ty3 rfl rfl rfl rfl rfl rfl rfl ?_
                refine lj_nil ?_
                exact cnk36 _ _ y17.1 () (Option.some.inj hm).symm ⟨rfl, rfl, rfl, rfl, rfl, rfl, rfl, rfl, rfl, rfl, rfl, rfl, trivial⟩ (fun _ h => h.picks [0, 0, 0, 0, 0] rfl)
              · have hm := ifB_f hb hm
                refine cj_skip ?_
                exact cnk36 _ _ y25.1.Close () (Option.some.inj hm).symm ⟨rfl, rfl, rfl, rfl, rfl, rfl, rfl, rfl, rfl, rfl, rfl, rfl, trivial⟩ (fun _ h => h.picks [0, 0, 0, 0, 0] rfl)
          · have hm := hk33
            refine cj_if (b := u27.1) rfl (fun hb => ?_) (fun hb => ?_)
            · have hm := ifB_t hb hm
              refine cj_reg ?_
              refine lp rfl (p_mv rfl) ?_
              refine lp rfl (p_mv rfl) ?_
              refine lp rfl (p_add rfl rfl) ?_
              refine lp rfl (p_min rfl rfl) ?_
              refine lp rfl (p_as rfl) ?_
              refine lj_nil ?_
              exact cnk33 _ _ (min y17.1 (w64 (u21.1 + 1))) () (Option.some.inj hm).symm ⟨rfl, rfl, rfl, rfl, rfl, rfl, rfl, rfl, rfl, rfl, rfl, rfl, rfl, trivial⟩ (fun _ h => h.picks [0, 0, 0, 0, 0] rfl)
            · have hm := ifB_f hb hm
              refine cj_skip ?_
              exact cnk33 _ _ u21.1 () (Option.some.inj hm).symm ⟨rfl, rfl, rfl, rfl, rfl, rfl, rfl, rfl, rfl, rfl, rfl, rfl, rfl, trivial⟩ (fun _ h => h.picks [0, 0, 0, 0, 0] rfl)
        · have hm := hk29
          refine lp rfl (p_mv rfl) ?_
          refine lp rfl (p_gtr rfl rfl) ?_
          refine lp rfl (p_mv rfl) ?_
          refine lcase (i := 38) (decide ((i18 : Int) > 0)) rfl (fun hb => ?_) (fun hb => ?_)
          · have hm := ifB_t hb hm
            refine lg true rfl rfl rfl ?_
            refine lp rfl (p_lbs ty23 rfl (j := 1) rfl rfl) ?_
            refine lg true rfl rfl rfl ?_
            obtain ⟨y30, hy30, hm⟩ := bindS hm
            refine r_call [2] cf5 rfl rfl (ok_gleemake_Stream_Flip b0_ s0_0_ a0_0 y25.2 2 hy30) rfl rfl (.cons (.ro 3 rfl) .nil) (fun _ => rfl) rfl (fun _ => ?_)
            refine lp rfl (p_pkt rfl rfl) ?_
            refine lj_nil ?_
            exact cnk29 _ _ (y30.1, y30.2) () (Option.some.inj hm).symm ⟨rfl, rfl, rfl, rfl, rfl, rfl, rfl, rfl, rfl, rfl, rfl, rfl, rfl, rfl, trivial⟩ (fun _ h => h.picks [1, 1, 0, 0, 0] rfl)
          · have hm := ifB_f hb hm
            refine ls true rfl rfl rfl rfl ?_
            refine ls true rfl rfl rfl rfl ?_
            refine lp rfl (p_pkf rfl rfl) ?_
            refine lj_nil ?_
            exact cnk29 _ _ (false, y25.2) () (Option.some.inj hm).symm ⟨rfl, rfl, rfl, rfl, rfl, rfl, rfl, rfl, rfl, rfl, rfl, rfl, rfl, rfl, trivial⟩ (fun _ h => h.picks [0, 0, 0, 0, 0] rfl)
theorem ok_gleemake_Stream_Bars (b0_ : Nat) (s0_0_ : SV) (a0_0 : (List Int)) (a0_1 : Int) {r : (List Bar) × Int} (hm : m_gleemake_Stream_Bars a0_0 a0_1 = some r) :
    Ctr Try.prog 4 [.pointer (some ⟨b0_, 0, none⟩)].toArray [.box b0_ 25 [s0_0_.v, .int .i64 a0_1]] [RdS R3 s0_0_.v a0_0] (X := SV) (fun s => s.v) (fun s => [.row R49 s.v r.1, .box b0_ 25 [s0_0_.v, .int .i64 r.2]]) := by
  unfold m_gleemake_Stream_Bars at hm
  refine ctr_mk (vs := [(0, .pointer (some ⟨b0_, 0, none⟩))]) Try.func4 rfl Try.ntmps4 rfl ⟨rfl, trivial⟩ (fun w0 A => ?_)
  refine cj_seq ?_
  refine cj_reg ?_
  refine lp rfl (p_as rfl) ?_
  refine lj_seq ?_
  refine cj_seq ?_
  refine cj_reg ?_
  refine lp rfl (p_mv rfl) ?_
  obtain ⟨y1, hy1, hm⟩ := bindS hm
  refine r_call [0] cf17 rfl rfl (ok_gleemake_Stream_RightBars b0_ s0_0_ a0_0 a0_1 hy1) rfl rfl (.cons (.ro 0 rfl) .nil) (fun _ => rfl) rfl (fun s2 => ?_)
  refine lp rfl (p_as rfl) ?_
  refine lj_seq ?_
  refine cj_seq ?_
  refine cj_seq ?_
  refine cj_reg ?_
  refine lp rfl (p_mv rfl) ?_
  obtain ⟨y3, hy3, hm⟩ := bindS hm
  refine r_call [1] cf5 rfl rfl (ok_gleemake_Stream_Flip b0_ s0_0_ a0_0 y1.2 10 hy3) rfl rfl (.cons (.ro 1 rfl) .nil) (fun _ => rfl) rfl (fun _ => ?_)
  refine lj_seq ?_
  obtain ⟨k6, hk6, hm⟩ := bindS hm
  have hRk6 : ∀ t, k6 = .inr t → some t = some r := fun t e => by rw [e] at hm; exact hm
  refine cj_joinK (σ := (Int × (List Bar))) (γ := Unit) (fun u4 => k6 = .inl u4) (fun u4 g5 => [(0, .pointer (some ⟨b0_, 0, none⟩)), (2, .slice none 0 0), (3, s2.v)]) (fun u4 g5 => Sat w0 (keys [.box b0_ 25 [s0_0_.v, .int .i64 a0_1]]) A [.box b0_ 25 [s0_0_.v, .int .i64 u4.1], .row R49 (SV.v s2) u4.2, .ro (RdS R3 (SV.v s0_0_) a0_0)]) (fun u4 g5 hq => ?_) (fun J cnk6 => ?_)
  · have hm := Sum.fin_l hq hm
    refine cj_seq ?_
    refine cj_seq ?_
    refine cj_reg ?_
    refine lp rfl (p_mv rfl) ?_
    obtain ⟨y17, hy17, hm⟩ := bindS hm
    refine r_call [0] cf5 rfl rfl (ok_gleemake_Stream_Flip b0_ s0_0_ a0_0 u4.1 60 hy17) rfl rfl (.cons (.ro 1 rfl) .nil) (fun _ => rfl) rfl (fun _ => ?_)
    refine lj_seq ?_
    refine cj_if (b := y17.1) rfl (fun hb => ?_) (fun hb => ?_)
    · have hm := ifB_t hb hm
      refine cj_seq ?_
      refine cj_reg ?_
      refine lp rfl (p_as rfl) ?_
      refine lj_seq ?_
      obtain rfl := Option.some.inj hm
      refine cj_nil R49 ?_
      exact cj_rt nilS [0, 0] Try.results4 (.tmp rfl .nil) rfl rfl
    · have hm := ifB_f hb hm
      refine cj_skip ?_
      refine nj_seq ?_
      refine cj_seq ?_
      refine cj_reg ?_
      refine lp rfl (p_mv rfl) ?_
      refine lp rfl (p_as rfl) ?_
      refine lj_seq ?_
      obtain rfl := Option.some.inj hm
      exact cj_rt s2 [1, 0] Try.results4 (.tmp rfl .nil) rfl rfl
  · have hm := hk6
    refine cj_if (b := y3.1) rfl (fun hb => ?_) (fun hb => ?_)
    · have hm := ifB_t hb hm
      refine cj_seq ?_
      refine cj_reg ?_
      refine lp rfl (p_mv rfl) ?_
      refine lp rfl (p_mv rfl) ?_
      refine lp rfl (p_mv rfl) ?_
      refine lp rfl (p_len Try.underlying26 rfl (.row 1 rfl)) ?_
      obtain ⟨y7, hy7, hm⟩ := bindS hm
      refine r_call [0] cf18 rfl rfl (ok_gleemake_Stream_Next b0_ s0_0_ a0_0 y3.2 (y1.1.length : Int) hy7) rfl rfl (.cons (.ro 1 rfl) .nil) (fun _ => rfl) rfl (fun _ => ?_)
      obtain ⟨e8, he8, hm⟩ := bindS hm
      refine lp rfl (p_idx Try.underlying26 ty49 rfl rfl (.row 1 rfl) he8) ?_
      refine lp rfl (p_as rfl) ?_
      refine lj_seq ?_
      refine cj_seq ?_
      refine cj_reg ?_
      refine lp rfl (p_mv rfl) ?_
      obtain ⟨y9, hy9, hm⟩ := bindS hm
      refine r_call [0] cf18 rfl rfl (ok_gleemake_Stream_Next b0_ s0_0_ a0_0 y7.2 4 hy9) rfl rfl (.cons (.ro 1 rfl) .nil) (fun _ => rfl) rfl (fun _ => ?_)
      refine lj_seq ?_
      refine cj_blk ?_
      refine cj_seq ?_
      refine cj_reg ?_
      refine lp rfl (p_eql rfl rfl) ?_
      refine lp rfl (p_as rfl) ?_
      refine lj_seq ?_
      refine cj_if (b := y9.1 == 0) rfl (fun hb => ?_) (fun hb => ?_)
      · have hm := ifB_t hb hm
        refine cj_reg ?_
        refine lp rfl (p_mv rfl) ?_
        refine lp rfl (p_mv rfl) ?_
        refine lp rfl (p_mv rfl) ?_
        obtain ⟨y10, hy10, hm⟩ := bindS hm
        refine r_call [0] cf19 rfl rfl (ok_gleemake_Stream_Odd b0_ s0_0_ a0_0 y9.2 1 16 hy10) rfl rfl (.cons (.ro 1 rfl) .nil) (fun _ => rfl) rfl (fun _ => ?_)
        refine lp rfl (p_mv rfl) ?_
        refine r_bs R3 [4, 3, 0, 32] rfl rfl rfl (fun _ => by kernel_rfl) rfl (fun s11 => ?_)
        obtain ⟨y12, hy12, hm⟩ := bindS hm
        refine r_call [1] cf20 rfl rfl (ok_gleemake_Stream_Pick b0_ s0_0_ a0_0 y10.2 s11 ([4, 3, 0, 32]) hy12) rfl rfl (.cons (.ro 2 rfl) (.cons (.row 0 rfl) .nil)) (fun _ => rfl) rfl (fun _ => ?_)
        refine lp rfl (p_nce rfl (.row 2 rfl) (getI_spec he8).2) ?_
        refine lp rfl (p_fae fl49_0 rfl (.row 2 rfl) (getI_spec he8).2) ?_
        refine r_ste (k := 2) (o := 0) (vs := [.int .i64 y10.1]) ty3 rfl rfl rfl rfl rfl rfl rfl (getI_spec he8).2 (Bar.mk y10.1 e8.Unit e8.Close e8.Ending e8.Open) rfl rfl ?_
        refine lp rfl (p_nce rfl (.row 2 rfl) (set_he (getI_spec he8).2)) ?_
        refine lp rfl (p_fae fl49_1 rfl (.row 2 rfl) (set_he (getI_spec he8).2)) ?_
        refine r_ste (k := 2) (o := 1) (vs := [.int .i64 y12.1]) ty3 rfl rfl rfl rfl rfl rfl rfl (set_he (getI_spec he8).2) (Bar.mk ((Bar.mk y10.1 e8.Unit e8.Close e8.Ending e8.Open).Beats) y12.1 ((Bar.mk y10.1 e8.Unit e8.Close e8.Ending e8.Open).Close) ((Bar.mk y10.1 e8.Unit e8.Close e8.Ending e8.Open).Ending) ((Bar.mk y10.1 e8.Unit e8.Close e8.Ending e8.Open).Open)) rfl rfl ?_
        refine lj_nil ?_
        refine nj_blk ?_
        exact cnk6 _ _ (y12.2, ((y1.1.set y7.1.toNat (Bar.mk y10.1 e8.Unit e8.Close e8.Ending e8.Open)).set y7.1.toNat (Bar.mk ((Bar.mk y10.1 e8.Unit e8.Close e8.Ending e8.Open).Beats) y12.1 ((Bar.mk y10.1 e8.Unit e8.Close e8.Ending e8.Open).Close) ((Bar.mk y10.1 e8.Unit e8.Close e8.Ending e8.Open).Ending) ((Bar.mk y10.1 e8.Unit e8.Close e8.Ending e8.Open).Open)))) () (Option.some.inj hm).symm ⟨rfl, rfl, rfl, trivial⟩ (fun _ h => h.picks [0, 1, 1] rfl)
      · have hm := ifB_f hb hm
        refine cj_seq ?_
        refine cj_reg ?_
        refine lp rfl (p_eql rfl rfl) ?_
        refine lp rfl (p_as rfl) ?_
        refine lj_seq ?_
        refine cj_if (b := y9.1 == 1) rfl (fun hb => ?_) (fun hb => ?_)
        · have hm := ifB_t hb hm
          refine cj_reg ?_
          refine lp rfl (p_mv rfl) ?_
          refine lp rfl (p_mv rfl) ?_
          refine lp rfl (p_nce rfl (.row 1 rfl) (getI_spec he8).2) ?_
          refine lp rfl (p_fae fl49_4 rfl (.row 1 rfl) (getI_spec he8).2) ?_
          refine lp rfl (p_lde (o := 4) ty4 rfl rfl (.row 1 rfl) (getI_spec he8).2 rfl) ?_
          refine lp rfl (p_not rfl) ?_
          refine lp rfl (p_nce rfl (.row 1 rfl) (getI_spec he8).2) ?_
          refine lp rfl (p_fae fl49_4 rfl (.row 1 rfl) (getI_spec he8).2) ?_
          refine r_ste (k := 1) (o := 4) (vs := [.bool (!e8.Open)]) ty4 rfl rfl rfl rfl rfl rfl rfl (getI_spec he8).2 (Bar.mk e8.Beats e8.Unit e8.Close e8.Ending (!e8.Open)) rfl rfl ?_
          refine lj_nil ?_
          refine nj_blk ?_
          exact cnk6 _ _ (y9.2, (y1.1.set y7.1.toNat (Bar.mk e8.Beats e8.Unit e8.Close e8.Ending (!e8.Open)))) () (Option.some.inj hm).symm ⟨rfl, rfl, rfl, trivial⟩ (fun _ h => h.picks [0, 0, 0] rfl)
        · have hm := ifB_f hb hm
          refine cj_seq ?_
          refine cj_reg ?_
          refine lp rfl (p_eql rfl rfl) ?_
          refine lp rfl (p_as rfl) ?_
          refine lj_seq ?_
          refine cj_if (b := y9.1 == 2) rfl (fun hb => ?_) (fun hb => ?_)
          · have hm := ifB_t hb hm
            refine cj_reg ?_
            refine lp rfl (p_mv rfl) ?_
            refine lp rfl (p_mv rfl) ?_
            refine r_bs R3 [0, 1, 2, 9, 10] rfl rfl rfl (fun _ => by kernel_rfl) rfl (fun s13 => ?_)
            obtain ⟨y14, hy14, hm⟩ := bindS hm
            refine r_call [1] cf20 rfl rfl (ok_gleemake_Stream_Pick b0_ s0_0_ a0_0 y9.2 s13 ([0, 1, 2, 9, 10]) hy14) rfl rfl (.cons (.ro 2 rfl) (.cons (.row 0 rfl) .nil)) (fun _ => rfl) rfl (fun _ => ?_)
            refine lp rfl (p_nce rfl (.row 2 rfl) (getI_spec he8).2) ?_
            refine lp rfl (p_fae fl49_2 rfl (.row 2 rfl) (getI_spec he8).2) ?_
            refine r_ste (k := 2) (o := 2) (vs := [.int .i64 y14.1]) ty3 rfl rfl rfl rfl rfl rfl rfl (getI_spec he8).2 (Bar.mk e8.Beats e8.Unit y14.1 e8.Ending e8.Open) rfl rfl ?_
            refine lj_nil ?_
            refine nj_blk ?_
            exact cnk6 _ _ (y14.2, (y1.1.set y7.1.toNat (Bar.mk e8.Beats e8.Unit y14.1 e8.Ending e8.Open))) () (Option.some.inj hm).symm ⟨rfl, rfl, rfl, trivial⟩ (fun _ h => h.picks [0, 1, 1] rfl)
          · have hm := ifB_f hb hm
            refine cj_reg ?_
            refine lp rfl (p_mv rfl) ?_
            refine lp rfl (p_mv rfl) ?_
            refine r_bs R3 [0, 1, 5, 9, (-1)] rfl rfl rfl (fun _ => by kernel_rfl) rfl (fun s15 => ?_)
            obtain ⟨y16, hy16, hm⟩ := bindS hm
            refine r_call [1] cf20 rfl rfl (ok_gleemake_Stream_Pick b0_ s0_0_ a0_0 y9.2 s15 ([0, 1, 5, 9, (-1)]) hy16) rfl rfl (.cons (.ro 2 rfl) (.cons (.row 0 rfl) .nil)) (fun _ => rfl) rfl (fun _ => ?_)
            refine lp rfl (p_nce rfl (.row 2 rfl) (getI_spec he8).2) ?_
            refine lp rfl (p_fae fl49_3 rfl (.row 2 rfl) (getI_spec he8).2) ?_
            refine r_ste (k := 2) (o := 3) (vs := [.int .i64 y16.1]) ty3 rfl rfl rfl rfl rfl rfl rfl (getI_spec he8).2 (Bar.mk e8.Beats e8.Unit e8.Close y16.1 e8.Open) rfl rfl ?_
            refine lj_nil ?_
            refine nj_blk ?_
            exact cnk6 _ _ (y16.2, (y1.1.set y7.1.toNat (Bar.mk e8.Beats e8.Unit e8.Close y16.1 e8.Open))) () (Option.some.inj hm).symm ⟨rfl, rfl, rfl, trivial⟩ (fun _ h => h.picks [0, 1, 1] rfl)
    · have hm := ifB_f hb hm
      refine cj_skip ?_
      exact cnk6 _ _ (y3.2, y1.1) () (Option.some.inj hm).symm ⟨rfl, rfl, rfl, trivial⟩ (fun _ h => h.picks [0, 0, 0] rfl)
theorem ok_gleelaw2_BarsPlayed (s0_ : SV) (a0 : (List Int)) {r : Bool} (hm : m_gleelaw2_BarsPlayed a0 = some r) :
    Ctr Try.prog 3 [s0_.v].toArray ([] : List Ent) [RdS R3 s0_.v a0] (X := Unit) (fun _ => .bool r) (fun _ => []) := by
  unfold m_gleelaw2_BarsPlayed at hm
  refine ctr_mk (vs := [(0, s0_.v)]) Try.func3 rfl Try.ntmps3 rfl ⟨rfl, trivial⟩ (fun w0 A => ?_)
  refine cj_seq ?_
  refine cj_reg ?_
  refine lp rfl (p_as rfl) ?_
  refine lj_seq ?_
  refine cj_seq ?_
  refine cj_reg ?_
  refine lp rfl (p_mv rfl) ?_
  refine lp rfl (p_bld [s0_.v, .int .i64 0] rfl (fun _ => by kernel_rfl)) ?_
  refine r_bx (cs := [s0_.v, .int .i64 0]) rfl rfl rfl (fun b1 => ?_)
  refine lp rfl (p_as rfl) ?_
  refine lj_seq ?_
  refine cj_seq ?_
  refine cj_reg ?_
  refine lp rfl (p_mv rfl) ?_
  obtain ⟨y2, hy2, hm⟩ := bindS hm
  refine r_call [0] cf4 rfl rfl (ok_gleemake_Stream_Bars b1 s0_ a0 0 hy2) rfl rfl (.cons (.ro 0 rfl) .nil) (fun _ => rfl) rfl (fun s3 => ?_)
  refine lp rfl (p_as rfl) ?_
  refine lj_seq ?_
  refine cj_seq ?_
  refine cj_seq ?_
  refine cj_reg ?_
  refine lp rfl (p_mv rfl) ?_
  obtain ⟨y4, hy4, hm⟩ := bindS hm
  refine r_call [1] cf5 rfl rfl (ok_gleemake_Stream_Flip b1 s0_ a0 y2.2 30 hy4) rfl rfl (.cons (.ro 1 rfl) .nil) (fun _ => rfl) rfl (fun _ => ?_)
  refine lj_seq ?_
  obtain ⟨k7, hk7, hm⟩ := bindS hm
  have hRk7 : ∀ t, k7 = .inr t → some t = some r := fun t e => by rw [e] at hm; exact hm
  refine cj_joinK (σ := (List Bar)) (γ := SV) (fun u5 => k7 = .inl u5) (fun u5 g6 => [(2, .bool false), (4, g6.v)]) (fun u5 g6 => Sat w0 (keys ([] : List Ent)) A [.row R49 (SV.v g6) u5, .ro (RdS R3 (SV.v s0_) a0)]) (fun u5 g6 hq => ?_) (fun J cnk7 => ?_)
  · have hm := Sum.fin_l hq hm
    refine cj_seq ?_
    refine cj_reg ?_
    refine lp rfl (p_mv rfl) ?_
    obtain ⟨y17, hy17, hm⟩ := bindS hm
    refine r_call [] cf6 rfl rfl (ok_piece_Order g6 u5 hy17) rfl rfl (.cons (.row 0 rfl) .nil) (fun _ => rfl) rfl (fun s18 => ?_)
    refine lp rfl (p_mv rfl) ?_
    refine lp rfl (p_ext rfl rfl) ?_
    refine lp rfl (p_ext rfl rfl) ?_
    refine lp rfl (p_as rfl) ?_
    refine lp rfl (p_as rfl) ?_
    refine lj_seq ?_
    refine cj_seq ?_
    refine cj_reg ?_
    refine lp rfl (p_mv rfl) ?_
    obtain ⟨y19, hy19, hm⟩ := bindS hm
    refine r_call [] cf7 rfl rfl (ok_piece_Long g6 u5 hy19) rfl rfl (.cons (.row 1 rfl) .nil) (fun _ => rfl) rfl (fun _ => ?_)
    refine lp rfl (p_mv rfl) ?_
    refine lp rfl (p_ext rfl rfl) ?_
    refine lp rfl (p_ext rfl rfl) ?_
    refine r_al ty33 rfl (fun b20 => ?_)
    refine r_sb (vs := [.int .i64 y19.1.Num, .int .i64 y19.1.Den]) (j := 0) ty33 rfl rfl rfl rfl rfl rfl rfl ?_
    refine lp rfl (p_as rfl) ?_
    refine lj_seq ?_
    refine cj_seq ?_
    refine cj_reg ?_
    refine lp rfl (p_mv rfl) ?_
    obtain ⟨y21, hy21, hm⟩ := bindS hm
    refine r_call [] cf8 rfl rfl (ok_piece_Begins g6 u5 hy21) rfl rfl (.cons (.row 2 rfl) .nil) (fun _ => rfl) rfl (fun s22 => ?_)
    refine lp rfl (p_mv rfl) ?_
    refine lp rfl (p_ext rfl rfl) ?_
    refine lp rfl (p_ext rfl rfl) ?_
    refine lp rfl (p_as rfl) ?_
    refine lp rfl (p_as rfl) ?_
    refine lj_seq ?_
    refine cj_seq ?_
    refine cj_reg ?_
    refine lp rfl (p_mv rfl) ?_
    obtain ⟨y23, hy23, hm⟩ := bindS hm
    refine r_call [] cf9 rfl rfl (ok_gleeref2_BarsFault g6 u5 hy23) rfl rfl (.cons (.row 3 rfl) .nil) (fun _ => rfl) rfl (fun _ => ?_)
    refine lp rfl (p_as rfl) ?_
    refine lj_seq ?_
    refine cj_seq ?_
    refine cj_reg ?_
    refine lp rfl (p_as rfl) ?_
    refine lj_seq ?_
    refine cj_seq ?_
    refine cj_reg ?_
    refine lp rfl (p_as rfl) ?_
    refine lj_seq ?_
    refine cj_seq ?_
    refine cj_reg ?_
    refine lp rfl (p_bld [.int .i64 0, .int .i64 0] rfl (fun _ => by kernel_rfl)) ?_
    refine r_al ty33 rfl (fun b24 => ?_)
    refine r_sb (vs := [.int .i64 0, .int .i64 0]) (j := 0) ty33 rfl rfl rfl rfl rfl rfl rfl ?_
    refine lj_seq ?_
    refine cj_seq ?_
    refine cj_seq ?_
    refine cj_reg ?_
    refine lp rfl (p_mv rfl) ?_
    refine lp rfl (p_eql rfl rfl) ?_
    refine lj_seq ?_
    obtain ⟨k29, hk29, hm⟩ := bindS hm
    have hRk29 : ∀ t, k29 = .inr t → some t = some r := fun t e => by rw [e] at hm; exact hm
    refine cj_joinK (σ := ((List Int) × (List Fraction) × Int × Int)) (γ := (SV × SV)) (fun u27 => k29 = .inl u27) (fun u27 g28 => [(2, .bool false), (4, g6.v), (5, s18.v), (6, .int .i64 y17.2), (7, .pointer (some ⟨b20, 0, none⟩)), (8, .int .i64 y19.2), (9, s22.v), (10, .int .i64 y21.2), (11, .int .i64 y23), (14, .pointer (some ⟨b24, 0, none⟩)), (12, g28.1.v), (13, g28.2.v)]) (fun u27 g28 => Sat w0 (keys ([] : List Ent)) A [.row R3 (SV.v g28.1) u27.1, .row R33 (SV.v g28.2) u27.2.1, .box b24 33 [.int .i64 u27.2.2.1, .int .i64 u27.2.2.2], .row R33 (SV.v s22) y21.1, .box b20 33 [.int .i64 y19.1.Num, .int .i64 y19.1.Den], .row R3 (SV.v s18) y17.1, .row R49 (SV.v g6) u5, .ro (RdS R3 (SV.v s0_) a0)]) (fun u27 g28 hq => ?_) (fun J cnk29 => ?_)
    · have hm := Sum.fin_l hq hm
      refine cj_seq ?_
      refine cj_reg ?_
      refine lp rfl (p_mv rfl) ?_
      obtain ⟨y37, hy37, hm⟩ := bindS hm
      refine r_call [] cf13 rfl rfl (ok_piece_CheckBars g6 u5 hy37) rfl rfl (.cons (.row 6 rfl) .nil) (fun _ => rfl) rfl (fun _ => ?_)
      refine lp rfl (p_mv rfl) ?_
      refine lp rfl (p_eql rfl rfl) ?_
      refine lp rfl (p_mv rfl) ?_
      refine lcase (i := 63) (y37 == y23) rfl (fun hb => ?_) (fun hb => ?_)
      · have hm := ifB_t hb hm
        refine lg true rfl rfl rfl ?_
        refine lp rfl (p_mv rfl) ?_
        refine lg true rfl rfl rfl ?_
        refine lp rfl (p_mv rfl) ?_
        refine lg true rfl rfl rfl ?_
        refine lp rfl (p_eql rfl rfl) ?_
        refine lp rfl (p_pkt rfl rfl) ?_
        refine lp rfl (p_mv rfl) ?_
        refine lcase (i := 68) (y17.2 == y23) rfl (fun hb => ?_) (fun hb => ?_)
        · have hm := ifB_t hb hm
          refine lg true rfl rfl rfl ?_
          refine lp rfl (p_mv rfl) ?_
          refine lg true rfl rfl rfl ?_
          refine lp rfl (p_mv rfl) ?_
          refine lg true rfl rfl rfl ?_
          obtain ⟨y38, hy38, hm⟩ := bindS hm
          refine r_call [] cf14 rfl rfl (ok_slices_Equal_int_int s18 y17.1 g28.1 u27.1 hy38) rfl rfl (.cons (.row 5 rfl) (.cons (.row 0 rfl) .nil)) (fun _ => rfl) rfl (fun _ => ?_)
          refine lp rfl (p_pkt rfl rfl) ?_
          refine lp rfl (p_mv rfl) ?_
          refine lcase (i := 73) y38 rfl (fun hb => ?_) (fun hb => ?_)
          · have hm := ifB_t hb hm
            refine lg true rfl rfl rfl ?_
            refine lp rfl (p_mv rfl) ?_
            refine lg true rfl rfl rfl ?_
            refine lp rfl (p_mv rfl) ?_
            refine lg true rfl rfl rfl ?_
            refine lp rfl (p_eql rfl rfl) ?_
            refine lp rfl (p_pkt rfl rfl) ?_
            refine lp rfl (p_mv rfl) ?_
            refine lcase (i := 78) (y19.2 == y23) rfl (fun hb => ?_) (fun hb => ?_)
            · have hm := ifB_t hb hm
              refine lg true rfl rfl rfl ?_
              refine lp rfl (p_lbw ty33 rfl (j := 4) rfl rfl) ?_
              refine lg true rfl rfl rfl ?_
              refine lp rfl (p_lbw ty33 rfl (j := 2) rfl rfl) ?_
              refine lg true rfl rfl rfl ?_
              refine lp rfl (p_eqst (by kernel_rfl) rfl rfl (eqst33 y19.1 (Fraction.mk u27.2.2.1 u27.2.2.2))) ?_
              refine lp rfl (p_pkt rfl rfl) ?_
              refine lp rfl (p_mv rfl) ?_
              refine lcase (i := 83) (decide (y19.1 = (Fraction.mk u27.2.2.1 u27.2.2.2))) rfl (fun hb => ?_) (fun hb => ?_)
              · have hm := ifB_t hb hm
                refine lg true rfl rfl rfl ?_
                refine lp rfl (p_mv rfl) ?_
                refine lg true rfl rfl rfl ?_
                refine lp rfl (p_mv rfl) ?_
                refine lg true rfl rfl rfl ?_
                refine lp rfl (p_eql rfl rfl) ?_
                refine lp rfl (p_pkt rfl rfl) ?_
                refine lp rfl (p_mv rfl) ?_
                refine lcase (i := 88) (y21.2 == y23) rfl (fun hb => ?_) (fun hb => ?_)
                · have hm := ifB_t hb hm
                  refine lg true rfl rfl rfl ?_
                  refine lp rfl (p_mv rfl) ?_
                  refine lg true rfl rfl rfl ?_
                  refine lp rfl (p_mv rfl) ?_
                  refine lg true rfl rfl rfl ?_
                  obtain ⟨y39, hy39, hm⟩ := bindS hm
                  refine r_call [] cf15 rfl rfl (ok_slices_Equal_api_Fraction_api_Fraction s22 y21.1 g28.2 u27.2.1 hy39) rfl rfl (.cons (.row 3 rfl) (.cons (.row 1 rfl) .nil)) (fun _ => rfl) rfl (fun _ => ?_)
                  refine lp rfl (p_pkt rfl rfl) ?_
                  refine lp rfl (p_mv rfl) ?_
                  refine lcase (i := 93) y39 rfl (fun hb => ?_) (fun hb => ?_)
                  · have hm := ifB_t hb hm
                    refine lg true rfl rfl rfl ?_
                    obtain ⟨y40, hy40, hm⟩ := bindS hm
                    refine r_call [] cf16 rfl rfl (ok_gleelaw2_written  hy40) rfl rfl .nil (fun _ => rfl) rfl (fun _ => ?_)
                    refine lp rfl (p_pkt rfl rfl) ?_
                    refine lp rfl (p_as rfl) ?_
                    refine lj_seq ?_
                    obtain rfl := Option.some.inj hm
                    exact cj_rt () [] Try.results3 (.tmp rfl .nil) rfl rfl
                  · have hm := ifB_f hb hm
                    refine ls true rfl rfl rfl rfl ?_
                    refine lp rfl (p_pkf rfl rfl) ?_
                    refine lp rfl (p_as rfl) ?_
                    refine lj_seq ?_
                    obtain rfl := Option.some.inj hm
                    exact cj_rt () [] Try.results3 (.tmp rfl .nil) rfl rfl
                · have hm := ifB_f hb hm
                  refine ls true rfl rfl rfl rfl ?_
                  refine ls true rfl rfl rfl rfl ?_
                  refine ls true rfl rfl rfl rfl ?_
                  refine lp rfl (p_pkf rfl rfl) ?_
                  refine lp rfl (p_mv rfl) ?_
                  refine ls true rfl rfl rfl rfl ?_
                  refine lp rfl (p_pkf rfl rfl) ?_
                  refine lp rfl (p_as rfl) ?_
                  refine lj_seq ?_
                  obtain rfl := Option.some.inj hm
                  exact cj_rt () [] Try.results3 (.tmp rfl .nil) rfl rfl
              · have hm := ifB_f hb hm
                refine ls true rfl rfl rfl rfl ?_
                refine ls true rfl rfl rfl rfl ?_
                refine ls true rfl rfl rfl rfl ?_
                refine lp rfl (p_pkf rfl rfl) ?_
                refine lp rfl (p_mv rfl) ?_
                refine ls true rfl rfl rfl rfl ?_
                refine ls true rfl rfl rfl rfl ?_
                refine ls true rfl rfl rfl rfl ?_
                refine lp rfl (p_pkf rfl rfl) ?_
                refine lp rfl (p_mv rfl) ?_
                refine ls true rfl rfl rfl rfl ?_
                refine lp rfl (p_pkf rfl rfl) ?_
                refine lp rfl (p_as rfl) ?_
                refine lj_seq ?_
                obtain rfl := Option.some.inj hm
                exact cj_rt () [] Try.results3 (.tmp rfl .nil) rfl rfl
            · have hm := ifB_f hb hm
              refine ls true rfl rfl rfl rfl ?_
              refine ls true rfl rfl rfl rfl ?_
              refine ls true rfl rfl rfl rfl ?_
              refine lp rfl (p_pkf rfl rfl) ?_
              refine lp rfl (p_mv rfl) ?_
              refine ls true rfl rfl rfl rfl ?_
              refine ls true rfl rfl rfl rfl ?_
              refine ls true rfl rfl rfl rfl ?_
              refine lp rfl (p_pkf rfl rfl) ?_
              refine lp rfl (p_mv rfl) ?_
              refine ls true rfl rfl rfl rfl ?_
              refine ls true rfl rfl rfl rfl ?_
              refine ls true rfl rfl rfl rfl ?_
              refine lp rfl (p_pkf rfl rfl) ?_
              refine lp rfl (p_mv rfl) ?_
              refine ls true rfl rfl rfl rfl ?_
              refine lp rfl (p_pkf rfl rfl) ?_
              refine lp rfl (p_as rfl) ?_
              refine lj_seq ?_
              obtain rfl := Option.some.inj hm
              exact cj_rt () [] Try.results3 (.tmp rfl .nil) rfl rfl
          · have hm := ifB_f hb hm
            refine ls true rfl rfl rfl rfl ?_
            refine ls true rfl rfl rfl rfl ?_
            refine ls true rfl rfl rfl rfl ?_
            refine lp rfl (p_pkf rfl rfl) ?_
            refine lp rfl (p_mv rfl) ?_
            refine ls true rfl rfl rfl rfl ?_
            refine ls true rfl rfl rfl rfl ?_
            refine ls true rfl rfl rfl rfl ?_
            refine lp rfl (p_pkf rfl rfl) ?_
            refine lp rfl (p_mv rfl) ?_
            refine ls true rfl rfl rfl rfl ?_
            refine ls true rfl rfl rfl rfl ?_
            refine ls true rfl rfl rfl rfl ?_
            refine lp rfl (p_pkf rfl rfl) ?_
            refine lp rfl (p_mv rfl) ?_
            refine ls true rfl rfl rfl rfl ?_
            refine ls true rfl rfl rfl rfl ?_
            refine ls true rfl rfl rfl rfl ?_
            refine lp rfl (p_pkf rfl rfl) ?_
            refine lp rfl (p_mv rfl) ?_
            refine ls true rfl rfl rfl rfl ?_
            refine lp rfl (p_pkf rfl rfl) ?_
            refine lp rfl (p_as rfl) ?_
            refine lj_seq ?_
            obtain rfl := Option.some.inj hm
            exact cj_rt () [] Try.results3 (.tmp rfl .nil) rfl rfl
        · have hm := ifB_f hb hm
          refine ls true rfl rfl rfl rfl ?_
          refine ls true rfl rfl rfl rfl ?_
          refine ls true rfl rfl rfl rfl ?_
          refine lp rfl (p_pkf rfl rfl) ?_
          refine lp rfl (p_mv rfl) ?_
          refine ls true rfl rfl rfl rfl ?_
          refine ls true rfl rfl rfl rfl ?_
          refine ls true rfl rfl rfl rfl ?_
          refine lp rfl (p_pkf rfl rfl) ?_
          refine lp rfl (p_mv rfl) ?_
          refine ls true rfl rfl rfl rfl ?_
          refine ls true rfl rfl rfl rfl ?_
          refine ls true rfl rfl rfl rfl ?_
          refine lp rfl (p_pkf rfl rfl) ?_
          refine lp rfl (p_mv rfl) ?_
          refine ls true rfl rfl rfl rfl ?_
          refine ls true rfl rfl rfl rfl ?_
          refine ls true rfl rfl rfl rfl ?_
          refine lp rfl (p_pkf rfl rfl) ?_
          refine lp rfl (p_mv rfl) ?_
          refine ls true rfl rfl rfl rfl ?_
          refine ls true rfl rfl rfl rfl ?_
          refine ls true rfl rfl rfl rfl ?_
          refine lp rfl (p_pkf rfl rfl) ?_
          refine lp rfl (p_mv rfl) ?_
          refine ls true rfl rfl rfl rfl ?_
          refine lp rfl (p_pkf rfl rfl) ?_
          refine lp rfl (p_as rfl) ?_
          refine lj_seq ?_
          obtain rfl := Option.some.inj hm
          exact cj_rt () [] Try.results3 (.tmp rfl .nil) rfl rfl
      · have hm := ifB_f hb hm
        refine ls true rfl rfl rfl rfl ?_
        refine ls true rfl rfl rfl rfl ?_
        refine ls true rfl rfl rfl rfl ?_
        refine lp rfl (p_pkf rfl rfl) ?_
        refine lp rfl (p_mv rfl) ?_
        refine ls true rfl rfl rfl rfl ?_
        refine ls true rfl rfl rfl rfl ?_
        refine ls true rfl rfl rfl rfl ?_
        refine lp rfl (p_pkf rfl rfl) ?_
        refine lp rfl (p_mv rfl) ?_
        refine ls true rfl rfl rfl rfl ?_
        refine ls true rfl rfl rfl rfl ?_
        refine ls true rfl rfl rfl rfl ?_
        refine lp rfl (p_pkf rfl rfl) ?_
        refine lp rfl (p_mv rfl) ?_
        refine ls true rfl rfl rfl rfl ?_
        refine ls true rfl rfl rfl rfl ?_
        refine ls true rfl rfl rfl rfl ?_
        refine lp rfl (p_pkf rfl rfl) ?_
        refine lp rfl (p_mv rfl) ?_
        refine ls true rfl rfl rfl rfl ?_
        refine ls true rfl rfl rfl rfl ?_
        refine ls true rfl rfl rfl rfl ?_
        refine lp rfl (p_pkf rfl rfl) ?_
        refine lp rfl (p_mv rfl) ?_
        refine ls true rfl rfl rfl rfl ?_
        refine ls true rfl rfl rfl rfl ?_
        refine ls true rfl rfl rfl rfl ?_
        refine lp rfl (p_pkf rfl rfl) ?_
        refine lp rfl (p_mv rfl) ?_
        refine ls true rfl rfl rfl rfl ?_
        refine lp rfl (p_pkf rfl rfl) ?_
        refine lp rfl (p_as rfl) ?_
        refine lj_seq ?_
        obtain rfl := Option.some.inj hm
        exact cj_rt () [] Try.results3 (.tmp rfl .nil) rfl rfl
    · have hm := hk29
      refine cj_if (b := y23 == 0) rfl (fun hb => ?_) (fun hb => ?_)
      · have hm := ifB_t hb hm
        refine cj_reg ?_
        refine lp rfl (p_mv rfl) ?_
        obtain ⟨y30, hy30, hm⟩ := bindS hm
        refine r_call [] cf10 rfl rfl (ok_gleeref2_OrderOf g6 u5 hy30) rfl rfl (.cons (.row 4 rfl) .nil) (fun _ => rfl) rfl (fun s31 => ?_)
        refine lp rfl (p_mv rfl) ?_
        obtain ⟨y32, hy32, hm⟩ := bindS hm
        refine r_call [] cf11 rfl rfl (ok_gleeref2_LongOf g6 u5 hy32) rfl rfl (.cons (.row 5 rfl) .nil) (fun _ => rfl) rfl (fun _ => ?_)
        refine lp rfl (p_mv rfl) ?_
        obtain ⟨y33, hy33, hm⟩ := bindS hm
        refine r_call [] cf12 rfl rfl (ok_gleeref2_BeginsOf g6 u5 hy33) rfl rfl (.cons (.row 5 rfl) .nil) (fun _ => rfl) rfl (fun s34 => ?_)
        refine lp rfl (p_as rfl) ?_
        refine r_sb (vs := [.int .i64 y32.Num, .int .i64 y32.Den]) (j := 2) ty33 rfl rfl rfl rfl rfl rfl rfl ?_
        refine lp rfl (p_as rfl) ?_
        refine lj_nil ?_
        exact cnk29 _ _ (y30, y33, y32.Num, y32.Den) (s31, s34) (Option.some.inj hm).symm ⟨rfl, rfl, rfl, rfl, rfl, rfl, rfl, rfl, rfl, rfl, rfl, rfl, trivial⟩ (fun _ h => h.picks [1, 0, 0, 0, 0, 0, 0, 0] rfl)
      · have hm := ifB_f hb hm
        refine cj_skip ?_
        refine nj_nil R3 ?_
        refine nj_nil R33 ?_
        exact cnk29 _ _ ([], [], 0, 0) (nilS, nilS) (Option.some.inj hm).symm ⟨rfl, rfl, rfl, rfl, rfl, rfl, rfl, rfl, rfl, rfl, rfl, rfl, trivial⟩ (fun _ h => h.picks [1, 0, 0, 0, 0, 0, 0, 0] rfl)
  · have hm := hk7
    refine cj_if (b := y4.1) rfl (fun hb => ?_) (fun hb => ?_)
    · have hm := ifB_t hb hm
      obtain ⟨f11, hf11, hm⟩ := bindS hm
      refine cj_whileA (γ := SV) hf11 s3 (fun u8 g9 => [(2, .bool false), (4, g9.v)]) (fun u8 g9 => Sat w0 (keys ([] : List Ent)) A [.row R49 (SV.v g9) u8, .ro (RdS R3 (SV.v s0_) a0)]) ⟨rfl, rfl, trivial⟩ (fun _ h => h.picks [1, 1] rfl) (fun u8 g9 e => ?_) (fun aftk10 u8 g9 k10 hs J hJk10 hBk10 hX I cnk10 => ?_)
      · have hm := Flow.fin_b e hm
        exact cnk7 _ _ u8 g9 (Option.some.inj hm).symm ⟨rfl, rfl, trivial⟩ (fun _ h => h.picks [0, 0] rfl)
      · have hRk10 : ∀ t, k10 = .ret t → some t = some k7 := fun t e => by rw [hX t e] at hm; exact hm
        have hm := hs
        refine cj_seq ?_
        refine cj_seq ?_
        refine cj_reg ?_
        obtain ⟨k14, hk14, hm⟩ := bindS hm
        have hRk14 : ∀ t, k14 = .inr t → some t = some k10 := fun t e => by rw [e] at hm; exact hm
        refine lj_join (σ := Bool) (γ := Unit) (fun u12 => k14 = .inl u12) (fun u12 g13 => [(2, .bool false), (4, g9.v), (29, .bool u12)]) (fun u12 g13 => Sat w0 (keys ([] : List Ent)) A [.row R49 (SV.v g9) u8, .ro (RdS R3 (SV.v s0_) a0)]) (fun u12 g13 hq => ?_) (fun J cnk14 => ?_)
        · have hm := Sum.fin_l hq hm
          refine cj_if (b := u12) rfl (fun hb => ?_) (fun hb => ?_)
          · have hm := ifB_t hb hm
            refine cj_skip ?_
            refine nj_seq ?_
            refine cj_blk ?_
            refine cj_reg ?_
            refine lp rfl (p_mv rfl) ?_
            refine lp rfl (p_mv rfl) ?_
            obtain ⟨q15, hq15, hm⟩ := bindS hm
            refine r_app (k := 0) Try.underlying26 ty49 rfl rfl rfl rfl (.row 0 rfl) hq15 rfl (fun s16 => ?_)
            refine lp rfl (p_as rfl) ?_
            refine lj_nil ?_
            refine nj_blk ?_
            exact cnk10 _ _ q15 s16 (hJk10 _ (Option.some.inj hm).symm) ⟨rfl, rfl, trivial⟩ (fun _ h => h.picks [0, 0] rfl)
          · have hm := ifB_f hb hm
            refine cj_exit rfl ?_
            exact (aftk10 u8 g9 (hBk10 _ (Option.some.inj hm).symm)).sub ⟨rfl, rfl, trivial⟩ (fun _ h => h.picks [0, 0] rfl)
        · have hm := hk14
          refine lp rfl (p_mv rfl) ?_
          refine lp rfl (p_len Try.underlying26 rfl (.row 0 rfl)) ?_
          refine lp rfl (p_gtr rfl rfl) ?_
          refine lp rfl (p_mv rfl) ?_
          refine lcase (i := 25) (decide ((u8.length : Int) > 0)) rfl (fun hb => ?_) (fun hb => ?_)
          · have hm := ifB_t hb hm
            refine lg true rfl rfl rfl ?_
            refine lp rfl (p_mv rfl) ?_
            refine lg true rfl rfl rfl ?_
            refine lp rfl (p_len Try.underlying26 rfl (.row 0 rfl)) ?_
            refine lg true rfl rfl rfl ?_
            refine lp rfl (p_lss rfl rfl) ?_
            refine lp rfl (p_pkt rfl rfl) ?_
            refine lj_nil ?_
            exact cnk14 _ _ (decide ((u8.length : Int) < 297)) () (Option.some.inj hm).symm ⟨rfl, rfl, rfl, trivial⟩ (fun _ h => h.picks [0, 0] rfl)
          · have hm := ifB_f hb hm
            refine ls true rfl rfl rfl rfl ?_
            refine ls true rfl rfl rfl rfl ?_
            refine ls true rfl rfl rfl rfl ?_
            refine lp rfl (p_pkf rfl rfl) ?_
            refine lj_nil ?_
            exact cnk14 _ _ false () (Option.some.inj hm).symm ⟨rfl, rfl, rfl, trivial⟩ (fun _ h => h.picks [0, 0] rfl)
    · have hm := ifB_f hb hm
      refine cj_skip ?_
      exact cnk7 _ _ y2.1 s3 (Option.some.inj hm).symm ⟨rfl, rfl, trivial⟩ (fun _ h => h.picks [1, 1] rfl)
end Go.Proofs.Ythdhojnihldmbaa
