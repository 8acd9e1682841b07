/- The walks. Written by program. -/
import Derived.Test.YtjpicohaggobjaaGreatDoorW
namespace Go.Proofs.YtjpicohaggobjaaGreatDoor
open Go Go.J Go.G
set_option maxRecDepth 100000
set_option linter.unusedVariables false
theorem ok_gleeref2_between (a0 : TProgram) (s0_0_ : SV) (xg0_0_ : List (TItem × SV)) (a1 : Int) {r : Int} (hm : m_gleeref2_between a0 a1 = some r) :
    Ctr Tryz.prog 57 [.agg [s0_0_.v, .int .i64 a0.Change, .int .i64 a0.Clap, .int .i64 a0.Break, .int .i64 a0.Half].toArray, .int .i64 a1].toArray ([] : List Ent) [Lk N37 a0.Items xg0_0_, RdS N37.R (SV.v s0_0_) xg0_0_] (X := Unit) (fun _ => .int .i64 r) (fun _ => []) := by
  unfold m_gleeref2_between at hm
  refine ctr_mk (vs := [(0, .agg [s0_0_.v, .int .i64 a0.Change, .int .i64 a0.Clap, .int .i64 a0.Break, .int .i64 a0.Half].toArray), (1, .int .i64 a1)]) Tryz.func57 rfl Tryz.ntmps57 rfl ⟨rfl, rfl, trivial⟩ (fun w0 A => ?_)
  refine cj_pure (F := Lk N37 a0.Items xg0_0_) (.ro 0 rfl) (fun _ h => h.1) (fun hL0_0_ => ?_)
  refine cj_seq ?_
  refine cj_reg ?_
  refine r_bx (cs := [s0_0_.v, .int .i64 a0.Change, .int .i64 a0.Clap, .int .i64 a0.Break, .int .i64 a0.Half]) rfl rfl rfl (fun b1 => ?_)
  refine lp rfl (p_as rfl) ?_
  refine lj_seq ?_
  refine cj_seq ?_
  refine cj_blk ?_
  refine cj_seq ?_
  refine cj_reg ?_
  refine lp rfl (p_mv rfl) ?_
  refine lp rfl (p_fab fl28_4 rfl) ?_
  refine lp rfl (p_lbs ty3 rfl (j := 0) rfl rfl) ?_
  refine lp rfl (p_eql rfl rfl) ?_
  refine lp rfl (p_as rfl) ?_
  refine lj_seq ?_
  refine cj_if (b := a1 == a0.Half) rfl (fun hb => ?_) (fun hb => ?_)
  · have hm := ifB_t hb hm
    refine cj_seq ?_
    refine cj_reg ?_
    refine lp rfl (p_fab fl28_3 rfl) ?_
    refine lp rfl (p_lbs ty3 rfl (j := 0) rfl rfl) ?_
    refine lp rfl (p_as rfl) ?_
    refine lj_seq ?_
    obtain rfl := Option.some.inj hm
    exact cj_rt () [] Tryz.results57 (.tmp rfl .nil) rfl rfl
  · have hm := ifB_f hb hm
    refine cj_seq ?_
    refine cj_quiet (by kernel_rfl) (by kernel_rfl) ?_
    refine q_p rfl (p_fab fl28_0 rfl) ?_
    refine q_p rfl (p_lbs ty26 rfl (j := 0) rfl rfl) ?_
    refine q_p rfl (p_mv rfl) ?_
    obtain ⟨e2, he2, hm⟩ := bindS hm
    obtain ⟨ge2, he2G⟩ := lk_getI hL0_0_ he2
    refine q_p rfl (p_idx Tryz.underlying26 ty37 rfl rfl (.ro 2 rfl) he2G) ?_
    refine q_p rfl (p_fae fl37_1 rfl (.ro 2 rfl) (getI_spec he2G).2) ?_
    refine q_p rfl (p_lde (o := 1) ty9 rfl rfl (.ro 2 rfl) (getI_spec he2G).2 rfl) ?_
    refine q_p rfl (p_fab fl28_0 rfl) ?_
    refine q_p rfl (p_lbs ty26 rfl (j := 0) rfl rfl) ?_
    refine q_p rfl (p_mv rfl) ?_
    refine q_p rfl (p_add rfl rfl) ?_
    obtain ⟨e3, he3, hm⟩ := bindS hm
    obtain ⟨ge3, he3G⟩ := lk_getI hL0_0_ he3
    refine q_p rfl (p_idx Tryz.underlying26 ty37 rfl rfl (.ro 2 rfl) he3G) ?_
    refine q_p rfl (p_fae fl37_1 rfl (.ro 2 rfl) (getI_spec he3G).2) ?_
    refine q_p rfl (p_lde (o := 1) ty9 rfl rfl (.ro 2 rfl) (getI_spec he3G).2 rfl) ?_
    refine q_p rfl (p_nes rfl rfl) ?_
    refine q_p rfl (p_as rfl) ?_
    refine q_nil ?_
    refine nj_seq ?_
    refine cj_if (b := !(e2.Places.toList == e3.Places.toList)) rfl (fun hb => ?_) (fun hb => ?_)
    · have hm := ifB_t hb hm
      refine cj_seq ?_
      refine cj_reg ?_
      refine lp rfl (p_fab fl28_1 rfl) ?_
      refine lp rfl (p_lbs ty3 rfl (j := 0) rfl rfl) ?_
      refine lp rfl (p_as rfl) ?_
      refine lj_seq ?_
      obtain rfl := Option.some.inj hm
      exact cj_rt () [] Tryz.results57 (.tmp rfl .nil) rfl rfl
    · have hm := ifB_f hb hm
      refine cj_skip ?_
      refine nj_blk ?_
      refine nj_seq ?_
      refine cj_seq ?_
      refine cj_reg ?_
      refine lp rfl (p_fab fl28_2 rfl) ?_
      refine lp rfl (p_lbs ty3 rfl (j := 0) rfl rfl) ?_
      refine lp rfl (p_as rfl) ?_
      refine lj_seq ?_
      obtain rfl := Option.some.inj hm
      exact cj_rt () [] Tryz.results57 (.tmp rfl .nil) rfl rfl
theorem ok_gleeref2_TimedOf (a0 : TProgram) (s0_0_ : SV) (xg0_0_ : List (TItem × SV)) (a1 : Int) {r : (List TTimed)} (hm : m_gleeref2_TimedOf a0 a1 = some r) :
    Ctr Tryz.prog 43 [.agg [s0_0_.v, .int .i64 a0.Change, .int .i64 a0.Clap, .int .i64 a0.Break, .int .i64 a0.Half].toArray, .int .i64 a1].toArray ([] : List Ent) [Lk N37 a0.Items xg0_0_, RdS N37.R (SV.v s0_0_) xg0_0_] (X := SV) (fun s => s.v) (fun s => [.row R79 (SV.v s) r]) := by
  unfold m_gleeref2_TimedOf at hm
  refine ctr_mk (vs := [(0, .agg [s0_0_.v, .int .i64 a0.Change, .int .i64 a0.Clap, .int .i64 a0.Break, .int .i64 a0.Half].toArray), (1, .int .i64 a1)]) Tryz.func43 rfl Tryz.ntmps43 rfl ⟨rfl, rfl, trivial⟩ (fun w0 A => ?_)
  refine cj_pure (F := Lk N37 a0.Items xg0_0_) (.ro 0 rfl) (fun _ h => h.1) (fun hL0_0_ => ?_)
  refine cj_seq ?_
  refine cj_reg ?_
  refine r_bx (cs := [s0_0_.v, .int .i64 a0.Change, .int .i64 a0.Clap, .int .i64 a0.Break, .int .i64 a0.Half]) rfl rfl rfl (fun b1 => ?_)
  refine lp rfl (p_as rfl) ?_
  refine lj_seq ?_
  refine cj_seq ?_
  refine cj_reg ?_
  refine lp rfl (p_as rfl) ?_
  refine lj_seq ?_
  refine cj_seq ?_
  refine cj_seq ?_
  refine cj_reg ?_
  refine lp rfl (p_fab fl28_0 rfl) ?_
  refine lp rfl (p_lbs ty26 rfl (j := 0) rfl rfl) ?_
  refine lp rfl (p_lenG hL0_0_ Tryz.underlying26 rfl (.ro 2 rfl)) ?_
  refine lp rfl (p_mv rfl) ?_
  refine lj_seq ?_
  refine cj_nil R79 ?_
  obtain ⟨f9, hf9, hm⟩ := bindS hm
  refine cj_range (γ := SV) (m := (a0.Items.length : Int)) hf9 nilS (fun u6 g7 => [(1, .int .i64 u6.1), (2, .pointer (some ⟨b1, 0, none⟩)), (4, .slice none 0 0), (5, g7.v), (9, s0_0_.v)]) (fun u6 g7 => Sat w0 (keys ([] : List Ent)) A [.box b1 28 [s0_0_.v, .int .i64 a0.Change, .int .i64 a0.Clap, .int .i64 a0.Break, .int .i64 a0.Half], .ro (Lk N37 a0.Items xg0_0_), .ro (RdS N37.R (SV.v s0_0_) xg0_0_), .row R79 (SV.v g7) u6.2]) ⟨rfl, rfl, rfl, rfl, rfl, rfl, rfl, trivial⟩ (fun _ h => h.picks [1, 1, 1, 0] rfl) (nat_lt _) (fun _ h => by have h1 := (FactAt.get (F := RdS N37.R (SV.v s0_0_) xg0_0_) (.ro 3 rfl) h).1; rw [lk_len hL0_0_] at h1; exact h1) (fun _ _ => ⟨rfl, rfl, rfl, rfl⟩) ⟨rfl, rfl, rfl, rfl, rfl⟩ rfl rfl rfl (fun u6 g7 e => ?_) (fun aftk8 i2 x3 u6 g7 k8 hx4 hs J hJk8 hBk8 hX I cnk8 => ?_)
  · have hm := Flow.fin_b e hm
    refine nj_seq ?_
    refine cj_seq ?_
    refine cj_reg ?_
    refine lp rfl (p_mv rfl) ?_
    refine lp rfl (p_as rfl) ?_
    refine lj_seq ?_
    obtain rfl := Option.some.inj hm
    exact cj_rt g7 [3] Tryz.results43 (.tmp rfl .nil) rfl rfl
  · have hRk8 : ∀ t, k8 = .ret t → some t = some r := fun t e => by rw [hX t e] at hm; exact hm
    have hm := hs
    refine cj_seq ?_
    refine cj_reg ?_
    refine lp rfl (p_mv rfl) ?_
    obtain ⟨gx3, hx4G⟩ := lk_get hL0_0_ hx4
    refine lp rfl (p_idx Tryz.underlying26 ty37 rfl rfl (.ro 2 rfl) (getI_nat.trans hx4G)) ?_
    refine lp rfl (p_leaN (cs := [.string x3.Key, .string x3.Places, .int .i64 x3.Long, gx3.v]) ty37 rfl (.ro 2 rfl) hx4G rfl) ?_
    refine r_al ty37 rfl (fun b11 => ?_)
    refine lp rfl (p_as rfl) ?_
    refine r_sb (vs := [.string x3.Key, .string x3.Places, .int .i64 x3.Long, gx3.v]) (j := 0) ty37 rfl rfl rfl rfl rfl rfl rfl ?_
    refine lj_seq ?_
    refine cj_seq ?_
    refine cj_reg ?_
    refine lp rfl (p_mv rfl) ?_
    refine lp rfl (p_fab fl37_0 rfl) ?_
    refine lp rfl (p_lbs ty9 rfl (j := 0) rfl rfl) ?_
    refine lp rfl (p_mv rfl) ?_
    refine lp rfl (p_mv rfl) ?_
    refine lp rfl (p_fab fl37_2 rfl) ?_
    refine lp rfl (p_lbs ty3 rfl (j := 0) rfl rfl) ?_
    refine lp rfl (p_add rfl rfl) ?_
    refine lp rfl (p_bld [.int .i64 u6.1, .int .i64 (w64 (u6.1 + x3.Long))] rfl (fun _ => by kernel_rfl)) ?_
    refine lp rfl (p_bld [.string x3.Key, .int .i64 u6.1, .int .i64 (w64 (u6.1 + x3.Long))] rfl (fun _ => by kernel_rfl)) ?_
    refine r_bs R79 [(TTimed.mk x3.Key (TWindow.mk u6.1 (w64 (u6.1 + x3.Long))))] rfl rfl rfl (fun _ => by kernel_rfl) rfl (fun s12 => ?_)
    obtain ⟨q13, hq13, hm⟩ := bindS hm
    refine r_app (k := 5) Tryz.underlying80 ty79 rfl rfl rfl rfl (.row 0 rfl) hq13 rfl (fun s14 => ?_)
    refine lp rfl (p_as rfl) ?_
    refine lj_seq ?_
    refine cj_seq ?_
    refine cj_reg ?_
    refine lp rfl (p_mv rfl) ?_
    refine lp rfl (p_fab fl37_2 rfl) ?_
    refine lp rfl (p_lbs ty3 rfl (j := 1) rfl rfl) ?_
    refine lp rfl (p_add rfl rfl) ?_
    refine lp rfl (p_as rfl) ?_
    refine lj_seq ?_
    refine cj_seq ?_
    refine cj_reg ?_
    refine lp rfl (p_mv rfl) ?_
    refine lp rfl (p_add rfl rfl) ?_
    refine lp rfl (p_fab fl28_0 rfl) ?_
    refine lp rfl (p_lbs ty26 rfl (j := 2) rfl rfl) ?_
    refine lp rfl (p_lenG hL0_0_ Tryz.underlying26 rfl (.ro 4 rfl)) ?_
    refine lp rfl (p_lss rfl rfl) ?_
    refine lj_seq ?_
    refine cj_if (b := decide ((w64 ((i2 : Int) + 1)) < (a0.Items.length : Int))) rfl (fun hb => ?_) (fun hb => ?_)
    · have hm := ifB_t hb hm
      refine cj_reg ?_
      refine lp rfl (p_mv rfl) ?_
      refine lp rfl (p_lbw ty28 rfl (j := 2) rfl rfl) ?_
      refine lp rfl (p_mv rfl) ?_
      obtain ⟨y15, hy15, hm⟩ := bindS hm
      refine r_call [] cf57 rfl rfl (ok_gleeref2_between a0 s0_0_ xg0_0_ (i2 : Int) hy15) rfl rfl (.cons (.ro 3 rfl) (.cons (.ro 4 rfl) .nil)) (fun _ => rfl) rfl (fun _ => ?_)
      refine lp rfl (p_add rfl rfl) ?_
      refine lp rfl (p_as rfl) ?_
      refine lj_nil ?_
      refine nj_blk ?_
      exact cnk8 _ _ (w64 ((w64 (u6.1 + x3.Long)) + y15), q13) s14 (hJk8 _ (Option.some.inj hm).symm) ⟨rfl, rfl, rfl, rfl, rfl, rfl, rfl, trivial⟩ (fun _ h => h.picks [2, 2, 2, 2] rfl)
    · have hm := ifB_f hb hm
      refine cj_skip ?_
      refine nj_blk ?_
      exact cnk8 _ _ (w64 (u6.1 + x3.Long), q13) s14 (hJk8 _ (Option.some.inj hm).symm) ⟨rfl, rfl, rfl, rfl, rfl, rfl, rfl, trivial⟩ (fun _ h => h.picks [2, 2, 2, 2] rfl)
theorem ok_gleeref2_LongOfProgram (a0 : TProgram) (s0_0_ : SV) (xg0_0_ : List (TItem × SV)) {r : Int} (hm : m_gleeref2_LongOfProgram a0 = some r) :
    Ctr Tryz.prog 40 [.agg [s0_0_.v, .int .i64 a0.Change, .int .i64 a0.Clap, .int .i64 a0.Break, .int .i64 a0.Half].toArray].toArray ([] : List Ent) [Lk N37 a0.Items xg0_0_, RdS N37.R (SV.v s0_0_) xg0_0_] (X := Unit) (fun _ => .int .i64 r) (fun _ => []) := by
  unfold m_gleeref2_LongOfProgram at hm
  refine ctr_mk (vs := [(0, .agg [s0_0_.v, .int .i64 a0.Change, .int .i64 a0.Clap, .int .i64 a0.Break, .int .i64 a0.Half].toArray)]) Tryz.func40 rfl Tryz.ntmps40 rfl ⟨rfl, trivial⟩ (fun w0 A => ?_)
  refine cj_pure (F := Lk N37 a0.Items xg0_0_) (.ro 0 rfl) (fun _ h => h.1) (fun hL0_0_ => ?_)
  refine cj_seq ?_
  refine cj_reg ?_
  refine r_bx (cs := [s0_0_.v, .int .i64 a0.Change, .int .i64 a0.Clap, .int .i64 a0.Break, .int .i64 a0.Half]) rfl rfl rfl (fun b1 => ?_)
  refine lp rfl (p_as rfl) ?_
  refine lj_seq ?_
  refine cj_seq ?_
  refine cj_reg ?_
  refine lp rfl (p_lbw ty28 rfl (j := 0) rfl rfl) ?_
  obtain ⟨y2, hy2, hm⟩ := bindS hm
  refine r_call [] cf43 rfl rfl (ok_gleeref2_TimedOf a0 s0_0_ xg0_0_ 0 hy2) rfl rfl (.cons (.ro 1 rfl) (.cons (.ro 2 rfl) .nil)) (fun _ => rfl) rfl (fun s3 => ?_)
  refine lp rfl (p_as rfl) ?_
  refine lj_seq ?_
  refine cj_seq ?_
  refine cj_seq ?_
  refine cj_reg ?_
  refine lp rfl (p_mv rfl) ?_
  refine lp rfl (p_len Tryz.underlying80 rfl (.row 0 rfl)) ?_
  refine lp rfl (p_eql rfl rfl) ?_
  refine lj_seq ?_
  refine cj_if (b := (y2.length : Int) == 0) rfl (fun hb => ?_) (fun hb => ?_)
  · have hm := ifB_t hb hm
    refine cj_seq ?_
    refine cj_reg ?_
    refine lp rfl (p_as rfl) ?_
    refine lj_seq ?_
    obtain rfl := Option.some.inj hm
    exact cj_rt () [] Tryz.results40 (.tmp rfl .nil) rfl rfl
  · have hm := ifB_f hb hm
    refine cj_skip ?_
    refine nj_seq ?_
    refine cj_seq ?_
    refine cj_reg ?_
    refine lp rfl (p_mv rfl) ?_
    refine lp rfl (p_mv rfl) ?_
    refine lp rfl (p_len Tryz.underlying80 rfl (.row 0 rfl)) ?_
    refine lp rfl (p_sub rfl rfl) ?_
    obtain ⟨e4, he4, hm⟩ := bindS hm
    refine lp rfl (p_idx Tryz.underlying80 ty79 rfl rfl (.row 0 rfl) he4) ?_
    refine lp rfl (p_fae fl79_1 rfl (.row 0 rfl) (getI_spec he4).2) ?_
    refine lp rfl (p_fae fl77_1 rfl (.row 0 rfl) (getI_spec he4).2) ?_
    refine lp rfl (p_lde (o := 2) ty3 rfl rfl (.row 0 rfl) (getI_spec he4).2 rfl) ?_
    refine lp rfl (p_as rfl) ?_
    refine lj_seq ?_
    obtain rfl := Option.some.inj hm
    exact cj_rt () [] Tryz.results40 (.tmp rfl .nil) rfl rfl
theorem ok_gleeref2_BeginFault (a0 : TProgram) (s0_0_ : SV) (xg0_0_ : List (TItem × SV)) (a1 : Int) {r : Int} (hm : m_gleeref2_BeginFault a0 a1 = some r) :
    Ctr Tryz.prog 15 [.agg [s0_0_.v, .int .i64 a0.Change, .int .i64 a0.Clap, .int .i64 a0.Break, .int .i64 a0.Half].toArray, .int .i64 a1].toArray ([] : List Ent) [Lk N37 a0.Items xg0_0_, RdS N37.R (SV.v s0_0_) xg0_0_] (X := Unit) (fun _ => .int .i64 r) (fun _ => []) := by
  unfold m_gleeref2_BeginFault at hm
  refine ctr_mk (vs := [(0, .agg [s0_0_.v, .int .i64 a0.Change, .int .i64 a0.Clap, .int .i64 a0.Break, .int .i64 a0.Half].toArray), (1, .int .i64 a1)]) Tryz.func15 rfl Tryz.ntmps15 rfl ⟨rfl, rfl, trivial⟩ (fun w0 A => ?_)
  refine cj_pure (F := Lk N37 a0.Items xg0_0_) (.ro 0 rfl) (fun _ h => h.1) (fun hL0_0_ => ?_)
  refine cj_seq ?_
  refine cj_reg ?_
  refine r_bx (cs := [s0_0_.v, .int .i64 a0.Change, .int .i64 a0.Clap, .int .i64 a0.Break, .int .i64 a0.Half]) rfl rfl rfl (fun b1 => ?_)
  refine lp rfl (p_as rfl) ?_
  refine lj_seq ?_
  refine cj_seq ?_
  refine cj_seq ?_
  refine cj_reg ?_
  obtain ⟨k4, hk4, hm⟩ := bindS hm
  have hRk4 : ∀ t, k4 = .inr t → some t = some r := fun t e => by rw [e] at hm; exact hm
  refine lj_join (σ := Bool) (γ := Unit) (fun u2 => k4 = .inl u2) (fun u2 g3 => [(4, .int .i64 0), (14, .bool u2)]) (fun u2 g3 => Sat w0 (keys ([] : List Ent)) A []) (fun u2 g3 hq => ?_) (fun J cnk4 => ?_)
  · have hm := Sum.fin_l hq hm
    refine cj_if (b := u2) rfl (fun hb => ?_) (fun hb => ?_)
    · have hm := ifB_t hb hm
      refine cj_seq ?_
      refine cj_reg ?_
      refine lp rfl (p_as rfl) ?_
      refine lj_seq ?_
      obtain rfl := Option.some.inj hm
      exact cj_rt () [] Tryz.results15 (.tmp rfl .nil) rfl rfl
    · have hm := ifB_f hb hm
      refine cj_skip ?_
      refine nj_seq ?_
      refine cj_seq ?_
      refine cj_reg ?_
      refine lp rfl (p_as rfl) ?_
      refine lj_seq ?_
      obtain rfl := Option.some.inj hm
      exact cj_rt () [] Tryz.results15 (.tmp rfl .nil) rfl rfl
  · have hm := hk4
    refine lp rfl (p_mv rfl) ?_
    obtain ⟨y5, hy5, hm⟩ := bindS hm
    refine r_call [] cf39 rfl rfl (ok_gleeref2_Moment a1 hy5) rfl rfl .nil (fun _ => rfl) rfl (fun _ => ?_)
    refine lp rfl (p_not rfl) ?_
    refine lp rfl (p_mv rfl) ?_
    refine lcase (i := 8) (!y5) rfl (fun hb => ?_) (fun hb => ?_)
    · have hm := ifB_t hb hm
      refine ls false rfl rfl rfl rfl ?_
      refine ls false rfl rfl rfl rfl ?_
      refine ls false rfl rfl rfl rfl ?_
      refine ls false rfl rfl rfl rfl ?_
      refine ls false rfl rfl rfl rfl ?_
      refine lp rfl (p_pkt rfl rfl) ?_
      refine lj_nil ?_
      exact cnk4 _ _ true () (Option.some.inj hm).symm ⟨rfl, rfl, trivial⟩ (fun _ h => h.picks [] rfl)
    · have hm := ifB_f hb hm
      refine lg false rfl rfl rfl ?_
      refine lp rfl (p_mv rfl) ?_
      refine lg false rfl rfl rfl ?_
      refine lp rfl (p_lbw ty28 rfl (j := 0) rfl rfl) ?_
      refine lg false rfl rfl rfl ?_
      obtain ⟨y6, hy6, hm⟩ := bindS hm
      refine r_call [] cf40 rfl rfl (ok_gleeref2_LongOfProgram a0 s0_0_ xg0_0_ hy6) rfl rfl (.cons (.ro 1 rfl) (.cons (.ro 2 rfl) .nil)) (fun _ => rfl) rfl (fun _ => ?_)
      refine lg false rfl rfl rfl ?_
      refine lp rfl (p_add rfl rfl) ?_
      refine lg false rfl rfl rfl ?_
      refine lp rfl (p_gtr rfl rfl) ?_
      refine lp rfl (p_pkf rfl rfl) ?_
      refine lj_nil ?_
      exact cnk4 _ _ (decide ((w64 (a1 + y6)) > 345686400000)) () (Option.some.inj hm).symm ⟨rfl, rfl, trivial⟩ (fun _ h => h.picks [] rfl)
theorem ok_gleeref2_MomentFault (a0 : Int) {r : Int} (hm : m_gleeref2_MomentFault a0 = some r) :
    Ctr Tryz.prog 17 [.int .i64 a0].toArray ([] : List Ent) [] (X := Unit) (fun _ => .int .i64 r) (fun _ => []) := by
  unfold m_gleeref2_MomentFault at hm
  refine ctr_mk (vs := [(0, .int .i64 a0)]) Tryz.func17 rfl Tryz.ntmps17 rfl ⟨rfl, trivial⟩ (fun w0 A => ?_)
  refine cj_seq ?_
  refine cj_reg ?_
  refine lp rfl (p_as rfl) ?_
  refine lj_seq ?_
  refine cj_seq ?_
  refine cj_seq ?_
  refine cj_reg ?_
  refine lp rfl (p_mv rfl) ?_
  obtain ⟨y1, hy1, hm⟩ := bindS hm
  refine r_call [] cf39 rfl rfl (ok_gleeref2_Moment a0 hy1) rfl rfl .nil (fun _ => rfl) rfl (fun _ => ?_)
  refine lp rfl (p_not rfl) ?_
  refine lj_seq ?_
  refine cj_if (b := !y1) rfl (fun hb => ?_) (fun hb => ?_)
  · have hm := ifB_t hb hm
    refine cj_seq ?_
    refine cj_reg ?_
    refine lp rfl (p_as rfl) ?_
    refine lj_seq ?_
    obtain rfl := Option.some.inj hm
    exact cj_rt () [] Tryz.results17 (.tmp rfl .nil) rfl rfl
  · have hm := ifB_f hb hm
    refine cj_skip ?_
    refine nj_seq ?_
    refine cj_seq ?_
    refine cj_reg ?_
    refine lp rfl (p_as rfl) ?_
    refine lj_seq ?_
    obtain rfl := Option.some.inj hm
    exact cj_rt () [] Tryz.results17 (.tmp rfl .nil) rfl rfl
theorem ok_gleelaw2_errs (s0_ : SV) (a0 : (List Int)) {r : Int} (hm : m_gleelaw2_errs a0 = some r) :
    Ctr Tryz.prog 16 [s0_.v].toArray ([] : List Ent) [RdS R39 (SV.v s0_) a0] (X := Unit) (fun _ => .int .i64 r) (fun _ => []) := by
  unfold m_gleelaw2_errs at hm
  refine ctr_mk (vs := [(0, s0_.v)]) Tryz.func16 rfl Tryz.ntmps16 rfl ⟨rfl, trivial⟩ (fun w0 A => ?_)
  refine cj_seq ?_
  refine cj_reg ?_
  refine lp rfl (p_as rfl) ?_
  refine lj_seq ?_
  refine cj_seq ?_
  refine cj_seq ?_
  refine cj_reg ?_
  refine lp rfl (p_mv rfl) ?_
  refine lp rfl (p_len Tryz.underlying73 rfl (.ro 0 rfl)) ?_
  refine lp rfl (p_mv rfl) ?_
  refine lj_seq ?_
  obtain ⟨f7, hf7, hm⟩ := bindS hm
  refine cj_range (γ := Unit) (m := (a0.length : Int)) hf7 () (fun u4 g5 => [(2, .int .i64 0), (5, s0_.v)]) (fun u4 g5 => Sat w0 (keys ([] : List Ent)) A [.ro (RdS R39 (SV.v s0_) a0)]) ⟨rfl, rfl, rfl, rfl, trivial⟩ (fun _ h => h.picks [0] rfl) (nat_lt _) (fun _ h => (FactAt.get (F := RdS R39 (SV.v s0_) a0) (.ro 0 rfl) h).1) (fun _ _ => ⟨rfl, rfl, rfl, rfl⟩) ⟨rfl, rfl, rfl, rfl, rfl⟩ rfl rfl rfl (fun u4 g5 e => ?_) (fun aftk6 i1 x2 u4 g5 k6 hx3 hs J hJk6 hBk6 hX I cnk6 => ?_)
  · have hm := Flow.fin_b e hm
    refine nj_seq ?_
    refine cj_seq ?_
    refine cj_reg ?_
    refine lp rfl (p_as rfl) ?_
    refine lj_seq ?_
    obtain rfl := Option.some.inj hm
    exact cj_rt () [] Tryz.results16 (.tmp rfl .nil) rfl rfl
  · have hRk6 : ∀ t, k6 = .ret t → some t = some r := fun t e => by rw [hX t e] at hm; exact hm
    have hm := hs
    refine cj_seq ?_
    refine cj_reg ?_
    refine lp rfl (p_idx Tryz.underlying73 ty39 rfl rfl (.ro 0 rfl) (getI_nat.trans hx3)) ?_
    refine lp rfl (p_lde (o := 0) ty39 rfl rfl (.ro 0 rfl) hx3 rfl) ?_
    refine lp rfl (p_as rfl) ?_
    refine lj_seq ?_
    refine cj_seq ?_
    refine cj_reg ?_
    refine lp rfl (p_mv rfl) ?_
    refine lp rfl (p_neq rfl rfl) ?_
    refine lj_seq ?_
    refine cj_if (b := x2 != 0) rfl (fun hb => ?_) (fun hb => ?_)
    · have hm := ifB_t hb hm
      refine cj_seq ?_
      refine cj_reg ?_
      refine lp rfl (p_mv rfl) ?_
      refine lp rfl (p_as rfl) ?_
      refine lj_seq ?_
      have hm := hRk6 _ (Option.some.inj hm).symm
      obtain rfl := Option.some.inj hm
      exact cj_rt () [] Tryz.results16 (.tmp rfl .nil) rfl rfl
    · have hm := ifB_f hb hm
      refine cj_skip ?_
      refine nj_blk ?_
      exact cnk6 _ _ () () (hJk6 _ (Option.some.inj hm).symm) ⟨rfl, rfl, rfl, rfl, trivial⟩ (fun _ h => h.picks [0] rfl)
theorem ok_gleelaw2_when (a0 : Bool) (a1 : Int) {r : Int} (hm : m_gleelaw2_when a0 a1 = some r) :
    Ctr Tryz.prog 18 [.bool a0, .int .i64 a1].toArray ([] : List Ent) [] (X := Unit) (fun _ => .int .i64 r) (fun _ => []) := by
  unfold m_gleelaw2_when at hm
  refine ctr_mk (vs := [(0, .bool a0), (1, .int .i64 a1)]) Tryz.func18 rfl Tryz.ntmps18 rfl ⟨rfl, rfl, trivial⟩ (fun w0 A => ?_)
  refine cj_seq ?_
  refine cj_reg ?_
  refine lp rfl (p_as rfl) ?_
  refine lj_seq ?_
  refine cj_seq ?_
  refine cj_seq ?_
  refine cj_reg ?_
  refine lp rfl (p_mv rfl) ?_
  refine lj_seq ?_
  refine cj_if (b := a0) rfl (fun hb => ?_) (fun hb => ?_)
  · have hm := ifB_t hb hm
    refine cj_seq ?_
    refine cj_reg ?_
    refine lp rfl (p_mv rfl) ?_
    refine lp rfl (p_as rfl) ?_
    refine lj_seq ?_
    obtain rfl := Option.some.inj hm
    exact cj_rt () [] Tryz.results18 (.tmp rfl .nil) rfl rfl
  · have hm := ifB_f hb hm
    refine cj_skip ?_
    refine nj_seq ?_
    refine cj_seq ?_
    refine cj_reg ?_
    refine lp rfl (p_as rfl) ?_
    refine lj_seq ?_
    obtain rfl := Option.some.inj hm
    exact cj_rt () [] Tryz.results18 (.tmp rfl .nil) rfl rfl
theorem ok_gleeref2_LateIn (a0 : TProgram) (s0_0_ : SV) (xg0_0_ : List (TItem × SV)) (a1 : Int) (a2 : ByteArray) (a3 : Int) {r : Int} (hm : m_gleeref2_LateIn a0 a1 a2 a3 = some r) :
    Ctr Tryz.prog 20 [.agg [s0_0_.v, .int .i64 a0.Change, .int .i64 a0.Clap, .int .i64 a0.Break, .int .i64 a0.Half].toArray, .int .i64 a1, .string a2, .int .i64 a3].toArray ([] : List Ent) [Lk N37 a0.Items xg0_0_, RdS N37.R (SV.v s0_0_) xg0_0_] (X := Unit) (fun _ => .int .i64 r) (fun _ => []) := by
  unfold m_gleeref2_LateIn at hm
  refine ctr_mk (vs := [(0, .agg [s0_0_.v, .int .i64 a0.Change, .int .i64 a0.Clap, .int .i64 a0.Break, .int .i64 a0.Half].toArray), (1, .int .i64 a1), (2, .string a2), (3, .int .i64 a3)]) Tryz.func20 rfl Tryz.ntmps20 rfl ⟨rfl, rfl, rfl, rfl, trivial⟩ (fun w0 A => ?_)
  refine cj_pure (F := Lk N37 a0.Items xg0_0_) (.ro 0 rfl) (fun _ h => h.1) (fun hL0_0_ => ?_)
  refine cj_seq ?_
  refine cj_reg ?_
  refine r_bx (cs := [s0_0_.v, .int .i64 a0.Change, .int .i64 a0.Clap, .int .i64 a0.Break, .int .i64 a0.Half]) rfl rfl rfl (fun b1 => ?_)
  refine lp rfl (p_as rfl) ?_
  refine lj_seq ?_
  refine cj_seq ?_
  obtain ⟨y2, hy2, hm⟩ := bindS hm
  obtain ⟨y4, hy4, hm⟩ := bindS hm
  obtain ⟨e5, he5, hm⟩ := bindS hm
  refine cj_anyT [0, 1, 2, 4, 5, 6, 12, 13] [] (Sat w0 (keys ([] : List Ent)) A [.box b1 28 [s0_0_.v, .int .i64 a0.Change, .int .i64 a0.Clap, .int .i64 a0.Break, .int .i64 a0.Half], .ro (Lk N37 a0.Items xg0_0_), .ro (RdS N37.R (SV.v s0_0_) xg0_0_)]) (Sat w0 (keys ([] : List Ent)) A [.box b1 28 [s0_0_.v, .int .i64 a0.Change, .int .i64 a0.Clap, .int .i64 a0.Break, .int .i64 a0.Half], .ro (Lk N37 a0.Items xg0_0_), .ro (RdS N37.R (SV.v s0_0_) xg0_0_)]) (by kernel_rfl) ?_
  refine at_take2 0 rfl (by kernel_rfl) (by kernel_rfl) (by kernel_rfl) (fun _ h => h.picks [0, 0, 0] rfl) rfl rfl (p_mv rfl) (fun _ h => h.picks [0, 0, 0] rfl) ?_
  refine at_take2 1 rfl (by kernel_rfl) (by kernel_rfl) (by kernel_rfl) (fun _ h => h.picks [0, 0, 0] rfl) rfl rfl (p_lbw ty28 rfl (j := 0) rfl rfl) (fun _ h => h.picks [0, 0, 0] rfl) ?_
  refine at_take2 2 rfl (by kernel_rfl) (by kernel_rfl) (by kernel_rfl) (fun _ h => h.picks [0, 0, 0] rfl) rfl rfl (p_mv rfl) (fun _ h => h.picks [0, 0, 0] rfl) ?_
  refine at_take2 4 rfl (by kernel_rfl) (by kernel_rfl) (by kernel_rfl) (fun _ h => h.picks [0, 0, 0] rfl) rfl rfl (p_fab fl28_0 rfl) (fun _ h => h.picks [0, 0, 0] rfl) ?_
  refine at_take2 5 rfl (by kernel_rfl) (by kernel_rfl) (by kernel_rfl) (fun _ h => h.picks [0, 0, 0] rfl) rfl rfl (p_lbs ty26 rfl (j := 0) rfl rfl) (fun _ h => h.picks [0, 0, 0] rfl) ?_
  refine at_take2 6 rfl (by kernel_rfl) (by kernel_rfl) (by kernel_rfl) (fun _ h => h.picks [0, 0, 0] rfl) rfl rfl (p_mv rfl) (fun _ h => h.picks [0, 0, 0] rfl) ?_
  refine at_each (rs := [3]) (by kernel_rfl) (by decide) ?_
  refine (.cons rfl (fun I cnI => ?_) .nil)
  · refine r_call [] cf43 rfl rfl (ok_gleeref2_TimedOf a0 s0_0_ xg0_0_ a1 hy2) rfl rfl (.cons (.ro 1 rfl) (.cons (.ro 2 rfl) .nil)) (fun _ => rfl) rfl (fun s6 => ?_)
    refine lj_nil ?_
    refine cnI _ _ (sof1 rfl rfl (fun _ h => h.picks [1, 1, 1] rfl)) ?_
    refine at_each (rs := [7]) (by kernel_rfl) (by decide) ?_
    refine (.cons rfl (fun I cnI => ?_) .nil)
    · refine r_call [] cf19 rfl rfl (ok_gleeref2_ItemAt s0_0_ xg0_0_ a0.Items a2 hy4) rfl rfl (.cons (.ro 2 rfl) (.cons (.ro 3 rfl) .nil)) (fun _ => rfl) rfl (fun _ => ?_)
      refine lj_nil ?_
      refine cnI _ _ (sof1 rfl rfl (fun _ h => h.picks [1, 1, 1] rfl)) ?_
      refine at_each (rs := [8]) (by kernel_rfl) (by decide) ?_
      refine (.cons rfl (fun I cnI => ?_) .nil)
      · refine lp rfl (p_idx Tryz.underlying80 ty79 rfl rfl (.row 0 rfl) he5) ?_
        refine lj_nil ?_
        refine cnI _ _ (sof1 rfl rfl (fun _ h => h.picks [1, 1, 1] rfl)) ?_
        refine at_each (rs := [9]) (by kernel_rfl) (by decide) ?_
        refine (.cons rfl (fun I cnI => ?_) .nil)
        · refine lp rfl (p_fae fl79_1 rfl (.row 0 rfl) (getI_spec he5).2) ?_
          refine lj_nil ?_
          refine cnI _ _ (sof1 rfl rfl (fun _ h => h.picks [1, 1, 1] rfl)) ?_
          refine at_each (rs := [10]) (by kernel_rfl) (by decide) ?_
          refine (.cons rfl (fun I cnI => ?_) .nil)
          · refine lp rfl (p_fae fl77_0 rfl (.row 0 rfl) (getI_spec he5).2) ?_
            refine lj_nil ?_
            refine cnI _ _ (sof1 rfl rfl (fun _ h => h.picks [1, 1, 1] rfl)) ?_
            refine at_each (rs := [11]) (by kernel_rfl) (by decide) ?_
            refine (.cons rfl (fun I cnI => ?_) .nil)
            · refine lp rfl (p_lde (o := 1) ty3 rfl rfl (.row 0 rfl) (getI_spec he5).2 rfl) ?_
              refine lj_nil ?_
              refine cnI _ _ (sof1 rfl rfl (fun _ h => h.picks [1, 1, 1] rfl)) ?_
              refine at_take2 12 rfl (by kernel_rfl) (by kernel_rfl) (by kernel_rfl) (fun _ h => h.picks [0, 0, 0] rfl) rfl rfl (p_sub rfl rfl) (fun _ h => h.picks [1, 1, 1] rfl) ?_
              refine at_take2 13 rfl (by kernel_rfl) (by kernel_rfl) (by kernel_rfl) (fun _ h => h.picks [0, 0, 0] rfl) rfl rfl (p_as rfl) (fun _ h => h.picks [1, 1, 1] rfl) ?_
              refine at_done (by kernel_rfl) ?_
              refine nj_seq ?_
              obtain rfl := Option.some.inj hm
              exact cj_rt () [] Tryz.results20 (.tmp rfl .nil) rfl rfl
theorem ok_gleeref2_partsIn (s0_ : SV) (xg0_ : List (TItem × SV)) (a0 : (List TItem)) {r : (List ByteArray)} (hm : m_gleeref2_partsIn a0 = some r) :
    Ctr Tryz.prog 44 [s0_.v].toArray ([] : List Ent) [Lk N37 a0 xg0_, RdS N37.R (SV.v s0_) xg0_] (X := SV) (fun s => s.v) (fun s => [.row R9 (SV.v s) r]) := by
  unfold m_gleeref2_partsIn at hm
  refine ctr_mk (vs := [(0, s0_.v)]) Tryz.func44 rfl Tryz.ntmps44 rfl ⟨rfl, trivial⟩ (fun w0 A => ?_)
  refine cj_pure (F := Lk N37 a0 xg0_) (.ro 0 rfl) (fun _ h => h.1) (fun hL0_ => ?_)
  refine cj_seq ?_
  refine cj_reg ?_
  refine lp rfl (p_as rfl) ?_
  refine lj_seq ?_
  refine cj_seq ?_
  refine cj_reg ?_
  refine lp rfl (p_as rfl) ?_
  refine lj_seq ?_
  refine cj_seq ?_
  refine cj_seq ?_
  refine cj_reg ?_
  refine lp rfl (p_mv rfl) ?_
  refine lp rfl (p_lenG hL0_ Tryz.underlying26 rfl (.ro 1 rfl)) ?_
  refine lp rfl (p_mv rfl) ?_
  refine lj_seq ?_
  refine cj_nil R9 ?_
  obtain ⟨f8, hf8, hm⟩ := bindS hm
  refine cj_range (γ := SV) (m := (a0.length : Int)) hf8 nilS (fun u5 g6 => [(2, .slice none 0 0), (3, g6.v), (6, s0_.v)]) (fun u5 g6 => Sat w0 (keys ([] : List Ent)) A [.ro (Lk N37 a0 xg0_), .ro (RdS N37.R (SV.v s0_) xg0_), .row R9 (SV.v g6) u5]) ⟨rfl, rfl, rfl, rfl, rfl, trivial⟩ (fun _ h => h.picks [1, 1, 0] rfl) (nat_lt _) (fun _ h => by have h1 := (FactAt.get (F := RdS N37.R (SV.v s0_) xg0_) (.ro 2 rfl) h).1; rw [lk_len hL0_] at h1; exact h1) (fun _ _ => ⟨rfl, rfl, rfl, rfl⟩) ⟨rfl, rfl, rfl, rfl, rfl⟩ rfl rfl rfl (fun u5 g6 e => ?_) (fun aftk7 i1 x2 u5 g6 k7 hx3 hs J hJk7 hBk7 hX I cnk7 => ?_)
  · have hm := Flow.fin_b e hm
    refine nj_seq ?_
    refine cj_seq ?_
    refine cj_reg ?_
    refine lp rfl (p_mv rfl) ?_
    obtain ⟨y14, hy14, hm⟩ := bindS hm
    refine r_call [2] cf58 rfl rfl (ok_slices_Sort_string_string g6 u5 hy14) rfl rfl .nil (fun _ => rfl) rfl (fun _ => ?_)
    refine lj_seq ?_
    refine cj_seq ?_
    refine cj_reg ?_
    refine lp rfl (p_mv rfl) ?_
    obtain ⟨y15, hy15, hm⟩ := bindS hm
    refine r_call [0] cf59 rfl rfl (ok_slices_Compact_string_string g6 y14 hy15) rfl rfl .nil (fun _ => rfl) rfl (fun s16 => ?_)
    refine lp rfl (p_as rfl) ?_
    refine lj_seq ?_
    obtain rfl := Option.some.inj hm
    exact cj_rt s16 [0] Tryz.results44 (.tmp rfl .nil) rfl rfl
  · have hRk7 : ∀ t, k7 = .ret t → some t = some r := fun t e => by rw [hX t e] at hm; exact hm
    have hm := hs
    refine cj_seq ?_
    refine cj_reg ?_
    obtain ⟨gx2, hx3G⟩ := lk_get hL0_ hx3
    refine lp rfl (p_idx Tryz.underlying26 ty37 rfl rfl (.ro 1 rfl) (getI_nat.trans hx3G)) ?_
    refine lp rfl (p_leaN (cs := [.string x2.Key, .string x2.Places, .int .i64 x2.Long, gx2.v]) ty37 rfl (.ro 1 rfl) hx3G rfl) ?_
    refine r_al ty37 rfl (fun b10 => ?_)
    refine r_sb (vs := [.string x2.Key, .string x2.Places, .int .i64 x2.Long, gx2.v]) (j := 0) ty37 rfl rfl rfl rfl rfl rfl rfl ?_
    refine lj_seq ?_
    refine cj_reg ?_
    refine lp rfl (p_mv rfl) ?_
    refine lp rfl (p_fab fl37_3 rfl) ?_
    refine lp rfl (p_lbs ty35 rfl (j := 0) rfl rfl) ?_
    obtain ⟨q11, hq11, hm⟩ := bindS hm
    refine r_app (k := 3) Tryz.underlying35 ty9 rfl rfl rfl rfl (.imp (.ro 1 rfl) (fun _ h => (Lk.at_ h hx3G))) hq11 rfl (fun s12 => ?_)
    refine lp rfl (p_as rfl) ?_
    refine lj_nil ?_
    refine nj_blk ?_
    exact cnk7 _ _ q11 s12 (hJk7 _ (Option.some.inj hm).symm) ⟨rfl, rfl, rfl, rfl, rfl, trivial⟩ (fun _ h => h.picks [1, 1, 1] rfl)
theorem ok_slices_Index_string_string (s0_ : SV) (a0 : (List ByteArray)) (a1 : ByteArray) {r : Int} (hm : m_slices_Index_string_string a0 a1 = some r) :
    Ctr Tryz.prog 60 [s0_.v, .string a1].toArray ([] : List Ent) [RdS R9 (SV.v s0_) a0] (X := Unit) (fun _ => .int .i64 r) (fun _ => []) := by
  unfold m_slices_Index_string_string at hm
  refine ctr_mk (vs := [(0, s0_.v), (1, .string a1)]) Tryz.func60 rfl Tryz.ntmps60 rfl ⟨rfl, rfl, trivial⟩ (fun w0 A => ?_)
  refine cj_seq ?_
  refine cj_reg ?_
  refine lp rfl (p_as rfl) ?_
  refine lj_seq ?_
  refine cj_seq ?_
  refine cj_seq ?_
  refine cj_reg ?_
  refine lp rfl (p_mv rfl) ?_
  refine lp rfl (p_len Tryz.underlying35 rfl (.ro 0 rfl)) ?_
  refine lp rfl (p_mv rfl) ?_
  refine lj_seq ?_
  obtain ⟨f7, hf7, hm⟩ := bindS hm
  refine cj_range (γ := Unit) (m := (a0.length : Int)) hf7 () (fun u4 g5 => [(0, s0_.v), (1, .string a1), (4, .int .i64 0)]) (fun u4 g5 => Sat w0 (keys ([] : List Ent)) A [.ro (RdS R9 (SV.v s0_) a0)]) ⟨rfl, rfl, rfl, rfl, rfl, trivial⟩ (fun _ h => h.picks [0] rfl) (nat_lt _) (fun _ h => (FactAt.get (F := RdS R9 (SV.v s0_) a0) (.ro 0 rfl) h).1) (fun _ _ => ⟨rfl, rfl, rfl, rfl⟩) ⟨rfl, rfl, rfl, rfl, rfl⟩ rfl rfl rfl (fun u4 g5 e => ?_) (fun aftk6 i1 x2 u4 g5 k6 hx3 hs J hJk6 hBk6 hX I cnk6 => ?_)
  · have hm := Flow.fin_b e hm
    refine nj_seq ?_
    refine cj_seq ?_
    refine cj_reg ?_
    refine lp rfl (p_as rfl) ?_
    refine lj_seq ?_
    obtain rfl := Option.some.inj hm
    exact cj_rt () [] Tryz.results60 (.tmp rfl .nil) rfl rfl
  · have hRk6 : ∀ t, k6 = .ret t → some t = some r := fun t e => by rw [hX t e] at hm; exact hm
    have hm := hs
    refine cj_seq ?_
    refine cj_reg ?_
    refine lp rfl (p_mv rfl) ?_
    refine lp rfl (p_as rfl) ?_
    refine lj_seq ?_
    refine cj_seq ?_
    refine cj_reg ?_
    refine lp rfl (p_mv rfl) ?_
    refine lp rfl (p_mv rfl) ?_
    refine lp rfl (p_mv rfl) ?_
    refine lp rfl (p_idx Tryz.underlying35 ty9 rfl rfl (.ro 0 rfl) (getI_nat.trans hx3)) ?_
    refine lp rfl (p_lde (o := 0) ty9 rfl rfl (.ro 0 rfl) hx3 rfl) ?_
    refine lp rfl (p_eqs rfl rfl) ?_
    refine lj_seq ?_
    refine cj_if (b := a1.toList == x2.toList) rfl (fun hb => ?_) (fun hb => ?_)
    · have hm := ifB_t hb hm
      refine cj_seq ?_
      refine cj_reg ?_
      refine lp rfl (p_mv rfl) ?_
      refine lp rfl (p_as rfl) ?_
      refine lj_seq ?_
      have hm := hRk6 _ (Option.some.inj hm).symm
      obtain rfl := Option.some.inj hm
      exact cj_rt () [] Tryz.results60 (.tmp rfl .nil) rfl rfl
    · have hm := ifB_f hb hm
      refine cj_skip ?_
      refine nj_blk ?_
      exact cnk6 _ _ () () (hJk6 _ (Option.some.inj hm).symm) ⟨rfl, rfl, rfl, rfl, rfl, trivial⟩ (fun _ h => h.picks [0] rfl)
theorem ok_slices_Contains_string_string (s0_ : SV) (a0 : (List ByteArray)) (a1 : ByteArray) {r : Bool} (hm : m_slices_Contains_string_string a0 a1 = some r) :
    Ctr Tryz.prog 46 [s0_.v, .string a1].toArray ([] : List Ent) [RdS R9 (SV.v s0_) a0] (X := Unit) (fun _ => .bool r) (fun _ => []) := by
  unfold m_slices_Contains_string_string at hm
  refine ctr_mk (vs := [(0, s0_.v), (1, .string a1)]) Tryz.func46 rfl Tryz.ntmps46 rfl ⟨rfl, rfl, trivial⟩ (fun w0 A => ?_)
  refine cj_seq ?_
  refine cj_reg ?_
  refine lp rfl (p_as rfl) ?_
  refine lj_seq ?_
  refine cj_seq ?_
  refine cj_reg ?_
  refine lp rfl (p_mv rfl) ?_
  refine lp rfl (p_mv rfl) ?_
  obtain ⟨y1, hy1, hm⟩ := bindS hm
  refine r_call [] cf60 rfl rfl (ok_slices_Index_string_string s0_ a0 a1 hy1) rfl rfl (.cons (.ro 0 rfl) .nil) (fun _ => rfl) rfl (fun _ => ?_)
  refine lp rfl (p_geq rfl rfl) ?_
  refine lp rfl (p_as rfl) ?_
  refine lj_seq ?_
  obtain rfl := Option.some.inj hm
  exact cj_rt () [] Tryz.results46 (.tmp rfl .nil) rfl rfl
theorem ok_gleeref2_LeavesAt_1 (a0 : ByteArray) (b1_ : Nat) (s1_0_ : SV) (a1_0 : (List ByteArray)) {r : Bool} (hm : m_gleeref2_LeavesAt_1 a0 a1_0 = some r) :
    Ctr Tryz.prog 45 [.string a0, .pointer (some ⟨b1_, 0, none⟩)].toArray ([] : List Ent) [BoxS b1_ 35 [s1_0_.v], RdS R9 (SV.v s1_0_) a1_0] (X := Unit) (fun _ => .bool r) (fun _ => []) := by
  unfold m_gleeref2_LeavesAt_1 at hm
  refine ctr_mk (vs := [(0, .string a0), (1, .pointer (some ⟨b1_, 0, none⟩))]) Tryz.func45 rfl Tryz.ntmps45 rfl ⟨rfl, rfl, trivial⟩ (fun w0 A => ?_)
  refine cj_seq ?_
  refine cj_reg ?_
  refine lp rfl (p_as rfl) ?_
  refine lj_seq ?_
  refine cj_seq ?_
  refine cj_reg ?_
  refine lp rfl (p_rbs ty35 rfl (.ro 0 rfl) rfl) ?_
  refine lp rfl (p_mv rfl) ?_
  obtain ⟨y1, hy1, hm⟩ := bindS hm
  refine r_call [] cf46 rfl rfl (ok_slices_Contains_string_string s1_0_ a1_0 a0 hy1) rfl rfl (.cons (.ro 1 rfl) .nil) (fun _ => rfl) rfl (fun _ => ?_)
  refine lp rfl (p_not rfl) ?_
  refine lp rfl (p_as rfl) ?_
  refine lj_seq ?_
  obtain rfl := Option.some.inj hm
  exact cj_rt () [] Tryz.results45 (.tmp rfl .nil) rfl rfl
theorem ok_slices_IndexFunc_string_string__gleeref2_LeavesAt_1 (s0_ : SV) (a0 : (List ByteArray)) (b1_c0_ : Nat) (s1_c0_0_ : SV) (a1_c0_0 : (List ByteArray)) {r : Int} (hm : m_slices_IndexFunc_string_string__gleeref2_LeavesAt_1 a0 a1_c0_0 = some r) :
    Ctr Tryz.prog 53 [s0_.v, .func (.func 45) #[] [.pointer (some ⟨b1_c0_, 0, none⟩)].toArray].toArray ([] : List Ent) [RdS R9 (SV.v s0_) a0, BoxS b1_c0_ 35 [s1_c0_0_.v], RdS R9 (SV.v s1_c0_0_) a1_c0_0] (X := Unit) (fun _ => .int .i64 r) (fun _ => []) := by
  unfold m_slices_IndexFunc_string_string__gleeref2_LeavesAt_1 at hm
  refine ctr_mk (vs := [(0, s0_.v), (1, .func (.func 45) #[] [.pointer (some ⟨b1_c0_, 0, none⟩)].toArray)]) Tryz.func53 rfl Tryz.ntmps53 rfl ⟨rfl, rfl, trivial⟩ (fun w0 A => ?_)
  refine cj_seq ?_
  refine cj_reg ?_
  refine lp rfl (p_as rfl) ?_
  refine lj_seq ?_
  refine cj_seq ?_
  refine cj_seq ?_
  refine cj_reg ?_
  refine lp rfl (p_mv rfl) ?_
  refine lp rfl (p_len Tryz.underlying35 rfl (.ro 0 rfl)) ?_
  refine lp rfl (p_mv rfl) ?_
  refine lj_seq ?_
  obtain ⟨f7, hf7, hm⟩ := bindS hm
  refine cj_range (γ := Unit) (m := (a0.length : Int)) hf7 () (fun u4 g5 => [(0, s0_.v), (1, .func (.func 45) #[] [.pointer (some ⟨b1_c0_, 0, none⟩)].toArray), (4, .int .i64 0)]) (fun u4 g5 => Sat w0 (keys ([] : List Ent)) A [.ro (RdS R9 (SV.v s0_) a0), .ro (BoxS b1_c0_ 35 [s1_c0_0_.v]), .ro (RdS R9 (SV.v s1_c0_0_) a1_c0_0)]) ⟨rfl, rfl, rfl, rfl, rfl, trivial⟩ (fun _ h => h.picks [0, 0, 0] rfl) (nat_lt _) (fun _ h => (FactAt.get (F := RdS R9 (SV.v s0_) a0) (.ro 0 rfl) h).1) (fun _ _ => ⟨rfl, rfl, rfl, rfl⟩) ⟨rfl, rfl, rfl, rfl, rfl⟩ rfl rfl rfl (fun u4 g5 e => ?_) (fun aftk6 i1 x2 u4 g5 k6 hx3 hs J hJk6 hBk6 hX I cnk6 => ?_)
  · have hm := Flow.fin_b e hm
    refine nj_seq ?_
    refine cj_seq ?_
    refine cj_reg ?_
    refine lp rfl (p_as rfl) ?_
    refine lj_seq ?_
    obtain rfl := Option.some.inj hm
    exact cj_rt () [] Tryz.results53 (.tmp rfl .nil) rfl rfl
  · have hRk6 : ∀ t, k6 = .ret t → some t = some r := fun t e => by rw [hX t e] at hm; exact hm
    have hm := hs
    refine cj_seq ?_
    refine cj_reg ?_
    refine lp rfl (p_mv rfl) ?_
    refine lp rfl (p_as rfl) ?_
    refine lj_seq ?_
    refine cj_seq ?_
    refine cj_reg ?_
    refine lp rfl (p_mv rfl) ?_
    refine lp rfl (p_mv rfl) ?_
    refine lp rfl (p_mv rfl) ?_
    refine lp rfl (p_idx Tryz.underlying35 ty9 rfl rfl (.ro 0 rfl) (getI_nat.trans hx3)) ?_
    refine lp rfl (p_lde (o := 0) ty9 rfl rfl (.ro 0 rfl) hx3 rfl) ?_
    obtain ⟨y8, hy8, hm⟩ := bindS hm
    refine r_call [] cf45 rfl rfl (ok_gleeref2_LeavesAt_1 x2 b1_c0_ s1_c0_0_ a1_c0_0 hy8) rfl rfl (.cons (.ro 1 rfl) (.cons (.ro 2 rfl) .nil)) (fun _ => rfl) rfl (fun _ => ?_)
    refine lj_seq ?_
    refine cj_if (b := y8) rfl (fun hb => ?_) (fun hb => ?_)
    · have hm := ifB_t hb hm
      refine cj_seq ?_
      refine cj_reg ?_
      refine lp rfl (p_mv rfl) ?_
      refine lp rfl (p_as rfl) ?_
      refine lj_seq ?_
      have hm := hRk6 _ (Option.some.inj hm).symm
      obtain rfl := Option.some.inj hm
      exact cj_rt () [] Tryz.results53 (.tmp rfl .nil) rfl rfl
    · have hm := ifB_f hb hm
      refine cj_skip ?_
      refine nj_blk ?_
      exact cnk6 _ _ () () (hJk6 _ (Option.some.inj hm).symm) ⟨rfl, rfl, rfl, rfl, rfl, trivial⟩ (fun _ h => h.picks [0, 0, 0] rfl)
theorem ok_slices_ContainsFunc_string_string__gleeref2_LeavesAt_1 (s0_ : SV) (a0 : (List ByteArray)) (b1_c0_ : Nat) (s1_c0_0_ : SV) (a1_c0_0 : (List ByteArray)) {r : Bool} (hm : m_slices_ContainsFunc_string_string__gleeref2_LeavesAt_1 a0 a1_c0_0 = some r) :
    Ctr Tryz.prog 33 [s0_.v, .func (.func 45) #[] [.pointer (some ⟨b1_c0_, 0, none⟩)].toArray].toArray ([] : List Ent) [RdS R9 (SV.v s0_) a0, BoxS b1_c0_ 35 [s1_c0_0_.v], RdS R9 (SV.v s1_c0_0_) a1_c0_0] (X := Unit) (fun _ => .bool r) (fun _ => []) := by
  unfold m_slices_ContainsFunc_string_string__gleeref2_LeavesAt_1 at hm
  refine ctr_mk (vs := [(0, s0_.v), (1, .func (.func 45) #[] [.pointer (some ⟨b1_c0_, 0, none⟩)].toArray)]) Tryz.func33 rfl Tryz.ntmps33 rfl ⟨rfl, rfl, trivial⟩ (fun w0 A => ?_)
  refine cj_seq ?_
  refine cj_reg ?_
  refine lp rfl (p_as rfl) ?_
  refine lj_seq ?_
  refine cj_seq ?_
  refine cj_reg ?_
  refine lp rfl (p_mv rfl) ?_
  refine lp rfl (p_mv rfl) ?_
  obtain ⟨y1, hy1, hm⟩ := bindS hm
  refine r_call [] cf53 rfl rfl (ok_slices_IndexFunc_string_string__gleeref2_LeavesAt_1 s0_ a0 b1_c0_ s1_c0_0_ a1_c0_0 hy1) rfl rfl (.cons (.ro 0 rfl) (.cons (.ro 1 rfl) (.cons (.ro 2 rfl) .nil))) (fun _ => rfl) rfl (fun _ => ?_)
  refine lp rfl (p_geq rfl rfl) ?_
  refine lp rfl (p_as rfl) ?_
  refine lj_seq ?_
  obtain rfl := Option.some.inj hm
  exact cj_rt () [] Tryz.results33 (.tmp rfl .nil) rfl rfl
theorem ok_gleeref2_LeavesAt (a0 : TProgram) (s0_0_ : SV) (xg0_0_ : List (TItem × SV)) (a1 : Int) (a2 : Int) {r : (List ByteArray)} (hm : m_gleeref2_LeavesAt a0 a1 a2 = some r) :
    Ctr Tryz.prog 21 [.agg [s0_0_.v, .int .i64 a0.Change, .int .i64 a0.Clap, .int .i64 a0.Break, .int .i64 a0.Half].toArray, .int .i64 a1, .int .i64 a2].toArray ([] : List Ent) [Lk N37 a0.Items xg0_0_, RdS N37.R (SV.v s0_0_) xg0_0_] (X := SV) (fun s => s.v) (fun s => [.row R9 (SV.v s) r]) := by
  unfold m_gleeref2_LeavesAt at hm
  refine ctr_mk (vs := [(0, .agg [s0_0_.v, .int .i64 a0.Change, .int .i64 a0.Clap, .int .i64 a0.Break, .int .i64 a0.Half].toArray), (1, .int .i64 a1), (2, .int .i64 a2)]) Tryz.func21 rfl Tryz.ntmps21 rfl ⟨rfl, rfl, rfl, trivial⟩ (fun w0 A => ?_)
  refine cj_pure (F := Lk N37 a0.Items xg0_0_) (.ro 0 rfl) (fun _ h => h.1) (fun hL0_0_ => ?_)
  refine cj_seq ?_
  refine cj_reg ?_
  refine r_bx (cs := [s0_0_.v, .int .i64 a0.Change, .int .i64 a0.Clap, .int .i64 a0.Break, .int .i64 a0.Half]) rfl rfl rfl (fun b1 => ?_)
  refine lp rfl (p_as rfl) ?_
  refine lj_seq ?_
  refine cj_seq ?_
  refine cj_reg ?_
  refine lp rfl (p_as rfl) ?_
  refine lj_seq ?_
  refine cj_seq ?_
  refine cj_seq ?_
  refine cj_reg ?_
  refine lp rfl (p_lbw ty28 rfl (j := 0) rfl rfl) ?_
  refine lp rfl (p_mv rfl) ?_
  obtain ⟨y2, hy2, hm⟩ := bindS hm
  refine r_call [] cf43 rfl rfl (ok_gleeref2_TimedOf a0 s0_0_ xg0_0_ a1 hy2) rfl rfl (.cons (.ro 1 rfl) (.cons (.ro 2 rfl) .nil)) (fun _ => rfl) rfl (fun s3 => ?_)
  refine lp rfl (p_len Tryz.underlying80 rfl (.row 0 rfl)) ?_
  refine lp rfl (p_mv rfl) ?_
  refine lj_seq ?_
  refine cj_nil R9 ?_
  obtain ⟨f11, hf11, hm⟩ := bindS hm
  refine cj_range (γ := SV) (m := (y2.length : Int)) hf11 nilS (fun u8 g9 => [(2, .int .i64 a2), (3, .pointer (some ⟨b1, 0, none⟩)), (6, .slice none 0 0), (7, g9.v), (13, s3.v)]) (fun u8 g9 => Sat w0 (keys ([] : List Ent)) A [.row R79 (SV.v s3) y2, .box b1 28 [s0_0_.v, .int .i64 a0.Change, .int .i64 a0.Clap, .int .i64 a0.Break, .int .i64 a0.Half], .ro (Lk N37 a0.Items xg0_0_), .ro (RdS N37.R (SV.v s0_0_) xg0_0_), .row R9 (SV.v g9) u8]) ⟨rfl, rfl, rfl, rfl, rfl, rfl, rfl, trivial⟩ (fun _ h => h.picks [1, 1, 1, 1, 0] rfl) (nat_lt _) (fun _ h => (FactAt.get (F := RdS R79 (SV.v s3) y2) (.row 1 rfl) h).1) (fun _ _ => ⟨rfl, rfl, rfl, rfl⟩) ⟨rfl, rfl, rfl, rfl, rfl⟩ rfl rfl rfl (fun u8 g9 e => ?_) (fun aftk10 i4 x5 u8 g9 k10 hx6 hs J hJk10 hBk10 hX I cnk10 => ?_)
  · have hm := Flow.fin_b e hm
    refine nj_seq ?_
    refine cj_seq ?_
    refine cj_reg ?_
    refine lp rfl (p_mv rfl) ?_
    refine lp rfl (p_as rfl) ?_
    refine lj_seq ?_
    obtain rfl := Option.some.inj hm
    exact cj_rt g9 [4] Tryz.results21 (.tmp rfl .nil) rfl rfl
  · have hRk10 : ∀ t, k10 = .ret t → some t = some r := fun t e => by rw [hX t e] at hm; exact hm
    have hm := hs
    refine cj_seq ?_
    refine cj_reg ?_
    refine lp rfl (p_mv rfl) ?_
    refine lp rfl (p_idx Tryz.underlying80 ty79 rfl rfl (.row 0 rfl) (getI_nat.trans hx6)) ?_
    refine lp rfl (p_lea ty79 rfl (.row 0 rfl) hx6) ?_
    refine r_al ty79 rfl (fun b13 => ?_)
    refine lp rfl (p_as rfl) ?_
    refine r_sb (vs := [.string x5.Key, .int .i64 x5.Time.From, .int .i64 x5.Time.To]) (j := 0) ty79 rfl rfl rfl rfl rfl rfl rfl ?_
    refine lj_seq ?_
    refine cj_seq ?_
    refine cj_reg ?_
    refine lp rfl (p_fab fl28_0 rfl) ?_
    refine lp rfl (p_lbs ty26 rfl (j := 2) rfl rfl) ?_
    refine lp rfl (p_mv rfl) ?_
    obtain ⟨q14, hq14, hm⟩ := bindS hm
    obtain ⟨q14G, hq14G, hLq14, hsq14⟩ := lk_cut hL0_0_ hq14
    refine lp rfl (p_cut Tryz.underlying26 ty37 rfl rfl rfl rfl rfl (.ro 4 rfl) rfl rfl hq14G) ?_
    obtain ⟨y15, hy15, hm⟩ := bindS hm
    refine r_call [] cf44 rfl rfl (ok_gleeref2_partsIn (s0_0_.sub N37.R.sz (0 : Int).toNat (i4 : Int).toNat) q14G q14 hy15) rfl rfl (.cons (.imp (.ro 3 rfl) (fun _ h => Lk.sub h hLq14 hsq14)) (.cons (.imp (.ro 4 rfl) (fun _ h => h.cut hq14G)) .nil)) (fun _ => rfl) rfl (fun s16 => ?_)
    refine r_al ty35 rfl (fun b17 => ?_)
    refine r_sb (vs := [s16.v]) (j := 0) ty35 rfl rfl rfl rfl rfl rfl rfl ?_
    refine lj_seq ?_
    refine cj_seq ?_
    refine cj_reg ?_
    obtain ⟨k20, hk20, hm⟩ := bindS hm
    have hRk20 : ∀ t, k20 = .inr t → some t = some k10 := fun t e => by rw [e] at hm; exact hm
    refine lj_join (σ := Bool) (γ := Unit) (fun u18 => k20 = .inl u18) (fun u18 g19 => [(2, .int .i64 a2), (3, .pointer (some ⟨b1, 0, none⟩)), (6, .slice none 0 0), (7, g9.v), (9, .pointer (some ⟨b13, 0, none⟩)), (13, s3.v), (14, .int .i64 (y2.length : Int)), (15, .int .i64 (i4 : Int)), (39, .bool u18)]) (fun u18 g19 => Sat w0 (keys ([] : List Ent)) A [.box b13 79 [.string x5.Key, .int .i64 x5.Time.From, .int .i64 x5.Time.To], .row R79 (SV.v s3) y2, .box b1 28 [s0_0_.v, .int .i64 a0.Change, .int .i64 a0.Clap, .int .i64 a0.Break, .int .i64 a0.Half], .ro (Lk N37 a0.Items xg0_0_), .ro (RdS N37.R (SV.v s0_0_) xg0_0_), .row R9 (SV.v g9) u8]) (fun u18 g19 hq => ?_) (fun J cnk20 => ?_)
    · have hm := Sum.fin_l hq hm
      refine cj_if (b := u18) rfl (fun hb => ?_) (fun hb => ?_)
      · have hm := ifB_t hb hm
        refine cj_reg ?_
        refine lp rfl (p_mv rfl) ?_
        refine lp rfl (p_fab fl79_0 rfl) ?_
        refine lp rfl (p_lbs ty9 rfl (j := 0) rfl rfl) ?_
        refine r_bs R9 [x5.Key] rfl rfl rfl (fun _ => by kernel_rfl) rfl (fun s23 => ?_)
        obtain ⟨q24, hq24, hm⟩ := bindS hm
        refine r_app (k := 6) Tryz.underlying35 ty9 rfl rfl rfl rfl (.row 0 rfl) hq24 rfl (fun s25 => ?_)
        refine lp rfl (p_as rfl) ?_
        refine lj_nil ?_
        refine nj_blk ?_
        exact cnk10 _ _ q24 s25 (hJk10 _ (Option.some.inj hm).symm) ⟨rfl, rfl, rfl, rfl, rfl, rfl, rfl, trivial⟩ (fun _ h => h.picks [2, 2, 2, 2, 2] rfl)
      · have hm := ifB_f hb hm
        refine cj_skip ?_
        refine nj_blk ?_
        exact cnk10 _ _ u8 g9 (hJk10 _ (Option.some.inj hm).symm) ⟨rfl, rfl, rfl, rfl, rfl, rfl, rfl, trivial⟩ (fun _ h => h.picks [1, 1, 1, 1, 1] rfl)
    · have hm := hk20
      refine lp rfl (p_fab fl79_1 rfl) ?_
      refine lp rfl (p_fab fl77_1 rfl) ?_
      refine lp rfl (p_lbs ty3 rfl (j := 2) rfl rfl) ?_
      refine lp rfl (p_mv rfl) ?_
      refine lp rfl (p_gtr rfl rfl) ?_
      refine lp rfl (p_mv rfl) ?_
      refine lcase (i := 30) (decide (x5.Time.To > a2)) rfl (fun hb => ?_) (fun hb => ?_)
      · have hm := ifB_t hb hm
        refine lg true rfl rfl rfl ?_
        refine lp rfl (p_fab fl28_0 rfl) ?_
        refine lg true rfl rfl rfl ?_
        refine lp rfl (p_lbs ty26 rfl (j := 4) rfl rfl) ?_
        refine lg true rfl rfl rfl ?_
        refine lp rfl (p_mv rfl) ?_
        refine lg true rfl rfl rfl ?_
        obtain ⟨e21, he21, hm⟩ := bindS hm
        obtain ⟨ge21, he21G⟩ := lk_getI hL0_0_ he21
        refine lp rfl (p_idx Tryz.underlying26 ty37 rfl rfl (.ro 6 rfl) he21G) ?_
        refine lg true rfl rfl rfl ?_
        refine lp rfl (p_fae fl37_3 rfl (.ro 6 rfl) (getI_spec he21G).2) ?_
        refine lg true rfl rfl rfl ?_
        refine lp rfl (p_lde (o := 3) ty35 rfl rfl (.ro 6 rfl) (getI_spec he21G).2 rfl) ?_
        refine lg true rfl rfl rfl ?_
        refine lp rfl (p_fn (cv := [.pointer (some ⟨b17, 0, none⟩)]) rfl) ?_
        refine lg true rfl rfl rfl ?_
        obtain ⟨y22, hy22, hm⟩ := bindS hm
        refine r_call [] cf33 rfl rfl (ok_slices_ContainsFunc_string_string__gleeref2_LeavesAt_1 ge21 e21.Parts b17 s16 y15 hy22) rfl rfl (.cons (.imp (.ro 5 rfl) (fun _ h => (Lk.at_ h (getI_spec he21G).2))) (.cons (.imp (.box 0 rfl) (fun _ h => h)) (.cons (.row 1 rfl) .nil))) (fun _ => rfl) rfl (fun _ => ?_)
        refine lp rfl (p_pkt rfl rfl) ?_
        refine lj_nil ?_
        exact cnk20 _ _ y22 () (Option.some.inj hm).symm ⟨rfl, rfl, rfl, rfl, rfl, rfl, rfl, rfl, rfl, trivial⟩ (fun _ h => h.picks [2, 2, 2, 2, 2, 2] rfl)
      · have hm := ifB_f hb hm
        refine ls true rfl rfl rfl rfl ?_
        refine ls true rfl rfl rfl rfl ?_
        refine ls true rfl rfl rfl rfl ?_
        refine ls true rfl rfl rfl rfl ?_
        refine ls true rfl rfl rfl rfl ?_
        refine ls true rfl rfl rfl rfl ?_
        refine ls true rfl rfl rfl rfl ?_
        refine ls true rfl rfl rfl rfl ?_
        refine lp rfl (p_pkf rfl rfl) ?_
        refine lj_nil ?_
        exact cnk20 _ _ false () (Option.some.inj hm).symm ⟨rfl, rfl, rfl, rfl, rfl, rfl, rfl, rfl, rfl, trivial⟩ (fun _ h => h.picks [2, 2, 2, 2, 2, 2] rfl)
theorem ok_gleeref2_SameItem (a0 : TItem) (s0_3_ : SV) (a1 : TItem) (s1_3_ : SV) {r : Bool} (hm : m_gleeref2_SameItem a0 a1 = some r) :
    Ctr Tryz.prog 47 [.agg [.string a0.Key, .string a0.Places, .int .i64 a0.Long, s0_3_.v].toArray, .agg [.string a1.Key, .string a1.Places, .int .i64 a1.Long, s1_3_.v].toArray].toArray ([] : List Ent) [RdS R9 (SV.v s0_3_) a0.Parts, RdS R9 (SV.v s1_3_) a1.Parts] (X := Unit) (fun _ => .bool r) (fun _ => []) := by
  unfold m_gleeref2_SameItem at hm
  refine ctr_mk (vs := [(0, .agg [.string a0.Key, .string a0.Places, .int .i64 a0.Long, s0_3_.v].toArray), (1, .agg [.string a1.Key, .string a1.Places, .int .i64 a1.Long, s1_3_.v].toArray)]) Tryz.func47 rfl Tryz.ntmps47 rfl ⟨rfl, rfl, trivial⟩ (fun w0 A => ?_)
  refine cj_seq ?_
  refine cj_reg ?_
  refine r_bx (cs := [.string a0.Key, .string a0.Places, .int .i64 a0.Long, s0_3_.v]) rfl rfl rfl (fun b1 => ?_)
  refine r_bx (cs := [.string a1.Key, .string a1.Places, .int .i64 a1.Long, s1_3_.v]) rfl rfl rfl (fun b2 => ?_)
  refine lp rfl (p_as rfl) ?_
  refine lj_seq ?_
  refine cj_seq ?_
  refine cj_reg ?_
  refine lp rfl (p_fab fl37_0 rfl) ?_
  refine lp rfl (p_lbs ty9 rfl (j := 1) rfl rfl) ?_
  refine lp rfl (p_fab fl37_0 rfl) ?_
  refine lp rfl (p_lbs ty9 rfl (j := 0) rfl rfl) ?_
  refine lp rfl (p_eqs rfl rfl) ?_
  refine lp rfl (p_mv rfl) ?_
  refine lcase (i := 10) (a0.Key.toList == a1.Key.toList) rfl (fun hb => ?_) (fun hb => ?_)
  · have hm := ifB_t hb hm
    refine lg true rfl rfl rfl ?_
    refine lp rfl (p_fab fl37_1 rfl) ?_
    refine lg true rfl rfl rfl ?_
    refine lp rfl (p_lbs ty9 rfl (j := 1) rfl rfl) ?_
    refine lg true rfl rfl rfl ?_
    refine lp rfl (p_fab fl37_1 rfl) ?_
    refine lg true rfl rfl rfl ?_
    refine lp rfl (p_lbs ty9 rfl (j := 0) rfl rfl) ?_
    refine lg true rfl rfl rfl ?_
    refine lp rfl (p_eqs rfl rfl) ?_
    refine lp rfl (p_pkt rfl rfl) ?_
    refine lp rfl (p_mv rfl) ?_
    refine lcase (i := 17) (a0.Places.toList == a1.Places.toList) rfl (fun hb => ?_) (fun hb => ?_)
    · have hm := ifB_t hb hm
      refine lg true rfl rfl rfl ?_
      refine lp rfl (p_fab fl37_2 rfl) ?_
      refine lg true rfl rfl rfl ?_
      refine lp rfl (p_lbs ty3 rfl (j := 1) rfl rfl) ?_
      refine lg true rfl rfl rfl ?_
      refine lp rfl (p_fab fl37_2 rfl) ?_
      refine lg true rfl rfl rfl ?_
      refine lp rfl (p_lbs ty3 rfl (j := 0) rfl rfl) ?_
      refine lg true rfl rfl rfl ?_
      refine lp rfl (p_eql rfl rfl) ?_
      refine lp rfl (p_pkt rfl rfl) ?_
      refine lp rfl (p_mv rfl) ?_
      refine lcase (i := 24) (a0.Long == a1.Long) rfl (fun hb => ?_) (fun hb => ?_)
      · have hm := ifB_t hb hm
        refine lg true rfl rfl rfl ?_
        refine lp rfl (p_fab fl37_3 rfl) ?_
        refine lg true rfl rfl rfl ?_
        refine lp rfl (p_lbs ty35 rfl (j := 1) rfl rfl) ?_
        refine lg true rfl rfl rfl ?_
        refine lp rfl (p_fab fl37_3 rfl) ?_
        refine lg true rfl rfl rfl ?_
        refine lp rfl (p_lbs ty35 rfl (j := 0) rfl rfl) ?_
        refine lg true rfl rfl rfl ?_
        obtain ⟨y3, hy3, hm⟩ := bindS hm
        refine r_call [] cf23 rfl rfl (ok_slices_Equal_string_string s0_3_ a0.Parts s1_3_ a1.Parts hy3) rfl rfl (.cons (.ro 2 rfl) (.cons (.ro 3 rfl) .nil)) (fun _ => rfl) rfl (fun _ => ?_)
        refine lp rfl (p_pkt rfl rfl) ?_
        refine lp rfl (p_as rfl) ?_
        refine lj_seq ?_
        obtain rfl := Option.some.inj hm
        exact cj_rt () [] Tryz.results47 (.tmp rfl .nil) rfl rfl
      · have hm := ifB_f hb hm
        refine ls true rfl rfl rfl rfl ?_
        refine ls true rfl rfl rfl rfl ?_
        refine ls true rfl rfl rfl rfl ?_
        refine ls true rfl rfl rfl rfl ?_
        refine ls true rfl rfl rfl rfl ?_
        refine lp rfl (p_pkf rfl rfl) ?_
        refine lp rfl (p_as rfl) ?_
        refine lj_seq ?_
        obtain rfl := Option.some.inj hm
        exact cj_rt () [] Tryz.results47 (.tmp rfl .nil) rfl rfl
    · have hm := ifB_f hb hm
      refine ls true rfl rfl rfl rfl ?_
      refine ls true rfl rfl rfl rfl ?_
      refine ls true rfl rfl rfl rfl ?_
      refine ls true rfl rfl rfl rfl ?_
      refine ls true rfl rfl rfl rfl ?_
      refine lp rfl (p_pkf rfl rfl) ?_
      refine lp rfl (p_mv rfl) ?_
      refine ls true rfl rfl rfl rfl ?_
      refine ls true rfl rfl rfl rfl ?_
      refine ls true rfl rfl rfl rfl ?_
      refine ls true rfl rfl rfl rfl ?_
      refine ls true rfl rfl rfl rfl ?_
      refine lp rfl (p_pkf rfl rfl) ?_
      refine lp rfl (p_as rfl) ?_
      refine lj_seq ?_
      obtain rfl := Option.some.inj hm
      exact cj_rt () [] Tryz.results47 (.tmp rfl .nil) rfl rfl
  · have hm := ifB_f hb hm
    refine ls true rfl rfl rfl rfl ?_
    refine ls true rfl rfl rfl rfl ?_
    refine ls true rfl rfl rfl rfl ?_
    refine ls true rfl rfl rfl rfl ?_
    refine ls true rfl rfl rfl rfl ?_
    refine lp rfl (p_pkf rfl rfl) ?_
    refine lp rfl (p_mv rfl) ?_
    refine ls true rfl rfl rfl rfl ?_
    refine ls true rfl rfl rfl rfl ?_
    refine ls true rfl rfl rfl rfl ?_
    refine ls true rfl rfl rfl rfl ?_
    refine ls true rfl rfl rfl rfl ?_
    refine lp rfl (p_pkf rfl rfl) ?_
    refine lp rfl (p_mv rfl) ?_
    refine ls true rfl rfl rfl rfl ?_
    refine ls true rfl rfl rfl rfl ?_
    refine ls true rfl rfl rfl rfl ?_
    refine ls true rfl rfl rfl rfl ?_
    refine ls true rfl rfl rfl rfl ?_
    refine lp rfl (p_pkf rfl rfl) ?_
    refine lp rfl (p_as rfl) ?_
    refine lj_seq ?_
    obtain rfl := Option.some.inj hm
    exact cj_rt () [] Tryz.results47 (.tmp rfl .nil) rfl rfl
theorem ok_gleeref2_DifferingOf (a0 : TProgram) (s0_0_ : SV) (xg0_0_ : List (TItem × SV)) (a1 : TProgram) (s1_0_ : SV) (xg1_0_ : List (TItem × SV)) {r : (List ByteArray) × (List ByteArray) × (List ByteArray)} (hm : m_gleeref2_DifferingOf a0 a1 = some r) :
    Ctr Tryz.prog 22 [.agg [s0_0_.v, .int .i64 a0.Change, .int .i64 a0.Clap, .int .i64 a0.Break, .int .i64 a0.Half].toArray, .agg [s1_0_.v, .int .i64 a1.Change, .int .i64 a1.Clap, .int .i64 a1.Break, .int .i64 a1.Half].toArray].toArray ([] : List Ent) [Lk N37 a0.Items xg0_0_, RdS N37.R (SV.v s0_0_) xg0_0_, Lk N37 a1.Items xg1_0_, RdS N37.R (SV.v s1_0_) xg1_0_] (X := (SV × SV × SV)) (fun s => .tuple [s.1.v, s.2.1.v, s.2.2.v].toArray) (fun s => [.row R9 (SV.v s.1) r.1, .row R9 (SV.v s.2.1) r.2.1, .row R9 (SV.v s.2.2) r.2.2]) := by
  unfold m_gleeref2_DifferingOf at hm
  refine ctr_mk (vs := [(0, .agg [s0_0_.v, .int .i64 a0.Change, .int .i64 a0.Clap, .int .i64 a0.Break, .int .i64 a0.Half].toArray), (1, .agg [s1_0_.v, .int .i64 a1.Change, .int .i64 a1.Clap, .int .i64 a1.Break, .int .i64 a1.Half].toArray)]) Tryz.func22 rfl Tryz.ntmps22 rfl ⟨rfl, rfl, trivial⟩ (fun w0 A => ?_)
  refine cj_pure (F := Lk N37 a0.Items xg0_0_) (.ro 0 rfl) (fun _ h => h.1) (fun hL0_0_ => ?_)
  refine cj_pure (F := Lk N37 a1.Items xg1_0_) (.ro 2 rfl) (fun _ h => h.1) (fun hL1_0_ => ?_)
  refine cj_seq ?_
  refine cj_reg ?_
  refine r_bx (cs := [s0_0_.v, .int .i64 a0.Change, .int .i64 a0.Clap, .int .i64 a0.Break, .int .i64 a0.Half]) rfl rfl rfl (fun b1 => ?_)
  refine r_bx (cs := [s1_0_.v, .int .i64 a1.Change, .int .i64 a1.Clap, .int .i64 a1.Break, .int .i64 a1.Half]) rfl rfl rfl (fun b2 => ?_)
  refine lp rfl (p_as rfl) ?_
  refine lp rfl (p_as rfl) ?_
  refine lp rfl (p_as rfl) ?_
  refine lj_seq ?_
  refine cj_seq ?_
  refine cj_reg ?_
  refine lp rfl (p_as rfl) ?_
  refine lp rfl (p_as rfl) ?_
  refine lp rfl (p_as rfl) ?_
  refine lj_seq ?_
  refine cj_seq ?_
  refine cj_seq ?_
  refine cj_reg ?_
  refine lp rfl (p_fab fl28_0 rfl) ?_
  refine lp rfl (p_lbs ty26 rfl (j := 1) rfl rfl) ?_
  refine lp rfl (p_lenG hL0_0_ Tryz.underlying26 rfl (.ro 3 rfl)) ?_
  refine lp rfl (p_mv rfl) ?_
  refine lj_seq ?_
  refine cj_nil R9 ?_
  refine cj_nil R9 ?_
  obtain ⟨f11, hf11, hm⟩ := bindS hm
  refine cj_range (γ := (SV × SV)) (m := (a0.Items.length : Int)) hf11 (nilS, nilS) (fun u8 g9 => [(2, .pointer (some ⟨b1, 0, none⟩)), (3, .pointer (some ⟨b2, 0, none⟩)), (4, .slice none 0 0), (5, .slice none 0 0), (6, .slice none 0 0), (7, g9.1.v), (8, .slice none 0 0), (9, g9.2.v), (16, s0_0_.v)]) (fun u8 g9 => Sat w0 (keys ([] : List Ent)) A [.box b2 28 [s1_0_.v, .int .i64 a1.Change, .int .i64 a1.Clap, .int .i64 a1.Break, .int .i64 a1.Half], .box b1 28 [s0_0_.v, .int .i64 a0.Change, .int .i64 a0.Clap, .int .i64 a0.Break, .int .i64 a0.Half], .ro (Lk N37 a0.Items xg0_0_), .ro (RdS N37.R (SV.v s0_0_) xg0_0_), .ro (Lk N37 a1.Items xg1_0_), .ro (RdS N37.R (SV.v s1_0_) xg1_0_), .row R9 (SV.v g9.1) u8.1, .row R9 (SV.v g9.2) u8.2]) ⟨rfl, rfl, rfl, rfl, rfl, rfl, rfl, rfl, rfl, rfl, rfl, trivial⟩ (fun _ h => h.picks [2, 2, 2, 2, 2, 2, 1, 0] rfl) (nat_lt _) (fun _ h => by have h1 := (FactAt.get (F := RdS N37.R (SV.v s0_0_) xg0_0_) (.ro 5 rfl) h).1; rw [lk_len hL0_0_] at h1; exact h1) (fun _ _ => ⟨rfl, rfl, rfl, rfl⟩) ⟨rfl, rfl, rfl, rfl, rfl⟩ rfl rfl rfl (fun u8 g9 e => ?_) (fun aftk10 i3 x4 u8 g9 k10 hx5 hs J hJk10 hBk10 hX I cnk10 => ?_)
  · have hm := Flow.fin_b e hm
    refine nj_seq ?_
    refine cj_seq ?_
    refine cj_seq ?_
    refine cj_reg ?_
    refine lp rfl (p_fab fl28_0 rfl) ?_
    refine lp rfl (p_lbs ty26 rfl (j := 0) rfl rfl) ?_
    refine lp rfl (p_lenG hL1_0_ Tryz.underlying26 rfl (.ro 5 rfl)) ?_
    refine lp rfl (p_mv rfl) ?_
    refine lj_seq ?_
    refine cj_nil R9 ?_
    obtain ⟨f33, hf33, hm⟩ := bindS hm
    refine cj_range (γ := SV) (m := (a1.Items.length : Int)) hf33 nilS (fun u30 g31 => [(2, .pointer (some ⟨b1, 0, none⟩)), (4, .slice none 0 0), (5, .slice none 0 0), (6, .slice none 0 0), (7, g9.1.v), (8, g31.v), (9, g9.2.v), (51, s1_0_.v)]) (fun u30 g31 => Sat w0 (keys ([] : List Ent)) A [.box b1 28 [s0_0_.v, .int .i64 a0.Change, .int .i64 a0.Clap, .int .i64 a0.Break, .int .i64 a0.Half], .ro (Lk N37 a0.Items xg0_0_), .ro (RdS N37.R (SV.v s0_0_) xg0_0_), .ro (Lk N37 a1.Items xg1_0_), .ro (RdS N37.R (SV.v s1_0_) xg1_0_), .row R9 (SV.v g9.1) u8.1, .row R9 (SV.v g9.2) u8.2, .row R9 (SV.v g31) u30]) ⟨rfl, rfl, rfl, rfl, rfl, rfl, rfl, rfl, rfl, rfl, trivial⟩ (fun _ h => h.picks [2, 2, 2, 2, 2, 2, 2, 0] rfl) (nat_lt _) (fun _ h => by have h1 := (FactAt.get (F := RdS N37.R (SV.v s1_0_) xg1_0_) (.ro 6 rfl) h).1; rw [lk_len hL1_0_] at h1; exact h1) (fun _ _ => ⟨rfl, rfl, rfl, rfl⟩) ⟨rfl, rfl, rfl, rfl, rfl⟩ rfl rfl rfl (fun u30 g31 e => ?_) (fun aftk32 i26 x27 u30 g31 k32 hx28 hs J hJk32 hBk32 hX I cnk32 => ?_)
    · have hm := Flow.fin_b e hm
      refine nj_seq ?_
      refine cj_seq ?_
      refine cj_reg ?_
      refine lp rfl (p_mv rfl) ?_
      refine lp rfl (p_mv rfl) ?_
      refine lp rfl (p_mv rfl) ?_
      refine lp rfl (p_as rfl) ?_
      refine lp rfl (p_as rfl) ?_
      refine lp rfl (p_as rfl) ?_
      refine lj_seq ?_
      obtain rfl := Option.some.inj hm
      exact cj_rt (g9.1, g31, g9.2) [5, 6, 5] Tryz.results22 (.tmp rfl (.tmp rfl (.tmp rfl .nil))) rfl rfl
    · have hRk32 : ∀ t, k32 = .ret t → some t = some r := fun t e => by rw [hX t e] at hm; exact hm
      have hm := hs
      refine cj_seq ?_
      refine cj_reg ?_
      obtain ⟨gx27, hx28G⟩ := lk_get hL1_0_ hx28
      refine lp rfl (p_idx Tryz.underlying26 ty37 rfl rfl (.ro 4 rfl) (getI_nat.trans hx28G)) ?_
      refine lp rfl (p_leaN (cs := [.string x27.Key, .string x27.Places, .int .i64 x27.Long, gx27.v]) ty37 rfl (.ro 4 rfl) hx28G rfl) ?_
      refine r_al ty37 rfl (fun b35 => ?_)
      refine r_sb (vs := [.string x27.Key, .string x27.Places, .int .i64 x27.Long, gx27.v]) (j := 0) ty37 rfl rfl rfl rfl rfl rfl rfl ?_
      refine lj_seq ?_
      refine cj_seq ?_
      refine cj_reg ?_
      refine lp rfl (p_fab fl28_0 rfl) ?_
      refine lp rfl (p_lbs ty26 rfl (j := 1) rfl rfl) ?_
      refine lp rfl (p_fab fl37_0 rfl) ?_
      refine lp rfl (p_lbs ty9 rfl (j := 0) rfl rfl) ?_
      obtain ⟨y36, hy36, hm⟩ := bindS hm
      refine r_call [] cf19 rfl rfl (ok_gleeref2_ItemAt s0_0_ xg0_0_ a0.Items x27.Key hy36) rfl rfl (.cons (.ro 2 rfl) (.cons (.ro 3 rfl) .nil)) (fun _ => rfl) rfl (fun _ => ?_)
      refine lp rfl (p_lss rfl rfl) ?_
      refine lj_seq ?_
      refine cj_if (b := decide (y36 < 0)) rfl (fun hb => ?_) (fun hb => ?_)
      · have hm := ifB_t hb hm
        refine cj_reg ?_
        refine lp rfl (p_mv rfl) ?_
        refine lp rfl (p_fab fl37_0 rfl) ?_
        refine lp rfl (p_lbs ty9 rfl (j := 0) rfl rfl) ?_
        refine r_bs R9 [x27.Key] rfl rfl rfl (fun _ => by kernel_rfl) rfl (fun s37 => ?_)
        obtain ⟨q38, hq38, hm⟩ := bindS hm
        refine r_app (k := 9) Tryz.underlying35 ty9 rfl rfl rfl rfl (.row 0 rfl) hq38 rfl (fun s39 => ?_)
        refine lp rfl (p_as rfl) ?_
        refine lj_nil ?_
        refine nj_blk ?_
        exact cnk32 _ _ q38 s39 (hJk32 _ (Option.some.inj hm).symm) ⟨rfl, rfl, rfl, rfl, rfl, rfl, rfl, rfl, rfl, rfl, trivial⟩ (fun _ h => h.picks [2, 2, 2, 2, 2, 2, 2, 2] rfl)
      · have hm := ifB_f hb hm
        refine cj_skip ?_
        refine nj_blk ?_
        exact cnk32 _ _ u30 g31 (hJk32 _ (Option.some.inj hm).symm) ⟨rfl, rfl, rfl, rfl, rfl, rfl, rfl, rfl, rfl, rfl, trivial⟩ (fun _ h => h.picks [1, 1, 1, 1, 1, 1, 1, 1] rfl)
  · have hRk10 : ∀ t, k10 = .ret t → some t = some r := fun t e => by rw [hX t e] at hm; exact hm
    have hm := hs
    refine cj_seq ?_
    refine cj_reg ?_
    obtain ⟨gx4, hx5G⟩ := lk_get hL0_0_ hx5
    refine lp rfl (p_idx Tryz.underlying26 ty37 rfl rfl (.ro 3 rfl) (getI_nat.trans hx5G)) ?_
    refine lp rfl (p_leaN (cs := [.string x4.Key, .string x4.Places, .int .i64 x4.Long, gx4.v]) ty37 rfl (.ro 3 rfl) hx5G rfl) ?_
    refine r_al ty37 rfl (fun b14 => ?_)
    refine r_sb (vs := [.string x4.Key, .string x4.Places, .int .i64 x4.Long, gx4.v]) (j := 0) ty37 rfl rfl rfl rfl rfl rfl rfl ?_
    refine lj_seq ?_
    refine cj_seq ?_
    refine cj_reg ?_
    refine lp rfl (p_fab fl28_0 rfl) ?_
    refine lp rfl (p_lbs ty26 rfl (j := 1) rfl rfl) ?_
    refine lp rfl (p_fab fl37_0 rfl) ?_
    refine lp rfl (p_lbs ty9 rfl (j := 0) rfl rfl) ?_
    obtain ⟨y15, hy15, hm⟩ := bindS hm
    refine r_call [] cf19 rfl rfl (ok_gleeref2_ItemAt s1_0_ xg1_0_ a1.Items x4.Key hy15) rfl rfl (.cons (.ro 5 rfl) (.cons (.ro 6 rfl) .nil)) (fun _ => rfl) rfl (fun _ => ?_)
    refine lp rfl (p_as rfl) ?_
    refine lj_seq ?_
    refine cj_blk ?_
    refine cj_seq ?_
    refine cj_reg ?_
    refine lp rfl (p_mv rfl) ?_
    refine lp rfl (p_lss rfl rfl) ?_
    refine lp rfl (p_as rfl) ?_
    refine lj_seq ?_
    refine cj_if (b := decide (y15 < 0)) rfl (fun hb => ?_) (fun hb => ?_)
    · have hm := ifB_t hb hm
      refine cj_reg ?_
      refine lp rfl (p_mv rfl) ?_
      refine lp rfl (p_fab fl37_0 rfl) ?_
      refine lp rfl (p_lbs ty9 rfl (j := 0) rfl rfl) ?_
      refine r_bs R9 [x4.Key] rfl rfl rfl (fun _ => by kernel_rfl) rfl (fun s16 => ?_)
      obtain ⟨q17, hq17, hm⟩ := bindS hm
      refine r_app (k := 8) Tryz.underlying35 ty9 rfl rfl rfl rfl (.row 0 rfl) hq17 rfl (fun s18 => ?_)
      refine lp rfl (p_as rfl) ?_
      refine lj_nil ?_
      refine nj_blk ?_
      refine nj_blk ?_
      exact cnk10 _ _ (q17, u8.2) (s18, g9.2) (hJk10 _ (Option.some.inj hm).symm) ⟨rfl, rfl, rfl, rfl, rfl, rfl, rfl, rfl, rfl, rfl, rfl, trivial⟩ (fun _ h => h.picks [2, 2, 2, 2, 2, 2, 2, 2] rfl)
    · have hm := ifB_f hb hm
      refine cj_seq ?_
      refine cj_quiet (by kernel_rfl) (by kernel_rfl) ?_
      refine q_p rfl (p_lbw ty37 rfl (j := 0) rfl rfl) ?_
      refine q_p rfl (p_fab fl28_0 rfl) ?_
      refine q_p rfl (p_lbs ty26 rfl (j := 1) rfl rfl) ?_
      refine q_p rfl (p_mv rfl) ?_
      obtain ⟨e19, he19, hm⟩ := bindS hm
      obtain ⟨ge19, he19G⟩ := lk_getI hL1_0_ he19
      refine q_p rfl (p_idx Tryz.underlying26 ty37 rfl rfl (.ro 6 rfl) he19G) ?_
      refine q_p rfl (p_leaN (cs := [.string e19.Key, .string e19.Places, .int .i64 e19.Long, ge19.v]) ty37 rfl (.ro 6 rfl) (getI_spec he19G).2 rfl) ?_
      obtain ⟨y20, hy20, hm⟩ := bindS hm
      refine q_call (.bool y20) cf47 rfl rfl (ok_gleeref2_SameItem x4 gx4 e19 ge19 hy20) (.cons (.imp (.ro 3 rfl) (fun _ h => (Lk.at_ h hx5G))) (.cons (.imp (.ro 5 rfl) (fun _ h => (Lk.at_ h (getI_spec he19G).2))) .nil)) (fun _ => rfl) (fun _ => rfl) rfl ?_
      refine q_p rfl (p_not rfl) ?_
      refine q_p rfl (p_as rfl) ?_
      refine q_nil ?_
      refine nj_seq ?_
      refine cj_if (b := !y20) rfl (fun hb => ?_) (fun hb => ?_)
      · have hm := ifB_t hb hm
        refine cj_reg ?_
        refine lp rfl (p_mv rfl) ?_
        refine lp rfl (p_fab fl37_0 rfl) ?_
        refine lp rfl (p_lbs ty9 rfl (j := 0) rfl rfl) ?_
        refine r_bs R9 [x4.Key] rfl rfl rfl (fun _ => by kernel_rfl) rfl (fun s21 => ?_)
        obtain ⟨q22, hq22, hm⟩ := bindS hm
        refine r_app (k := 9) Tryz.underlying35 ty9 rfl rfl rfl rfl (.row 0 rfl) hq22 rfl (fun s23 => ?_)
        refine lp rfl (p_as rfl) ?_
        refine lj_nil ?_
        refine nj_blk ?_
        refine nj_blk ?_
        exact cnk10 _ _ (u8.1, q22) (g9.1, s23) (hJk10 _ (Option.some.inj hm).symm) ⟨rfl, rfl, rfl, rfl, rfl, rfl, rfl, rfl, rfl, rfl, rfl, trivial⟩ (fun _ h => h.picks [2, 2, 2, 2, 2, 2, 2, 2] rfl)
      · have hm := ifB_f hb hm
        refine cj_skip ?_
        refine nj_blk ?_
        refine nj_blk ?_
        exact cnk10 _ _ (u8.1, u8.2) (g9.1, g9.2) (hJk10 _ (Option.some.inj hm).symm) ⟨rfl, rfl, rfl, rfl, rfl, rfl, rfl, rfl, rfl, rfl, rfl, trivial⟩ (fun _ h => h.picks [1, 1, 1, 1, 1, 1, 1, 1] rfl)
theorem ok_concert_Long (a0 : TProgram) (s0_0_ : SV) (xg0_0_ : List (TItem × SV)) {r : Int × Int} (hm : m_concert_Long a0 = some r) :
    Ctr Tryz.prog 48 [.agg [s0_0_.v, .int .i64 a0.Change, .int .i64 a0.Clap, .int .i64 a0.Break, .int .i64 a0.Half].toArray].toArray ([] : List Ent) [Lk N37 a0.Items xg0_0_, RdS N37.R (SV.v s0_0_) xg0_0_] (X := Unit) (fun _ => .tuple [.int .i64 r.1, .int .i64 r.2].toArray) (fun _ => []) := by
  unfold m_concert_Long at hm
  refine ctr_mk (vs := [(0, .agg [s0_0_.v, .int .i64 a0.Change, .int .i64 a0.Clap, .int .i64 a0.Break, .int .i64 a0.Half].toArray)]) Tryz.func48 rfl Tryz.ntmps48 rfl ⟨rfl, trivial⟩ (fun w0 A => ?_)
  refine cj_pure (F := Lk N37 a0.Items xg0_0_) (.ro 0 rfl) (fun _ h => h.1) (fun hL0_0_ => ?_)
  refine cj_seq ?_
  refine cj_reg ?_
  refine r_bx (cs := [s0_0_.v, .int .i64 a0.Change, .int .i64 a0.Clap, .int .i64 a0.Break, .int .i64 a0.Half]) rfl rfl rfl (fun b1 => ?_)
  refine lp rfl (p_as rfl) ?_
  refine lp rfl (p_as rfl) ?_
  refine lj_seq ?_
  refine cj_seq ?_
  refine cj_seq ?_
  refine cj_reg ?_
  refine lp rfl (p_lbw ty28 rfl (j := 0) rfl rfl) ?_
  obtain ⟨y2, hy2, hm⟩ := bindS hm
  refine r_call [] cf35 rfl rfl (ok_concert_CheckProgram a0 s0_0_ xg0_0_ hy2) rfl rfl (.cons (.ro 1 rfl) (.cons (.ro 2 rfl) .nil)) (fun _ => rfl) rfl (fun _ => ?_)
  refine lp rfl (p_as rfl) ?_
  refine lj_seq ?_
  refine cj_seq ?_
  refine cj_reg ?_
  refine lp rfl (p_mv rfl) ?_
  refine lp rfl (p_neq rfl rfl) ?_
  refine lj_seq ?_
  refine cj_if (b := y2 != 0) rfl (fun hb => ?_) (fun hb => ?_)
  · have hm := ifB_t hb hm
    refine cj_seq ?_
    refine cj_reg ?_
    refine lp rfl (p_mv rfl) ?_
    refine lp rfl (p_as rfl) ?_
    refine lp rfl (p_as rfl) ?_
    refine lj_seq ?_
    obtain rfl := Option.some.inj hm
    exact cj_rt () [] Tryz.results48 (.tmp rfl (.tmp rfl .nil)) rfl rfl
  · have hm := ifB_f hb hm
    refine cj_skip ?_
    refine nj_seq ?_
    refine cj_seq ?_
    refine cj_reg ?_
    refine lp rfl (p_lbw ty28 rfl (j := 0) rfl rfl) ?_
    obtain ⟨y3, hy3, hm⟩ := bindS hm
    refine r_call [] cf32 rfl rfl (ok_concert_begins a0 s0_0_ xg0_0_ hy3) rfl rfl (.cons (.ro 1 rfl) (.cons (.ro 2 rfl) .nil)) (fun _ => rfl) rfl (fun s4 => ?_)
    refine lp rfl (p_mv rfl) ?_
    refine lp rfl (p_ext rfl rfl) ?_
    refine lp rfl (p_ext rfl rfl) ?_
    refine lp rfl (p_as rfl) ?_
    refine lp rfl (p_as rfl) ?_
    refine lj_seq ?_
    refine cj_seq ?_
    refine cj_reg ?_
    refine lp rfl (p_mv rfl) ?_
    refine lp rfl (p_as rfl) ?_
    refine lp rfl (p_as rfl) ?_
    refine lj_seq ?_
    obtain rfl := Option.some.inj hm
    exact cj_rt () [] Tryz.results48 (.tmp rfl (.tmp rfl .nil)) rfl rfl
theorem ok_gleelaw2_sung  {r : Bool} (hm : m_gleelaw2_sung  = some r) :
    Ctr Tryz.prog 24 [].toArray ([] : List Ent) [] (X := Unit) (fun _ => .bool r) (fun _ => []) := by
  unfold m_gleelaw2_sung at hm
  refine ctr_mk (vs := []) Tryz.func24 rfl Tryz.ntmps24 rfl trivial (fun w0 A => ?_)
  refine cj_seq ?_
  refine cj_reg ?_
  refine lp rfl (p_as rfl) ?_
  refine lj_seq ?_
  refine cj_seq ?_
  refine cj_reg ?_
  refine r_bs R9 [(ByteArray.mk [97, 108, 116, 111].toArray)] rfl rfl rfl (fun _ => by kernel_rfl) rfl (fun s1 => ?_)
  refine lp rfl (p_bld [.string (ByteArray.mk [97].toArray), .string (ByteArray.mk [112].toArray), .int .i64 7, s1.v] rfl (fun _ => by kernel_rfl)) ?_
  refine r_fz 0 rfl ?_
  refine r_fact (F := Lk N37 [(TItem.mk (ByteArray.mk [97].toArray) (ByteArray.mk [112].toArray) 7 [(ByteArray.mk [97, 108, 116, 111].toArray)])] [((TItem.mk (ByteArray.mk [97].toArray) (ByteArray.mk [112].toArray) 7 [(ByteArray.mk [97, 108, 116, 111].toArray)]), s1)]) (.imp (.and (.ro 0 rfl) (.nilL N37)) (fun _ h => Lk.cons h.1 h.2)) ?_
  have hLs2 : (([((TItem.mk (ByteArray.mk [97].toArray) (ByteArray.mk [112].toArray) 7 [(ByteArray.mk [97, 108, 116, 111].toArray)]), s1)] : List (TItem × SV)).map Prod.fst) = ([(TItem.mk (ByteArray.mk [97].toArray) (ByteArray.mk [112].toArray) 7 [(ByteArray.mk [97, 108, 116, 111].toArray)])] : List TItem) := rfl
  refine r_bs N37.R [((TItem.mk (ByteArray.mk [97].toArray) (ByteArray.mk [112].toArray) 7 [(ByteArray.mk [97, 108, 116, 111].toArray)]), s1)] rfl rfl rfl (fun _ => by kernel_rfl) rfl (fun s2 => ?_)
  refine lp rfl (p_bld [s2.v, .int .i64 0, .int .i64 0, .int .i64 0, .int .i64 (-1)] rfl (fun _ => by kernel_rfl)) ?_
  obtain ⟨y3, hy3, hm⟩ := bindS hm
  refine r_call [] cf48 rfl rfl (ok_concert_Long (TProgram.mk [(TItem.mk (ByteArray.mk [97].toArray) (ByteArray.mk [112].toArray) 7 [(ByteArray.mk [97, 108, 116, 111].toArray)])] 0 0 0 (-1)) s2 [((TItem.mk (ByteArray.mk [97].toArray) (ByteArray.mk [112].toArray) 7 [(ByteArray.mk [97, 108, 116, 111].toArray)]), s1)] hy3) rfl rfl (.cons (.ro 1 rfl) (.cons (.row 0 rfl) .nil)) (fun _ => rfl) rfl (fun _ => ?_)
  refine lp rfl (p_mv rfl) ?_
  refine lp rfl (p_ext rfl rfl) ?_
  refine lp rfl (p_ext rfl rfl) ?_
  refine lp rfl (p_as rfl) ?_
  refine lp rfl (p_as rfl) ?_
  refine lj_seq ?_
  refine cj_seq ?_
  refine cj_reg ?_
  refine lp rfl (p_mv rfl) ?_
  refine lp rfl (p_eql rfl rfl) ?_
  refine lp rfl (p_mv rfl) ?_
  refine lcase (i := 13) (y3.2 == 0) rfl (fun hb => ?_) (fun hb => ?_)
  · have hm := ifB_t hb hm
    refine lg true rfl rfl rfl ?_
    refine lp rfl (p_mv rfl) ?_
    refine lg true rfl rfl rfl ?_
    refine lp rfl (p_eql rfl rfl) ?_
    refine lp rfl (p_pkt rfl rfl) ?_
    refine lp rfl (p_as rfl) ?_
    refine lj_seq ?_
    obtain rfl := Option.some.inj hm
    exact cj_rt () [] Tryz.results24 (.tmp rfl .nil) rfl rfl
  · have hm := ifB_f hb hm
    refine ls true rfl rfl rfl rfl ?_
    refine ls true rfl rfl rfl rfl ?_
    refine lp rfl (p_pkf rfl rfl) ?_
    refine lp rfl (p_as rfl) ?_
    refine lj_seq ?_
    obtain rfl := Option.some.inj hm
    exact cj_rt () [] Tryz.results24 (.tmp rfl .nil) rfl rfl
theorem ok_gleelaw2_ConcertsLate (s0_ : SV) (a0 : (List Int)) {r : Bool} (hm : m_gleelaw2_ConcertsLate a0 = some r) :
    Ctr Tryz.prog 3 [s0_.v].toArray ([] : List Ent) [RdS R3 (SV.v s0_) a0] (X := Unit) (fun _ => .bool r) (fun _ => []) := by
  unfold m_gleelaw2_ConcertsLate at hm
  refine ctr_mk (vs := [(0, s0_.v)]) Tryz.func3 rfl Tryz.ntmps3 rfl ⟨rfl, trivial⟩ (fun w0 A => ?_)
  refine cj_seq ?_
  refine cj_reg ?_
  refine lp rfl (p_as rfl) ?_
  refine lj_seq ?_
  refine cj_seq ?_
  refine cj_reg ?_
  refine lp rfl (p_mv rfl) ?_
  refine lp rfl (p_bld [s0_.v, .int .i64 0] rfl (fun _ => by kernel_rfl)) ?_
  refine r_bx (cs := [s0_.v, .int .i64 0]) rfl rfl rfl (fun b1 => ?_)
  refine lp rfl (p_as rfl) ?_
  refine lj_seq ?_
  refine cj_seq ?_
  refine cj_reg ?_
  refine lp rfl (p_mv rfl) ?_
  obtain ⟨y2, hy2, hm⟩ := bindS hm
  refine r_callN [0] cf4 rfl rfl (ok_gleemake_Stream_AProgram b1 s0_ a0 0 5 hy2) rfl rfl (.cons (.ro 0 rfl) .nil) rfl (fun ⟨s3, xg4⟩ => ?_)
  refine r_pure (F := Lk N37 y2.1.Items xg4) (.ro 1 rfl) (fun _ h => h.1) (fun hLs3 => ?_)
  refine lp rfl (p_mv rfl) ?_
  obtain ⟨y5, hy5, hm⟩ := bindS hm
  refine r_callN [2] cf4 rfl rfl (ok_gleemake_Stream_AProgram b1 s0_ a0 y2.2 4 hy5) rfl rfl (.cons (.ro 2 rfl) .nil) rfl (fun ⟨s6, xg7⟩ => ?_)
  refine r_pure (F := Lk N37 y5.1.Items xg7) (.ro 1 rfl) (fun _ h => h.1) (fun hLs6 => ?_)
  refine lp rfl (p_mv rfl) ?_
  obtain ⟨y8, hy8, hm⟩ := bindS hm
  refine r_call [2] cf5 rfl rfl (ok_gleemake_Stream_ConcertTime b1 s0_ a0 y5.2 hy8) rfl rfl (.cons (.ro 4 rfl) .nil) (fun _ => rfl) rfl (fun _ => ?_)
  refine lp rfl (p_mv rfl) ?_
  refine r_bs R9 [(ByteArray.mk [97].toArray), (ByteArray.mk [98].toArray), (ByteArray.mk [99].toArray), (ByteArray.mk [122, 122].toArray)] rfl rfl rfl (fun _ => by kernel_rfl) rfl (fun s9 => ?_)
  obtain ⟨y10, hy10, hm⟩ := bindS hm
  refine r_call [1] cf6 rfl rfl (ok_gleemake_Stream_Some b1 s0_ a0 y8.2 s9 [(ByteArray.mk [97].toArray), (ByteArray.mk [98].toArray), (ByteArray.mk [99].toArray), (ByteArray.mk [122, 122].toArray)] hy10) rfl rfl (.cons (.ro 5 rfl) (.cons (.row 0 rfl) .nil)) (fun _ => rfl) rfl (fun _ => ?_)
  refine lp rfl (p_mv rfl) ?_
  refine r_bs R3 [0, 100, 250, 500, 1500, (-1)] rfl rfl rfl (fun _ => by kernel_rfl) rfl (fun s11 => ?_)
  obtain ⟨y12, hy12, hm⟩ := bindS hm
  refine r_call [1] cf7 rfl rfl (ok_gleemake_Stream_Pick b1 s0_ a0 y10.2 s11 [0, 100, 250, 500, 1500, (-1)] hy12) rfl rfl (.cons (.ro 6 rfl) (.cons (.row 0 rfl) .nil)) (fun _ => rfl) rfl (fun _ => ?_)
  refine r_al ty28 rfl (fun b13 => ?_)
  refine r_al ty28 rfl (fun b14 => ?_)
  refine r_sb (vs := [s3.v, .int .i64 y2.1.Change, .int .i64 y2.1.Clap, .int .i64 y2.1.Break, .int .i64 y2.1.Half]) (j := 1) ty28 rfl rfl rfl rfl rfl rfl rfl ?_
  refine r_sb (vs := [s6.v, .int .i64 y5.1.Change, .int .i64 y5.1.Clap, .int .i64 y5.1.Break, .int .i64 y5.1.Half]) (j := 0) ty28 rfl rfl rfl rfl rfl rfl rfl ?_
  refine lp rfl (p_as rfl) ?_
  refine lp rfl (p_as rfl) ?_
  refine lp rfl (p_as rfl) ?_
  refine lj_seq ?_
  refine cj_seq ?_
  refine cj_seq ?_
  refine cj_reg ?_
  refine lp rfl (p_mv rfl) ?_
  obtain ⟨y15, hy15, hm⟩ := bindS hm
  refine r_call [2] cf8 rfl rfl (ok_gleemake_Stream_Flip b1 s0_ a0 y12.2 2 hy15) rfl rfl (.cons (.ro 8 rfl) .nil) (fun _ => rfl) rfl (fun _ => ?_)
  refine lj_seq ?_
  obtain ⟨k20, hk20, hm⟩ := bindS hm
  have hRk20 : ∀ t, k20 = .inr t → some t = some r := fun t e => by rw [e] at hm; exact hm
  refine cj_joinK (σ := (Int × Int × Int × Int × (List TItem) × (List TItem))) (γ := (SV × List (TItem × SV) × SV × List (TItem × SV))) (fun u16 => k20 = .inl u16) (fun u16 g17 => [(2, .bool false), (4, .pointer (some ⟨b13, 0, none⟩)), (5, .pointer (some ⟨b14, 0, none⟩)), (6, .int .i64 y8.1), (7, .string y10.1), (8, .int .i64 y12.1)]) (fun u16 g17 => Sat w0 (keys ([] : List Ent)) A [.box b14 28 [g17.2.2.1.v, .int .i64 u16.1, .int .i64 u16.2.1, .int .i64 u16.2.2.1, .int .i64 u16.2.2.2.1], .box b13 28 [g17.1.v, .int .i64 y2.1.Change, .int .i64 y2.1.Clap, .int .i64 y2.1.Break, .int .i64 y2.1.Half], .ro (RdS N37.R (SV.v g17.1) g17.2.1), .ro (Lk N37 u16.2.2.2.2.1 g17.2.1), .row N37.R (SV.v g17.2.2.1) g17.2.2.2, .ro (Lk N37 u16.2.2.2.2.2 g17.2.2.2)]) (fun u16 g17 hq => ?_) (fun J cnk20 => ?_)
  · have hm := Sum.fin_l hq hm
    refine cj_pure (F := Lk N37 u16.2.2.2.2.1 g17.2.1) (.ro 3 rfl) (fun _ h => h.1) (fun hLu16_K18 => ?_)
    refine cj_pure (F := Lk N37 u16.2.2.2.2.2 g17.2.2.2) (.ro 5 rfl) (fun _ h => h.1) (fun hLu16_K19 => ?_)
    refine cj_seq ?_
    refine cj_reg ?_
    refine lp rfl (p_lbw ty28 rfl (j := 1) rfl rfl) ?_
    refine lp rfl (p_mv rfl) ?_
    refine lp rfl (p_mv rfl) ?_
    refine lp rfl (p_mv rfl) ?_
    obtain ⟨y30, hy30, hm⟩ := bindS hm
    refine r_call [] cf11 rfl rfl (ok_concert_Late (TProgram.mk u16.2.2.2.2.1 y2.1.Change y2.1.Clap y2.1.Break y2.1.Half) g17.1 g17.2.1 y8.1 y10.1 y12.1 hy30) rfl rfl (.cons (.ro 3 rfl) (.cons (.ro 2 rfl) .nil)) (fun _ => rfl) rfl (fun _ => ?_)
    refine lp rfl (p_mv rfl) ?_
    refine lp rfl (p_ext rfl rfl) ?_
    refine lp rfl (p_ext rfl rfl) ?_
    refine lp rfl (p_as rfl) ?_
    refine lp rfl (p_as rfl) ?_
    refine lj_seq ?_
    refine cj_seq ?_
    refine cj_reg ?_
    refine lp rfl (p_lbw ty28 rfl (j := 1) rfl rfl) ?_
    refine lp rfl (p_mv rfl) ?_
    refine lp rfl (p_mv rfl) ?_
    obtain ⟨y31, hy31, hm⟩ := bindS hm
    refine r_call [] cf12 rfl rfl (ok_concert_Leaves (TProgram.mk u16.2.2.2.2.1 y2.1.Change y2.1.Clap y2.1.Break y2.1.Half) g17.1 g17.2.1 y8.1 y12.1 hy31) rfl rfl (.cons (.ro 3 rfl) (.cons (.ro 2 rfl) .nil)) (fun _ => rfl) rfl (fun s32 => ?_)
    refine lp rfl (p_mv rfl) ?_
    refine lp rfl (p_ext rfl rfl) ?_
    refine lp rfl (p_ext rfl rfl) ?_
    refine lp rfl (p_as rfl) ?_
    refine lp rfl (p_as rfl) ?_
    refine lj_seq ?_
    refine cj_seq ?_
    refine cj_reg ?_
    refine lp rfl (p_lbw ty28 rfl (j := 2) rfl rfl) ?_
    refine lp rfl (p_lbw ty28 rfl (j := 1) rfl rfl) ?_
    obtain ⟨y33, hy33, hm⟩ := bindS hm
    refine r_call [] cf13 rfl rfl (ok_concert_Differ (TProgram.mk u16.2.2.2.2.1 y2.1.Change y2.1.Clap y2.1.Break y2.1.Half) g17.1 g17.2.1 (TProgram.mk u16.2.2.2.2.2 u16.1 u16.2.1 u16.2.2.1 u16.2.2.2.1) g17.2.2.1 g17.2.2.2 hy33) rfl rfl (.cons (.ro 4 rfl) (.cons (.ro 3 rfl) (.cons (.ro 6 rfl) (.cons (.row 5 rfl) .nil)))) (fun _ => rfl) rfl (fun ⟨s34, s35, s36⟩ => ?_)
    refine lp rfl (p_mv rfl) ?_
    refine lp rfl (p_ext rfl rfl) ?_
    refine lp rfl (p_ext rfl rfl) ?_
    refine lp rfl (p_ext rfl rfl) ?_
    refine lp rfl (p_ext rfl rfl) ?_
    refine lp rfl (p_as rfl) ?_
    refine lp rfl (p_as rfl) ?_
    refine lp rfl (p_as rfl) ?_
    refine lp rfl (p_as rfl) ?_
    refine lj_seq ?_
    refine cj_seq ?_
    refine cj_reg ?_
    refine lp rfl (p_lbw ty28 rfl (j := 5) rfl rfl) ?_
    obtain ⟨y37, hy37, hm⟩ := bindS hm
    refine r_call [] cf14 rfl rfl (ok_gleeref2_ProgramFault (TProgram.mk u16.2.2.2.2.1 y2.1.Change y2.1.Clap y2.1.Break y2.1.Half) g17.1 g17.2.1 hy37) rfl rfl (.cons (.ro 7 rfl) (.cons (.ro 6 rfl) .nil)) (fun _ => rfl) rfl (fun _ => ?_)
    refine lp rfl (p_as rfl) ?_
    refine lj_seq ?_
    refine cj_seq ?_
    refine cj_reg ?_
    refine lp rfl (p_mv rfl) ?_
    refine lp rfl (p_as rfl) ?_
    refine lj_seq ?_
    refine cj_seq ?_
    refine cj_seq ?_
    refine cj_reg ?_
    refine lp rfl (p_mv rfl) ?_
    refine lp rfl (p_eql rfl rfl) ?_
    refine lj_seq ?_
    obtain ⟨k40, hk40, hm⟩ := bindS hm
    have hRk40 : ∀ t, k40 = .inr t → some t = some r := fun t e => by rw [e] at hm; exact hm
    refine cj_joinK (σ := Int) (γ := Unit) (fun u38 => k40 = .inl u38) (fun u38 g39 => [(2, .bool false), (4, .pointer (some ⟨b13, 0, none⟩)), (5, .pointer (some ⟨b14, 0, none⟩)), (6, .int .i64 y8.1), (7, .string y10.1), (8, .int .i64 y12.1), (9, .int .i64 y30.1), (10, .int .i64 y30.2), (11, s32.v), (12, .int .i64 y31.2), (13, s34.v), (14, s35.v), (15, s36.v), (16, .int .i64 y33.2.2.2), (17, .int .i64 y37), (18, .int .i64 u38)]) (fun u38 g39 => Sat w0 (keys ([] : List Ent)) A [.row R9 (SV.v s34) y33.1, .row R9 (SV.v s35) y33.2.1, .row R9 (SV.v s36) y33.2.2.1, .row R9 (SV.v s32) y31.1, .box b14 28 [g17.2.2.1.v, .int .i64 u16.1, .int .i64 u16.2.1, .int .i64 u16.2.2.1, .int .i64 u16.2.2.2.1], .box b13 28 [g17.1.v, .int .i64 y2.1.Change, .int .i64 y2.1.Clap, .int .i64 y2.1.Break, .int .i64 y2.1.Half], .ro (RdS N37.R (SV.v g17.1) g17.2.1), .ro (Lk N37 u16.2.2.2.2.1 g17.2.1), .row N37.R (SV.v g17.2.2.1) g17.2.2.2, .ro (Lk N37 u16.2.2.2.2.2 g17.2.2.2)]) (fun u38 g39 hq => ?_) (fun J cnk40 => ?_)
    · have hm := Sum.fin_l hq hm
      refine cj_seq ?_
      refine cj_reg ?_
      refine lp rfl (p_mv rfl) ?_
      refine lp rfl (p_mv rfl) ?_
      obtain ⟨y42, hy42, hm⟩ := bindS hm
      refine r_call [] cf17 rfl rfl (ok_gleeref2_MomentFault y12.1 hy42) rfl rfl .nil (fun _ => rfl) rfl (fun _ => ?_)
      refine r_bs R39 [u38, y42] rfl rfl rfl (fun _ => by kernel_rfl) rfl (fun s43 => ?_)
      obtain ⟨y44, hy44, hm⟩ := bindS hm
      refine r_call [] cf16 rfl rfl (ok_gleelaw2_errs s43 [u38, y42] hy44) rfl rfl (.cons (.row 0 rfl) .nil) (fun _ => rfl) rfl (fun _ => ?_)
      refine lp rfl (p_as rfl) ?_
      refine lj_seq ?_
      refine cj_seq ?_
      refine cj_reg ?_
      refine lp rfl (p_mv rfl) ?_
      refine lp rfl (p_fab fl28_0 rfl) ?_
      refine lp rfl (p_lbs ty26 rfl (j := 6) rfl rfl) ?_
      refine lp rfl (p_mv rfl) ?_
      obtain ⟨y45, hy45, hm⟩ := bindS hm
      refine r_call [] cf19 rfl rfl (ok_gleeref2_ItemAt g17.1 g17.2.1 u16.2.2.2.2.1 y10.1 hy45) rfl rfl (.cons (.ro 8 rfl) (.cons (.ro 7 rfl) .nil)) (fun _ => rfl) rfl (fun _ => ?_)
      refine lp rfl (p_lss rfl rfl) ?_
      obtain ⟨y46, hy46, hm⟩ := bindS hm
      refine r_call [] cf18 rfl rfl (ok_gleelaw2_when (decide (y45 < 0)) 8 hy46) rfl rfl .nil (fun _ => rfl) rfl (fun _ => ?_)
      refine lp rfl (p_mv rfl) ?_
      obtain ⟨y47, hy47, hm⟩ := bindS hm
      refine r_call [] cf17 rfl rfl (ok_gleeref2_MomentFault y12.1 hy47) rfl rfl .nil (fun _ => rfl) rfl (fun _ => ?_)
      refine r_bs R39 [u38, y46, y47] rfl rfl rfl (fun _ => by kernel_rfl) rfl (fun s48 => ?_)
      obtain ⟨y49, hy49, hm⟩ := bindS hm
      refine r_call [] cf16 rfl rfl (ok_gleelaw2_errs s48 [u38, y46, y47] hy49) rfl rfl (.cons (.row 0 rfl) .nil) (fun _ => rfl) rfl (fun _ => ?_)
      refine lp rfl (p_as rfl) ?_
      refine lj_seq ?_
      refine cj_seq ?_
      refine cj_reg ?_
      refine lp rfl (p_mv rfl) ?_
      refine lp rfl (p_lbw ty28 rfl (j := 6) rfl rfl) ?_
      obtain ⟨y50, hy50, hm⟩ := bindS hm
      refine r_call [] cf14 rfl rfl (ok_gleeref2_ProgramFault (TProgram.mk u16.2.2.2.2.2 u16.1 u16.2.1 u16.2.2.1 u16.2.2.2.1) g17.2.2.1 g17.2.2.2 hy50) rfl rfl (.cons (.ro 11 rfl) (.cons (.row 10 rfl) .nil)) (fun _ => rfl) rfl (fun _ => ?_)
      refine r_bs R39 [y37, y50] rfl rfl rfl (fun _ => by kernel_rfl) rfl (fun s51 => ?_)
      obtain ⟨y52, hy52, hm⟩ := bindS hm
      refine r_call [] cf16 rfl rfl (ok_gleelaw2_errs s51 [y37, y50] hy52) rfl rfl (.cons (.row 0 rfl) .nil) (fun _ => rfl) rfl (fun _ => ?_)
      refine lp rfl (p_as rfl) ?_
      refine lj_seq ?_
      refine cj_seq ?_
      refine cj_reg ?_
      refine lp rfl (p_as rfl) ?_
      refine lj_seq ?_
      refine cj_seq ?_
      refine cj_seq ?_
      refine cj_reg ?_
      refine lp rfl (p_mv rfl) ?_
      refine lp rfl (p_eql rfl rfl) ?_
      refine lj_seq ?_
      obtain ⟨k55, hk55, hm⟩ := bindS hm
      have hRk55 : ∀ t, k55 = .inr t → some t = some r := fun t e => by rw [e] at hm; exact hm
      refine cj_joinK (σ := Int) (γ := Unit) (fun u53 => k55 = .inl u53) (fun u53 g54 => [(2, .bool false), (4, .pointer (some ⟨b13, 0, none⟩)), (5, .pointer (some ⟨b14, 0, none⟩)), (6, .int .i64 y8.1), (8, .int .i64 y12.1), (9, .int .i64 y30.1), (10, .int .i64 y30.2), (11, s32.v), (12, .int .i64 y31.2), (13, s34.v), (14, s35.v), (15, s36.v), (16, .int .i64 y33.2.2.2), (18, .int .i64 y49), (19, .int .i64 y44), (20, .int .i64 y52), (21, .int .i64 u53)]) (fun u53 g54 => Sat w0 (keys ([] : List Ent)) A [.row R9 (SV.v s34) y33.1, .row R9 (SV.v s35) y33.2.1, .row R9 (SV.v s36) y33.2.2.1, .row R9 (SV.v s32) y31.1, .box b14 28 [g17.2.2.1.v, .int .i64 u16.1, .int .i64 u16.2.1, .int .i64 u16.2.2.1, .int .i64 u16.2.2.2.1], .box b13 28 [g17.1.v, .int .i64 y2.1.Change, .int .i64 y2.1.Clap, .int .i64 y2.1.Break, .int .i64 y2.1.Half], .ro (RdS N37.R (SV.v g17.1) g17.2.1), .ro (Lk N37 u16.2.2.2.2.1 g17.2.1), .row N37.R (SV.v g17.2.2.1) g17.2.2.2, .ro (Lk N37 u16.2.2.2.2.2 g17.2.2.2)]) (fun u53 g54 hq => ?_) (fun J cnk55 => ?_)
      · have hm := Sum.fin_l hq hm
        refine cj_seq ?_
        refine cj_reg ?_
        refine lp rfl (p_as rfl) ?_
        refine lp rfl (p_as rfl) ?_
        refine lp rfl (p_as rfl) ?_
        refine lp rfl (p_as rfl) ?_
        refine lj_seq ?_
        refine cj_seq ?_
        refine cj_seq ?_
        refine cj_reg ?_
        refine lp rfl (p_mv rfl) ?_
        refine lp rfl (p_eql rfl rfl) ?_
        refine lj_seq ?_
        obtain ⟨k60, hk60, hm⟩ := bindS hm
        have hRk60 : ∀ t, k60 = .inr t → some t = some r := fun t e => by rw [e] at hm; exact hm
        refine cj_joinK (σ := (List ByteArray)) (γ := SV) (fun u57 => k60 = .inl u57) (fun u57 g58 => [(2, .bool false), (4, .pointer (some ⟨b13, 0, none⟩)), (5, .pointer (some ⟨b14, 0, none⟩)), (9, .int .i64 y30.1), (10, .int .i64 y30.2), (11, s32.v), (12, .int .i64 y31.2), (13, s34.v), (14, s35.v), (15, s36.v), (16, .int .i64 y33.2.2.2), (18, .int .i64 y49), (19, .int .i64 y44), (20, .int .i64 y52), (21, .int .i64 u53), (22, g58.v), (23, .slice none 0 0), (24, .slice none 0 0), (25, .slice none 0 0)]) (fun u57 g58 => Sat w0 (keys ([] : List Ent)) A [.row R9 (SV.v s34) y33.1, .row R9 (SV.v s35) y33.2.1, .row R9 (SV.v s36) y33.2.2.1, .row R9 (SV.v s32) y31.1, .box b14 28 [g17.2.2.1.v, .int .i64 u16.1, .int .i64 u16.2.1, .int .i64 u16.2.2.1, .int .i64 u16.2.2.2.1], .box b13 28 [g17.1.v, .int .i64 y2.1.Change, .int .i64 y2.1.Clap, .int .i64 y2.1.Break, .int .i64 y2.1.Half], .ro (RdS N37.R (SV.v g17.1) g17.2.1), .ro (Lk N37 u16.2.2.2.2.1 g17.2.1), .row N37.R (SV.v g17.2.2.1) g17.2.2.2, .ro (Lk N37 u16.2.2.2.2.2 g17.2.2.2), .row R9 (SV.v g58) u57]) (fun u57 g58 hq => ?_) (fun J cnk60 => ?_)
        · have hm := Sum.fin_l hq hm
          refine cj_seq ?_
          refine cj_seq ?_
          refine cj_reg ?_
          refine lp rfl (p_mv rfl) ?_
          refine lp rfl (p_eql rfl rfl) ?_
          refine lj_seq ?_
          obtain ⟨k69, hk69, hm⟩ := bindS hm
          have hRk69 : ∀ t, k69 = .inr t → some t = some r := fun t e => by rw [e] at hm; exact hm
          refine cj_joinK (σ := ((List ByteArray) × (List ByteArray) × (List ByteArray))) (γ := (SV × SV × SV)) (fun u64 => k69 = .inl u64) (fun u64 g65 => [(2, .bool false), (9, .int .i64 y30.1), (10, .int .i64 y30.2), (11, s32.v), (12, .int .i64 y31.2), (13, s34.v), (14, s35.v), (15, s36.v), (16, .int .i64 y33.2.2.2), (18, .int .i64 y49), (19, .int .i64 y44), (20, .int .i64 y52), (21, .int .i64 u53), (22, g58.v), (23, g65.1.v), (24, g65.2.1.v), (25, g65.2.2.v)]) (fun u64 g65 => Sat w0 (keys ([] : List Ent)) A [.row R9 (SV.v s34) y33.1, .row R9 (SV.v s35) y33.2.1, .row R9 (SV.v s36) y33.2.2.1, .row R9 (SV.v s32) y31.1, .row R9 (SV.v g58) u57, .row R9 (SV.v g65.1) u64.1, .row R9 (SV.v g65.2.1) u64.2.1, .row R9 (SV.v g65.2.2) u64.2.2]) (fun u64 g65 hq => ?_) (fun J cnk69 => ?_)
          · have hm := Sum.fin_l hq hm
            refine cj_seq ?_
            refine cj_reg ?_
            refine lp rfl (p_mv rfl) ?_
            refine lp rfl (p_mv rfl) ?_
            refine lp rfl (p_eql rfl rfl) ?_
            refine lp rfl (p_mv rfl) ?_
            refine lcase (i := 142) (y30.2 == y49) rfl (fun hb => ?_) (fun hb => ?_)
            · have hm := ifB_t hb hm
              refine lg true rfl rfl rfl ?_
              refine lp rfl (p_mv rfl) ?_
              refine lg true rfl rfl rfl ?_
              refine lp rfl (p_mv rfl) ?_
              refine lg true rfl rfl rfl ?_
              refine lp rfl (p_eql rfl rfl) ?_
              refine lp rfl (p_pkt rfl rfl) ?_
              refine lp rfl (p_mv rfl) ?_
              refine lcase (i := 147) (y30.1 == u53) rfl (fun hb => ?_) (fun hb => ?_)
              · have hm := ifB_t hb hm
                refine lg true rfl rfl rfl ?_
                refine lp rfl (p_mv rfl) ?_
                refine lg true rfl rfl rfl ?_
                refine lp rfl (p_mv rfl) ?_
                refine lg true rfl rfl rfl ?_
                refine lp rfl (p_eql rfl rfl) ?_
                refine lp rfl (p_pkt rfl rfl) ?_
                refine lp rfl (p_mv rfl) ?_
                refine lcase (i := 152) (y31.2 == y44) rfl (fun hb => ?_) (fun hb => ?_)
                · have hm := ifB_t hb hm
                  refine lg true rfl rfl rfl ?_
                  refine lp rfl (p_mv rfl) ?_
                  refine lg true rfl rfl rfl ?_
                  refine lp rfl (p_mv rfl) ?_
                  refine lg true rfl rfl rfl ?_
                  obtain ⟨y77, hy77, hm⟩ := bindS hm
                  refine r_call [] cf23 rfl rfl (ok_slices_Equal_string_string s32 y31.1 g58 u57 hy77) rfl rfl (.cons (.row 3 rfl) (.cons (.row 4 rfl) .nil)) (fun _ => rfl) rfl (fun _ => ?_)
                  refine lp rfl (p_pkt rfl rfl) ?_
                  refine lp rfl (p_mv rfl) ?_
                  refine lcase (i := 157) y77 rfl (fun hb => ?_) (fun hb => ?_)
                  · have hm := ifB_t hb hm
                    refine lg true rfl rfl rfl ?_
                    refine lp rfl (p_mv rfl) ?_
                    refine lg true rfl rfl rfl ?_
                    refine lp rfl (p_mv rfl) ?_
                    refine lg true rfl rfl rfl ?_
                    refine lp rfl (p_eql rfl rfl) ?_
                    refine lp rfl (p_pkt rfl rfl) ?_
                    refine lp rfl (p_mv rfl) ?_
                    refine lcase (i := 162) (y33.2.2.2 == y52) rfl (fun hb => ?_) (fun hb => ?_)
                    · have hm := ifB_t hb hm
                      refine lg true rfl rfl rfl ?_
                      refine lp rfl (p_mv rfl) ?_
                      refine lg true rfl rfl rfl ?_
                      refine lp rfl (p_mv rfl) ?_
                      refine lg true rfl rfl rfl ?_
                      obtain ⟨y78, hy78, hm⟩ := bindS hm
                      refine r_call [] cf23 rfl rfl (ok_slices_Equal_string_string s34 y33.1 g65.1 u64.1 hy78) rfl rfl (.cons (.row 0 rfl) (.cons (.row 5 rfl) .nil)) (fun _ => rfl) rfl (fun _ => ?_)
                      refine lp rfl (p_pkt rfl rfl) ?_
                      refine lp rfl (p_mv rfl) ?_
                      refine lcase (i := 167) y78 rfl (fun hb => ?_) (fun hb => ?_)
                      · have hm := ifB_t hb hm
                        refine lg true rfl rfl rfl ?_
                        refine lp rfl (p_mv rfl) ?_
                        refine lg true rfl rfl rfl ?_
                        refine lp rfl (p_mv rfl) ?_
                        refine lg true rfl rfl rfl ?_
                        obtain ⟨y79, hy79, hm⟩ := bindS hm
                        refine r_call [] cf23 rfl rfl (ok_slices_Equal_string_string s35 y33.2.1 g65.2.1 u64.2.1 hy79) rfl rfl (.cons (.row 1 rfl) (.cons (.row 6 rfl) .nil)) (fun _ => rfl) rfl (fun _ => ?_)
                        refine lp rfl (p_pkt rfl rfl) ?_
                        refine lp rfl (p_mv rfl) ?_
                        refine lcase (i := 172) y79 rfl (fun hb => ?_) (fun hb => ?_)
                        · have hm := ifB_t hb hm
                          refine lg true rfl rfl rfl ?_
                          refine lp rfl (p_mv rfl) ?_
                          refine lg true rfl rfl rfl ?_
                          refine lp rfl (p_mv rfl) ?_
                          refine lg true rfl rfl rfl ?_
                          obtain ⟨y80, hy80, hm⟩ := bindS hm
                          refine r_call [] cf23 rfl rfl (ok_slices_Equal_string_string s36 y33.2.2.1 g65.2.2 u64.2.2 hy80) rfl rfl (.cons (.row 2 rfl) (.cons (.row 7 rfl) .nil)) (fun _ => rfl) rfl (fun _ => ?_)
                          refine lp rfl (p_pkt rfl rfl) ?_
                          refine lp rfl (p_mv rfl) ?_
                          refine lcase (i := 177) y80 rfl (fun hb => ?_) (fun hb => ?_)
                          · have hm := ifB_t hb hm
                            refine lg true rfl rfl rfl ?_
                            obtain ⟨y81, hy81, hm⟩ := bindS hm
                            refine r_call [] cf24 rfl rfl (ok_gleelaw2_sung  hy81) rfl rfl .nil (fun _ => rfl) rfl (fun _ => ?_)
                            refine lp rfl (p_pkt rfl rfl) ?_
                            refine lp rfl (p_as rfl) ?_
                            refine lj_seq ?_
                            obtain rfl := Option.some.inj hm
                            exact cj_rt () [] Tryz.results3 (.tmp rfl .nil) rfl rfl
                          · have hm := ifB_f hb hm
                            refine ls true rfl rfl rfl rfl ?_
                            refine lp rfl (p_pkf rfl rfl) ?_
                            refine lp rfl (p_as rfl) ?_
                            refine lj_seq ?_
                            obtain rfl := Option.some.inj hm
                            exact cj_rt () [] Tryz.results3 (.tmp rfl .nil) rfl rfl
                        · have hm := ifB_f hb hm
                          refine ls true rfl rfl rfl rfl ?_
                          refine ls true rfl rfl rfl rfl ?_
                          refine ls true rfl rfl rfl rfl ?_
                          refine lp rfl (p_pkf rfl rfl) ?_
                          refine lp rfl (p_mv rfl) ?_
                          refine ls true rfl rfl rfl rfl ?_
                          refine lp rfl (p_pkf rfl rfl) ?_
                          refine lp rfl (p_as rfl) ?_
                          refine lj_seq ?_
                          obtain rfl := Option.some.inj hm
                          exact cj_rt () [] Tryz.results3 (.tmp rfl .nil) rfl rfl
                      · have hm := ifB_f hb hm
                        refine ls true rfl rfl rfl rfl ?_
                        refine ls true rfl rfl rfl rfl ?_
                        refine ls true rfl rfl rfl rfl ?_
                        refine lp rfl (p_pkf rfl rfl) ?_
                        refine lp rfl (p_mv rfl) ?_
                        refine ls true rfl rfl rfl rfl ?_
                        refine ls true rfl rfl rfl rfl ?_
                        refine ls true rfl rfl rfl rfl ?_
                        refine lp rfl (p_pkf rfl rfl) ?_
                        refine lp rfl (p_mv rfl) ?_
                        refine ls true rfl rfl rfl rfl ?_
                        refine lp rfl (p_pkf rfl rfl) ?_
                        refine lp rfl (p_as rfl) ?_
                        refine lj_seq ?_
                        obtain rfl := Option.some.inj hm
                        exact cj_rt () [] Tryz.results3 (.tmp rfl .nil) rfl rfl
                    · have hm := ifB_f hb hm
                      refine ls true rfl rfl rfl rfl ?_
                      refine ls true rfl rfl rfl rfl ?_
                      refine ls true rfl rfl rfl rfl ?_
                      refine lp rfl (p_pkf rfl rfl) ?_
                      refine lp rfl (p_mv rfl) ?_
                      refine ls true rfl rfl rfl rfl ?_
                      refine ls true rfl rfl rfl rfl ?_
                      refine ls true rfl rfl rfl rfl ?_
                      refine lp rfl (p_pkf rfl rfl) ?_
                      refine lp rfl (p_mv rfl) ?_
                      refine ls true rfl rfl rfl rfl ?_
                      refine ls true rfl rfl rfl rfl ?_
                      refine ls true rfl rfl rfl rfl ?_
                      refine lp rfl (p_pkf rfl rfl) ?_
                      refine lp rfl (p_mv rfl) ?_
                      refine ls true rfl rfl rfl rfl ?_
                      refine lp rfl (p_pkf rfl rfl) ?_
                      refine lp rfl (p_as rfl) ?_
                      refine lj_seq ?_
                      obtain rfl := Option.some.inj hm
                      exact cj_rt () [] Tryz.results3 (.tmp rfl .nil) rfl rfl
                  · have hm := ifB_f hb hm
                    refine ls true rfl rfl rfl rfl ?_
                    refine ls true rfl rfl rfl rfl ?_
                    refine ls true rfl rfl rfl rfl ?_
                    refine lp rfl (p_pkf rfl rfl) ?_
                    refine lp rfl (p_mv rfl) ?_
                    refine ls true rfl rfl rfl rfl ?_
                    refine ls true rfl rfl rfl rfl ?_
                    refine ls true rfl rfl rfl rfl ?_
                    refine lp rfl (p_pkf rfl rfl) ?_
                    refine lp rfl (p_mv rfl) ?_
                    refine ls true rfl rfl rfl rfl ?_
                    refine ls true rfl rfl rfl rfl ?_
                    refine ls true rfl rfl rfl rfl ?_
                    refine lp rfl (p_pkf rfl rfl) ?_
                    refine lp rfl (p_mv rfl) ?_
                    refine ls true rfl rfl rfl rfl ?_
                    refine ls true rfl rfl rfl rfl ?_
                    refine ls true rfl rfl rfl rfl ?_
                    refine lp rfl (p_pkf rfl rfl) ?_
                    refine lp rfl (p_mv rfl) ?_
                    refine ls true rfl rfl rfl rfl ?_
                    refine lp rfl (p_pkf rfl rfl) ?_
                    refine lp rfl (p_as rfl) ?_
                    refine lj_seq ?_
                    obtain rfl := Option.some.inj hm
                    exact cj_rt () [] Tryz.results3 (.tmp rfl .nil) rfl rfl
                · have hm := ifB_f hb hm
                  refine ls true rfl rfl rfl rfl ?_
                  refine ls true rfl rfl rfl rfl ?_
                  refine ls true rfl rfl rfl rfl ?_
                  refine lp rfl (p_pkf rfl rfl) ?_
                  refine lp rfl (p_mv rfl) ?_
                  refine ls true rfl rfl rfl rfl ?_
                  refine ls true rfl rfl rfl rfl ?_
                  refine ls true rfl rfl rfl rfl ?_
                  refine lp rfl (p_pkf rfl rfl) ?_
                  refine lp rfl (p_mv rfl) ?_
                  refine ls true rfl rfl rfl rfl ?_
                  refine ls true rfl rfl rfl rfl ?_
                  refine ls true rfl rfl rfl rfl ?_
                  refine lp rfl (p_pkf rfl rfl) ?_
                  refine lp rfl (p_mv rfl) ?_
                  refine ls true rfl rfl rfl rfl ?_
                  refine ls true rfl rfl rfl rfl ?_
                  refine ls true rfl rfl rfl rfl ?_
                  refine lp rfl (p_pkf rfl rfl) ?_
                  refine lp rfl (p_mv rfl) ?_
                  refine ls true rfl rfl rfl rfl ?_
                  refine ls true rfl rfl rfl rfl ?_
                  refine ls true rfl rfl rfl rfl ?_
                  refine lp rfl (p_pkf rfl rfl) ?_
                  refine lp rfl (p_mv rfl) ?_
                  refine ls true rfl rfl rfl rfl ?_
                  refine lp rfl (p_pkf rfl rfl) ?_
                  refine lp rfl (p_as rfl) ?_
                  refine lj_seq ?_
                  obtain rfl := Option.some.inj hm
                  exact cj_rt () [] Tryz.results3 (.tmp rfl .nil) rfl rfl
              · have hm := ifB_f hb hm
                refine ls true rfl rfl rfl rfl ?_
                refine ls true rfl rfl rfl rfl ?_
                refine ls true rfl rfl rfl rfl ?_
                refine lp rfl (p_pkf rfl rfl) ?_
                refine lp rfl (p_mv rfl) ?_
                refine ls true rfl rfl rfl rfl ?_
                refine ls true rfl rfl rfl rfl ?_
                refine ls true rfl rfl rfl rfl ?_
                refine lp rfl (p_pkf rfl rfl) ?_
                refine lp rfl (p_mv rfl) ?_
                refine ls true rfl rfl rfl rfl ?_
                refine ls true rfl rfl rfl rfl ?_
                refine ls true rfl rfl rfl rfl ?_
                refine lp rfl (p_pkf rfl rfl) ?_
                refine lp rfl (p_mv rfl) ?_
                refine ls true rfl rfl rfl rfl ?_
                refine ls true rfl rfl rfl rfl ?_
                refine ls true rfl rfl rfl rfl ?_
                refine lp rfl (p_pkf rfl rfl) ?_
                refine lp rfl (p_mv rfl) ?_
                refine ls true rfl rfl rfl rfl ?_
                refine ls true rfl rfl rfl rfl ?_
                refine ls true rfl rfl rfl rfl ?_
                refine lp rfl (p_pkf rfl rfl) ?_
                refine lp rfl (p_mv rfl) ?_
                refine ls true rfl rfl rfl rfl ?_
                refine ls true rfl rfl rfl rfl ?_
                refine ls true rfl rfl rfl rfl ?_
                refine lp rfl (p_pkf rfl rfl) ?_
                refine lp rfl (p_mv rfl) ?_
                refine ls true rfl rfl rfl rfl ?_
                refine lp rfl (p_pkf rfl rfl) ?_
                refine lp rfl (p_as rfl) ?_
                refine lj_seq ?_
                obtain rfl := Option.some.inj hm
                exact cj_rt () [] Tryz.results3 (.tmp rfl .nil) rfl rfl
            · have hm := ifB_f hb hm
              refine ls true rfl rfl rfl rfl ?_
              refine ls true rfl rfl rfl rfl ?_
              refine ls true rfl rfl rfl rfl ?_
              refine lp rfl (p_pkf rfl rfl) ?_
              refine lp rfl (p_mv rfl) ?_
              refine ls true rfl rfl rfl rfl ?_
              refine ls true rfl rfl rfl rfl ?_
              refine ls true rfl rfl rfl rfl ?_
              refine lp rfl (p_pkf rfl rfl) ?_
              refine lp rfl (p_mv rfl) ?_
              refine ls true rfl rfl rfl rfl ?_
              refine ls true rfl rfl rfl rfl ?_
              refine ls true rfl rfl rfl rfl ?_
              refine lp rfl (p_pkf rfl rfl) ?_
              refine lp rfl (p_mv rfl) ?_
              refine ls true rfl rfl rfl rfl ?_
              refine ls true rfl rfl rfl rfl ?_
              refine ls true rfl rfl rfl rfl ?_
              refine lp rfl (p_pkf rfl rfl) ?_
              refine lp rfl (p_mv rfl) ?_
              refine ls true rfl rfl rfl rfl ?_
              refine ls true rfl rfl rfl rfl ?_
              refine ls true rfl rfl rfl rfl ?_
              refine lp rfl (p_pkf rfl rfl) ?_
              refine lp rfl (p_mv rfl) ?_
              refine ls true rfl rfl rfl rfl ?_
              refine ls true rfl rfl rfl rfl ?_
              refine ls true rfl rfl rfl rfl ?_
              refine lp rfl (p_pkf rfl rfl) ?_
              refine lp rfl (p_mv rfl) ?_
              refine ls true rfl rfl rfl rfl ?_
              refine ls true rfl rfl rfl rfl ?_
              refine ls true rfl rfl rfl rfl ?_
              refine lp rfl (p_pkf rfl rfl) ?_
              refine lp rfl (p_mv rfl) ?_
              refine ls true rfl rfl rfl rfl ?_
              refine lp rfl (p_pkf rfl rfl) ?_
              refine lp rfl (p_as rfl) ?_
              refine lj_seq ?_
              obtain rfl := Option.some.inj hm
              exact cj_rt () [] Tryz.results3 (.tmp rfl .nil) rfl rfl
          · have hm := hk69
            refine cj_if (b := y52 == 0) rfl (fun hb => ?_) (fun hb => ?_)
            · have hm := ifB_t hb hm
              refine cj_reg ?_
              refine lp rfl (p_lbw ty28 rfl (j := 5) rfl rfl) ?_
              refine lp rfl (p_lbw ty28 rfl (j := 4) rfl rfl) ?_
              obtain ⟨y70, hy70, hm⟩ := bindS hm
              refine r_call [] cf22 rfl rfl (ok_gleeref2_DifferingOf (TProgram.mk u16.2.2.2.2.1 y2.1.Change y2.1.Clap y2.1.Break y2.1.Half) g17.1 g17.2.1 (TProgram.mk u16.2.2.2.2.2 u16.1 u16.2.1 u16.2.2.1 u16.2.2.2.1) g17.2.2.1 g17.2.2.2 hy70) rfl rfl (.cons (.ro 7 rfl) (.cons (.ro 6 rfl) (.cons (.ro 9 rfl) (.cons (.row 8 rfl) .nil)))) (fun _ => rfl) rfl (fun ⟨s71, s72, s73⟩ => ?_)
              refine lp rfl (p_mv rfl) ?_
              refine lp rfl (p_ext rfl rfl) ?_
              refine lp rfl (p_ext rfl rfl) ?_
              refine lp rfl (p_ext rfl rfl) ?_
              refine lp rfl (p_as rfl) ?_
              refine lp rfl (p_as rfl) ?_
              refine lp rfl (p_as rfl) ?_
              refine lj_nil ?_
              exact cnk69 _ _ (y70.1, y70.2.1, y70.2.2) (s71, s72, s73) (Option.some.inj hm).symm ⟨rfl, rfl, rfl, rfl, rfl, rfl, rfl, rfl, rfl, rfl, rfl, rfl, rfl, rfl, rfl, rfl, rfl, trivial⟩ (fun _ h => h.picks [3, 3, 3, 3, 9, 0, 0, 0] rfl)
            · have hm := ifB_f hb hm
              refine cj_skip ?_
              refine nj_nil R9 ?_
              refine nj_nil R9 ?_
              refine nj_nil R9 ?_
              exact cnk69 _ _ ([], [], []) (nilS, nilS, nilS) (Option.some.inj hm).symm ⟨rfl, rfl, rfl, rfl, rfl, rfl, rfl, rfl, rfl, rfl, rfl, rfl, rfl, rfl, rfl, rfl, rfl, trivial⟩ (fun _ h => h.picks [3, 3, 3, 3, 9, 2, 1, 0] rfl)
        · have hm := hk60
          refine cj_if (b := y44 == 0) rfl (fun hb => ?_) (fun hb => ?_)
          · have hm := ifB_t hb hm
            refine cj_reg ?_
            refine lp rfl (p_lbw ty28 rfl (j := 5) rfl rfl) ?_
            refine lp rfl (p_mv rfl) ?_
            refine lp rfl (p_mv rfl) ?_
            obtain ⟨y61, hy61, hm⟩ := bindS hm
            refine r_call [] cf21 rfl rfl (ok_gleeref2_LeavesAt (TProgram.mk u16.2.2.2.2.1 y2.1.Change y2.1.Clap y2.1.Break y2.1.Half) g17.1 g17.2.1 y8.1 y12.1 hy61) rfl rfl (.cons (.ro 7 rfl) (.cons (.ro 6 rfl) .nil)) (fun _ => rfl) rfl (fun s62 => ?_)
            refine lp rfl (p_as rfl) ?_
            refine lj_nil ?_
            exact cnk60 _ _ y61 s62 (Option.some.inj hm).symm ⟨rfl, rfl, rfl, rfl, rfl, rfl, rfl, rfl, rfl, rfl, rfl, rfl, rfl, rfl, rfl, rfl, rfl, rfl, rfl, trivial⟩ (fun _ h => h.picks [1, 1, 1, 1, 1, 1, 1, 1, 1, 1, 0] rfl)
          · have hm := ifB_f hb hm
            refine cj_skip ?_
            refine nj_nil R9 ?_
            exact cnk60 _ _ [] nilS (Option.some.inj hm).symm ⟨rfl, rfl, rfl, rfl, rfl, rfl, rfl, rfl, rfl, rfl, rfl, rfl, rfl, rfl, rfl, rfl, rfl, rfl, rfl, trivial⟩ (fun _ h => h.picks [1, 1, 1, 1, 1, 1, 1, 1, 1, 1, 0] rfl)
      · have hm := hk55
        refine cj_if (b := y49 == 0) rfl (fun hb => ?_) (fun hb => ?_)
        · have hm := ifB_t hb hm
          refine cj_reg ?_
          refine lp rfl (p_lbw ty28 rfl (j := 8) rfl rfl) ?_
          refine lp rfl (p_mv rfl) ?_
          refine lp rfl (p_mv rfl) ?_
          refine lp rfl (p_mv rfl) ?_
          obtain ⟨y56, hy56, hm⟩ := bindS hm
          refine r_call [] cf20 rfl rfl (ok_gleeref2_LateIn (TProgram.mk u16.2.2.2.2.1 y2.1.Change y2.1.Clap y2.1.Break y2.1.Half) g17.1 g17.2.1 y8.1 y10.1 y12.1 hy56) rfl rfl (.cons (.ro 10 rfl) (.cons (.ro 9 rfl) .nil)) (fun _ => rfl) rfl (fun _ => ?_)
          refine lp rfl (p_as rfl) ?_
          refine lj_nil ?_
          exact cnk55 _ _ y56 () (Option.some.inj hm).symm ⟨rfl, rfl, rfl, rfl, rfl, rfl, rfl, rfl, rfl, rfl, rfl, rfl, rfl, rfl, rfl, rfl, rfl, trivial⟩ (fun _ h => h.picks [3, 3, 3, 3, 3, 3, 3, 3, 3, 3] rfl)
        · have hm := ifB_f hb hm
          refine cj_skip ?_
          exact cnk55 _ _ 0 () (Option.some.inj hm).symm ⟨rfl, rfl, rfl, rfl, rfl, rfl, rfl, rfl, rfl, rfl, rfl, rfl, rfl, rfl, rfl, rfl, rfl, trivial⟩ (fun _ h => h.picks [3, 3, 3, 3, 3, 3, 3, 3, 3, 3] rfl)
    · have hm := hk40
      refine cj_if (b := y37 == 0) rfl (fun hb => ?_) (fun hb => ?_)
      · have hm := ifB_t hb hm
        refine cj_reg ?_
        refine lp rfl (p_lbw ty28 rfl (j := 5) rfl rfl) ?_
        refine lp rfl (p_mv rfl) ?_
        obtain ⟨y41, hy41, hm⟩ := bindS hm
        refine r_call [] cf15 rfl rfl (ok_gleeref2_BeginFault (TProgram.mk u16.2.2.2.2.1 y2.1.Change y2.1.Clap y2.1.Break y2.1.Half) g17.1 g17.2.1 y8.1 hy41) rfl rfl (.cons (.ro 7 rfl) (.cons (.ro 6 rfl) .nil)) (fun _ => rfl) rfl (fun _ => ?_)
        refine lp rfl (p_as rfl) ?_
        refine lj_nil ?_
        exact cnk40 _ _ y41 () (Option.some.inj hm).symm ⟨rfl, rfl, rfl, rfl, rfl, rfl, rfl, rfl, rfl, rfl, rfl, rfl, rfl, rfl, rfl, rfl, trivial⟩ (fun _ h => h.picks [0, 0, 0, 0, 0, 0, 0, 0, 0, 0] rfl)
      · have hm := ifB_f hb hm
        refine cj_skip ?_
        exact cnk40 _ _ y37 () (Option.some.inj hm).symm ⟨rfl, rfl, rfl, rfl, rfl, rfl, rfl, rfl, rfl, rfl, rfl, rfl, rfl, rfl, rfl, rfl, trivial⟩ (fun _ h => h.picks [0, 0, 0, 0, 0, 0, 0, 0, 0, 0] rfl)
  · have hm := hk20
    refine cj_if (b := y15.1) rfl (fun hb => ?_) (fun hb => ?_)
    · have hm := ifB_t hb hm
      refine cj_seq ?_
      refine cj_reg ?_
      refine lp rfl (p_lbw ty28 rfl (j := 2) rfl rfl) ?_
      refine r_sb (vs := [s3.v, .int .i64 y2.1.Change, .int .i64 y2.1.Clap, .int .i64 y2.1.Break, .int .i64 y2.1.Half]) (j := 1) ty28 rfl rfl rfl rfl rfl rfl rfl ?_
      refine lj_seq ?_
      refine cj_seq ?_
      refine cj_reg ?_
      refine lp rfl (p_fab fl28_0 rfl) ?_
      refine lp rfl (p_lbs ty26 rfl (j := 2) rfl rfl) ?_
      refine r_fz 7 rfl ?_
      obtain ⟨y21, hy21, hm⟩ := bindS hm
      refine r_callN [] cf9 rfl rfl (ok_slices_Clone_api_Item_api_Item s3 xg4 y2.1.Items hy21) rfl rfl (.cons (.ro 8 rfl) (.cons (.ro 0 rfl) .nil)) rfl (fun ⟨s22, xg23⟩ => ?_)
      refine r_pure (F := Lk N37 y21 xg23) (.ro 1 rfl) (fun _ h => h.1) (fun hLs22 => ?_)
      refine lp rfl (p_fab fl28_0 rfl) ?_
      refine r_sb (vs := [s22.v]) (j := 4) ty26 rfl rfl rfl rfl rfl rfl rfl ?_
      refine lj_seq ?_
      refine cj_seq ?_
      refine cj_reg ?_
      refine lp rfl (p_fab fl28_0 rfl) ?_
      refine lp rfl (p_lbs ty26 rfl (j := 4) rfl rfl) ?_
      refine lp rfl (p_lenG hLs22 Tryz.underlying26 rfl (.row 0 rfl)) ?_
      refine lp rfl (p_gtr rfl rfl) ?_
      refine lj_seq ?_
      refine cj_if (b := decide ((y21.length : Int) > 0)) rfl (fun hb => ?_) (fun hb => ?_)
      · have hm := ifB_t hb hm
        refine cj_pure (F := RdS N37.R (SV.v s22) xg23) (.row 0 rfl) (fun _ h => h.pures) (fun hq28 => ?_)
        obtain ⟨y24, hy24, hm⟩ := bindS hm
        obtain ⟨e25, he25, hm⟩ := bindS hm
        obtain ⟨ge25, he25G⟩ := lk_getI hLs22 he25
        obtain ⟨e26, he26, hm⟩ := bindS hm
        obtain ⟨ge26, he26G⟩ := lk_getI hLs22 he26
        refine cj_anyT [0, 1, 2, 3, 4, 5, 7, 8, 9, 10, 12] [13] (Sat w0 (keys ([] : List Ent)) A [.row N37.R (SV.v s22) xg23, .ro (Lk N37 y21 xg23), .ro (RdS N37.R (SV.v s3) xg4), .box b14 28 [s22.v, .int .i64 y2.1.Change, .int .i64 y2.1.Clap, .int .i64 y2.1.Break, .int .i64 y2.1.Half], .box b13 28 [s3.v, .int .i64 y2.1.Change, .int .i64 y2.1.Clap, .int .i64 y2.1.Break, .int .i64 y2.1.Half], .row R3 (SV.v s11) [0, 100, 250, 500, 1500, (-1)], .row R9 (SV.v s9) [(ByteArray.mk [97].toArray), (ByteArray.mk [98].toArray), (ByteArray.mk [99].toArray), (ByteArray.mk [122, 122].toArray)], .row N37.R (SV.v s6) xg7, .ro (Lk N37 y5.1.Items xg7), .ro (Lk N37 y2.1.Items xg4), .ro (RdS R3 (SV.v s0_) a0)]) (Sat w0 (keys ([] : List Ent)) A [.ro (Lk N37 y21 xg23), .ro (RdS N37.R (SV.v s3) xg4), .box b14 28 [s22.v, .int .i64 y2.1.Change, .int .i64 y2.1.Clap, .int .i64 y2.1.Break, .int .i64 y2.1.Half], .box b13 28 [s3.v, .int .i64 y2.1.Change, .int .i64 y2.1.Clap, .int .i64 y2.1.Break, .int .i64 y2.1.Half], .row R3 (SV.v s11) [0, 100, 250, 500, 1500, (-1)], .row R9 (SV.v s9) [(ByteArray.mk [97].toArray), (ByteArray.mk [98].toArray), (ByteArray.mk [99].toArray), (ByteArray.mk [122, 122].toArray)], .row N37.R (SV.v s6) xg7, .ro (Lk N37 y5.1.Items xg7), .ro (Lk N37 y2.1.Items xg4), .ro (RdS R3 (SV.v s0_) a0)]) (by kernel_rfl) ?_
        refine at_take2 0 rfl (by kernel_rfl) (by kernel_rfl) (by kernel_rfl) (fun _ h => h.picks [1, 1, 1, 1, 1, 1, 1, 1, 1, 1] rfl) rfl rfl (p_fab fl28_0 rfl) (fun _ h => h.picks [1, 1, 2, 2, 2, 2, 2, 2, 2, 2] rfl) ?_
        refine at_take2 1 rfl (by kernel_rfl) (by kernel_rfl) (by kernel_rfl) (fun _ h => h.picks [1, 1, 1, 1, 1, 1, 1, 1, 1, 1] rfl) rfl rfl (p_lbs ty26 rfl (j := 2) rfl rfl) (fun _ h => h.picks [1, 1, 2, 2, 2, 2, 2, 2, 2, 2] rfl) ?_
        refine at_take2 2 rfl (by kernel_rfl) (by kernel_rfl) (by kernel_rfl) (fun _ h => h.picks [1, 1, 1, 1, 1, 1, 1, 1, 1, 1] rfl) rfl rfl (p_mv rfl) (fun _ h => h.picks [1, 1, 2, 2, 2, 2, 2, 2, 2, 2] rfl) ?_
        refine at_take2 3 rfl (by kernel_rfl) (by kernel_rfl) (by kernel_rfl) (fun _ h => h.picks [1, 1, 1, 1, 1, 1, 1, 1, 1, 1] rfl) rfl rfl (p_fab fl28_0 rfl) (fun _ h => h.picks [1, 1, 2, 2, 2, 2, 2, 2, 2, 2] rfl) ?_
        refine at_take2 4 rfl (by kernel_rfl) (by kernel_rfl) (by kernel_rfl) (fun _ h => h.picks [1, 1, 1, 1, 1, 1, 1, 1, 1, 1] rfl) rfl rfl (p_lbs ty26 rfl (j := 2) rfl rfl) (fun _ h => h.picks [1, 1, 2, 2, 2, 2, 2, 2, 2, 2] rfl) ?_
        refine at_take1 5 rfl (by kernel_rfl) (by kernel_rfl) (by kernel_rfl) (by kernel_rfl) rfl rfl (p_lenG hLs22 Tryz.underlying26 rfl (.row 0 rfl)) (fun _ h => h.picks [0, 0, 0, 1, 1, 1, 1, 1, 1, 1, 1] rfl) ?_
        refine at_each (rs := [6]) (by kernel_rfl) (by decide) ?_
        refine (.cons rfl (fun I cnI => ?_) .nil)
        · refine r_call [3] cf10 rfl rfl (ok_gleemake_Stream_Next b1 s0_ a0 y15.2 (y21.length : Int) hy24) rfl rfl (.cons (.ro 10 rfl) .nil) (fun _ => rfl) rfl (fun _ => ?_)
          refine lj_nil ?_
          refine cnI _ _ (sof1 rfl rfl (fun _ h => h.picks [1, 1, 1, 1, 1, 1, 1, 1, 1, 1, 1] rfl)) ?_
          refine at_take1 7 rfl (by kernel_rfl) (by kernel_rfl) (by kernel_rfl) (by kernel_rfl) rfl rfl (p_idxP (R := N37.R) Tryz.underlying26 ty37 rfl rfl hq28 he25G) (fun _ h => h.picks [1, 1, 1, 1, 1, 1, 1, 1, 1, 1, 1] rfl) ?_
          refine at_take1 8 rfl (by kernel_rfl) (by kernel_rfl) (by kernel_rfl) (by kernel_rfl) rfl rfl (p_fae fl37_2 rfl (.row 0 rfl) (getI_spec he25G).2) (fun _ h => h.picks [1, 1, 1, 1, 1, 1, 1, 1, 1, 1, 1] rfl) ?_
          refine at_take1 9 rfl (by kernel_rfl) (by kernel_rfl) (by kernel_rfl) (by kernel_rfl) rfl rfl (p_lde (o := 2) ty3 rfl rfl (.row 0 rfl) (getI_spec he25G).2 rfl) (fun _ h => h.picks [1, 1, 1, 1, 1, 1, 1, 1, 1, 1, 1] rfl) ?_
          refine at_take2 10 rfl (by kernel_rfl) (by kernel_rfl) (by kernel_rfl) (fun _ h => h.picks [1, 1, 1, 1, 1, 1, 1, 1, 1, 1] rfl) rfl rfl (p_add rfl rfl) (fun _ h => h.picks [2, 2, 2, 2, 2, 2, 2, 2, 2, 2] rfl) ?_
          refine at_each (rs := [11]) (by kernel_rfl) (by decide) ?_
          refine (.cons rfl (fun I cnI => ?_) .nil)
          · refine lp rfl (p_idxP (R := N37.R) Tryz.underlying26 ty37 rfl rfl hq28 he26G) ?_
            refine lj_nil ?_
            refine cnI _ _ (sof1 rfl rfl (fun _ h => h.picks [1, 1, 1, 1, 1, 1, 1, 1, 1, 1, 1] rfl)) ?_
            refine at_take1 12 rfl (by kernel_rfl) (by kernel_rfl) (by kernel_rfl) (by kernel_rfl) rfl rfl (p_fae fl37_2 rfl (.row 0 rfl) (getI_spec he26G).2) (fun _ h => h.picks [1, 1, 1, 1, 1, 1, 1, 1, 1, 1, 1] rfl) ?_
            refine at_each (rs := [13]) (by kernel_rfl) (by decide) ?_
            refine (.cons rfl (fun I cnI => ?_) .nil)
            · refine r_fact (F := Lk N37 (y21.set y24.1.toNat (TItem.mk e26.Key e26.Places (w64 (e25.Long + 1)) e26.Parts)) (xg23.set y24.1.toNat ((TItem.mk e26.Key e26.Places (w64 (e25.Long + 1)) e26.Parts), ge26))) (.imp (.and (.ro 2 rfl) (.imp (.ro 2 rfl) (fun _ h => (Lk.at_ h (getI_spec he26G).2)))) (fun _ h => Lk.set h.1 h.2)) ?_
              refine r_ste (k := 2) (o := 2) (vs := [.int .i64 (w64 (e25.Long + 1))]) ty3 rfl rfl rfl rfl rfl rfl rfl (getI_spec he26G).2 ((TItem.mk e26.Key e26.Places (w64 (e25.Long + 1)) e26.Parts), ge26) rfl rfl ?_
              refine lj_nil ?_
              refine cnI _ _ (sof2 rfl rfl (fun _ h => h.picks [3, 3, 3, 3, 3, 3, 3, 3, 3, 3] rfl)) ?_
              refine at_done (by kernel_rfl) ?_
              exact cnk20 _ _ (y2.1.Change, y2.1.Clap, y2.1.Break, y2.1.Half, y2.1.Items, (y21.set y24.1.toNat (TItem.mk e26.Key e26.Places (w64 (e25.Long + 1)) e26.Parts))) (s3, xg4, s22, (xg23.set y24.1.toNat ((TItem.mk e26.Key e26.Places (w64 (e25.Long + 1)) e26.Parts), ge26))) (Option.some.inj hm).symm ⟨rfl, rfl, rfl, rfl, rfl, rfl, trivial⟩ (fun _ h => h.picks [5, 5, 4, 8, 2, 0] rfl)
      · have hm := ifB_f hb hm
        refine cj_skip ?_
        exact cnk20 _ _ (y2.1.Change, y2.1.Clap, y2.1.Break, y2.1.Half, y2.1.Items, y21) (s3, xg4, s22, xg23) (Option.some.inj hm).symm ⟨rfl, rfl, rfl, rfl, rfl, rfl, trivial⟩ (fun _ h => h.picks [4, 4, 2, 7, 0, 0] rfl)
    · have hm := ifB_f hb hm
      refine cj_skip ?_
      refine nj_fz 7 rfl ?_
      exact cnk20 _ _ (y5.1.Change, y5.1.Clap, y5.1.Break, y5.1.Half, y2.1.Items, y5.1.Items) (s3, xg4, s6, xg7) (Option.some.inj hm).symm ⟨rfl, rfl, rfl, rfl, rfl, rfl, trivial⟩ (fun _ h => h.picks [2, 2, 0, 5, 3, 3] rfl)
end Go.Proofs.YtjpicohaggobjaaGreatDoor
