/- The walks. Written by program. -/
import Derived.Test.YtpllnghmnihjhaaDoorW
namespace Go.Proofs.YtpllnghmnihjhaaDoor
open Go Go.J Go.G
set_option maxRecDepth 100000
set_option linter.unusedVariables false
theorem ok_gleeref2_ProgramFault (a0 : TProgram) (s0_0_ : SV) (xg0_0_ : List (TItem × SV)) {r : Int} (hm : m_gleeref2_ProgramFault a0 = some r) :
    Ctr Tryd.prog 11 [.agg [s0_0_.v, .int .i64 a0.Change, .int .i64 a0.Clap, .int .i64 a0.Break, .int .i64 a0.Half].toArray].toArray ([] : List Ent) [Lk N63 a0.Items xg0_0_, RdS N63.R (SV.v s0_0_) xg0_0_] (X := Unit) (fun _ => .int .i64 r) (fun _ => []) := by
  unfold m_gleeref2_ProgramFault at hm
  refine ctr_mk (vs := [(0, .agg [s0_0_.v, .int .i64 a0.Change, .int .i64 a0.Clap, .int .i64 a0.Break, .int .i64 a0.Half].toArray)]) Tryd.func11 rfl Tryd.ntmps11 rfl ⟨rfl, trivial⟩ (fun w0 A => ?_)
  refine cj_pure (F := Lk N63 a0.Items xg0_0_) (.ro 0 rfl) (fun _ h => h.1) (fun hL0_0_ => ?_)
  refine cj_seq ?_
  refine cj_reg ?_
  refine r_bx (cs := [s0_0_.v, .int .i64 a0.Change, .int .i64 a0.Clap, .int .i64 a0.Break, .int .i64 a0.Half]) rfl rfl rfl (fun b1 => ?_)
  refine lp rfl (p_as rfl) ?_
  refine lj_seq ?_
  refine cj_seq ?_
  refine cj_seq ?_
  refine cj_reg ?_
  refine lp rfl (p_fab fl28_0 rfl) ?_
  refine lp rfl (p_lbs ty26 rfl (j := 0) rfl rfl) ?_
  obtain ⟨y2, hy2, hm⟩ := bindS hm
  refine r_call [] cf17 rfl rfl (ok_gleeref2_ItemsFault s0_0_ xg0_0_ a0.Items hy2) rfl rfl (.cons (.ro 1 rfl) (.cons (.ro 2 rfl) .nil)) (fun _ => rfl) rfl (fun _ => ?_)
  refine lp rfl (p_as rfl) ?_
  refine lj_seq ?_
  refine cj_seq ?_
  refine cj_reg ?_
  refine lp rfl (p_mv rfl) ?_
  refine lp rfl (p_neq rfl rfl) ?_
  refine lj_seq ?_
  refine cj_if (b := y2 != 0) rfl (fun hb => ?_) (fun hb => ?_)
  · have hm := ifB_t hb hm
    refine cj_seq ?_
    refine cj_reg ?_
    refine lp rfl (p_mv rfl) ?_
    refine lp rfl (p_as rfl) ?_
    refine lj_seq ?_
    obtain rfl := Option.some.inj hm
    exact cj_rt () [] Tryd.results11 (.tmp rfl .nil) rfl rfl
  · have hm := ifB_f hb hm
    refine cj_skip ?_
    refine nj_seq ?_
    refine cj_seq ?_
    refine cj_seq ?_
    refine cj_reg ?_
    obtain ⟨k5, hk5, hm⟩ := bindS hm
    have hRk5 : ∀ t, k5 = .inr t → some t = some r := fun t e => by rw [e] at hm; exact hm
    refine lj_join (σ := Bool) (γ := Unit) (fun u3 => k5 = .inl u3) (fun u3 g4 => [(2, .int .i64 0), (36, .bool u3)]) (fun u3 g4 => Sat w0 (keys ([] : List Ent)) A []) (fun u3 g4 hq => ?_) (fun J cnk5 => ?_)
    · have hm := Sum.fin_l hq hm
      refine cj_if (b := u3) rfl (fun hb => ?_) (fun hb => ?_)
      · have hm := ifB_t hb hm
        refine cj_seq ?_
        refine cj_reg ?_
        refine lp rfl (p_as rfl) ?_
        refine lj_seq ?_
        obtain rfl := Option.some.inj hm
        exact cj_rt () [] Tryd.results11 (.tmp rfl .nil) rfl rfl
      · have hm := ifB_f hb hm
        refine cj_skip ?_
        refine nj_seq ?_
        refine cj_seq ?_
        refine cj_reg ?_
        refine lp rfl (p_as rfl) ?_
        refine lj_seq ?_
        obtain rfl := Option.some.inj hm
        exact cj_rt () [] Tryd.results11 (.tmp rfl .nil) rfl rfl
    · have hm := hk5
      refine lp rfl (p_fab fl28_1 rfl) ?_
      refine lp rfl (p_lbs ty3 rfl (j := 0) rfl rfl) ?_
      obtain ⟨y6, hy6, hm⟩ := bindS hm
      refine r_call [] cf46 rfl rfl (ok_gleeref2_in a0.Change 0 86400000 hy6) rfl rfl .nil (fun _ => rfl) rfl (fun _ => ?_)
      refine lp rfl (p_not rfl) ?_
      refine lp rfl (p_mv rfl) ?_
      refine lcase (i := 14) (!y6) rfl (fun hb => ?_) (fun hb => ?_)
      · have hm := ifB_t hb hm
        refine ls false rfl rfl rfl rfl ?_
        refine ls false rfl rfl rfl rfl ?_
        refine ls false rfl rfl rfl rfl ?_
        refine ls false rfl rfl rfl rfl ?_
        refine lp rfl (p_pkt rfl rfl) ?_
        refine lp rfl (p_mv rfl) ?_
        refine ls false rfl rfl rfl rfl ?_
        refine ls false rfl rfl rfl rfl ?_
        refine ls false rfl rfl rfl rfl ?_
        refine ls false rfl rfl rfl rfl ?_
        refine lp rfl (p_pkt rfl rfl) ?_
        refine lp rfl (p_mv rfl) ?_
        refine ls false rfl rfl rfl rfl ?_
        refine ls false rfl rfl rfl rfl ?_
        refine ls false rfl rfl rfl rfl ?_
        refine ls false rfl rfl rfl rfl ?_
        refine ls false rfl rfl rfl rfl ?_
        refine ls false rfl rfl rfl rfl ?_
        refine ls false rfl rfl rfl rfl ?_
        refine ls false rfl rfl rfl rfl ?_
        refine ls false rfl rfl rfl rfl ?_
        refine lp rfl (p_pkt rfl rfl) ?_
        refine lj_nil ?_
        exact cnk5 _ _ true () (Option.some.inj hm).symm ⟨rfl, rfl, trivial⟩ (fun _ h => h.picks [] rfl)
      · have hm := ifB_f hb hm
        refine lg false rfl rfl rfl ?_
        refine lp rfl (p_fab fl28_2 rfl) ?_
        refine lg false rfl rfl rfl ?_
        refine lp rfl (p_lbs ty3 rfl (j := 0) rfl rfl) ?_
        refine lg false rfl rfl rfl ?_
        obtain ⟨y7, hy7, hm⟩ := bindS hm
        refine r_call [] cf46 rfl rfl (ok_gleeref2_in a0.Clap 0 86400000 hy7) rfl rfl .nil (fun _ => rfl) rfl (fun _ => ?_)
        refine lg false rfl rfl rfl ?_
        refine lp rfl (p_not rfl) ?_
        refine lp rfl (p_pkf rfl rfl) ?_
        refine lp rfl (p_mv rfl) ?_
        refine lcase (i := 20) (!y7) rfl (fun hb => ?_) (fun hb => ?_)
        · have hm := ifB_t hb hm
          refine ls false rfl rfl rfl rfl ?_
          refine ls false rfl rfl rfl rfl ?_
          refine ls false rfl rfl rfl rfl ?_
          refine ls false rfl rfl rfl rfl ?_
          refine lp rfl (p_pkt rfl rfl) ?_
          refine lp rfl (p_mv rfl) ?_
          refine ls false rfl rfl rfl rfl ?_
          refine ls false rfl rfl rfl rfl ?_
          refine ls false rfl rfl rfl rfl ?_
          refine ls false rfl rfl rfl rfl ?_
          refine ls false rfl rfl rfl rfl ?_
          refine ls false rfl rfl rfl rfl ?_
          refine ls false rfl rfl rfl rfl ?_
          refine ls false rfl rfl rfl rfl ?_
          refine ls false rfl rfl rfl rfl ?_
          refine lp rfl (p_pkt rfl rfl) ?_
          refine lj_nil ?_
          exact cnk5 _ _ true () (Option.some.inj hm).symm ⟨rfl, rfl, trivial⟩ (fun _ h => h.picks [] rfl)
        · have hm := ifB_f hb hm
          refine lg false rfl rfl rfl ?_
          refine lp rfl (p_fab fl28_3 rfl) ?_
          refine lg false rfl rfl rfl ?_
          refine lp rfl (p_lbs ty3 rfl (j := 0) rfl rfl) ?_
          refine lg false rfl rfl rfl ?_
          obtain ⟨y8, hy8, hm⟩ := bindS hm
          refine r_call [] cf46 rfl rfl (ok_gleeref2_in a0.Break 0 86400000 hy8) rfl rfl .nil (fun _ => rfl) rfl (fun _ => ?_)
          refine lg false rfl rfl rfl ?_
          refine lp rfl (p_not rfl) ?_
          refine lp rfl (p_pkf rfl rfl) ?_
          refine lp rfl (p_mv rfl) ?_
          refine lcase (i := 26) (!y8) rfl (fun hb => ?_) (fun hb => ?_)
          · have hm := ifB_t hb hm
            refine ls false rfl rfl rfl rfl ?_
            refine ls false rfl rfl rfl rfl ?_
            refine ls false rfl rfl rfl rfl ?_
            refine ls false rfl rfl rfl rfl ?_
            refine ls false rfl rfl rfl rfl ?_
            refine ls false rfl rfl rfl rfl ?_
            refine ls false rfl rfl rfl rfl ?_
            refine ls false rfl rfl rfl rfl ?_
            refine ls false rfl rfl rfl rfl ?_
            refine lp rfl (p_pkt rfl rfl) ?_
            refine lj_nil ?_
            exact cnk5 _ _ true () (Option.some.inj hm).symm ⟨rfl, rfl, trivial⟩ (fun _ h => h.picks [] rfl)
          · have hm := ifB_f hb hm
            refine lg false rfl rfl rfl ?_
            refine lp rfl (p_fab fl28_4 rfl) ?_
            refine lg false rfl rfl rfl ?_
            refine lp rfl (p_lbs ty3 rfl (j := 0) rfl rfl) ?_
            refine lg false rfl rfl rfl ?_
            refine lp rfl (p_fab fl28_0 rfl) ?_
            refine lg false rfl rfl rfl ?_
            refine lp rfl (p_lbs ty26 rfl (j := 0) rfl rfl) ?_
            refine lg false rfl rfl rfl ?_
            refine lp rfl (p_lenG hL0_0_ Tryd.underlying26 rfl (.ro 2 rfl)) ?_
            refine lg false rfl rfl rfl ?_
            refine lp rfl (p_sub rfl rfl) ?_
            refine lg false rfl rfl rfl ?_
            refine lp rfl (p_max rfl rfl) ?_
            refine lg false rfl rfl rfl ?_
            obtain ⟨y9, hy9, hm⟩ := bindS hm
            refine r_call [] cf46 rfl rfl (ok_gleeref2_in a0.Half (-1) (max (-1) (w64 ((a0.Items.length : Int) - 2))) hy9) rfl rfl .nil (fun _ => rfl) rfl (fun _ => ?_)
            refine lg false rfl rfl rfl ?_
            refine lp rfl (p_not rfl) ?_
            refine lp rfl (p_pkf rfl rfl) ?_
            refine lj_nil ?_
            exact cnk5 _ _ (!y9) () (Option.some.inj hm).symm ⟨rfl, rfl, trivial⟩ (fun _ h => h.picks [] rfl)
theorem ok_gleelaw2_when (a0 : Bool) (a1 : Int) {r : Int} (hm : m_gleelaw2_when a0 a1 = some r) :
    Ctr Tryd.prog 24 [.bool a0, .int .i64 a1].toArray ([] : List Ent) [] (X := Unit) (fun _ => .int .i64 r) (fun _ => []) := by
  unfold m_gleelaw2_when at hm
  refine ctr_mk (vs := [(0, .bool a0), (1, .int .i64 a1)]) Tryd.func24 rfl Tryd.ntmps24 rfl ⟨rfl, rfl, trivial⟩ (fun w0 A => ?_)
  refine cj_seq ?_
  refine cj_reg ?_
  refine lp rfl (p_as rfl) ?_
  refine lj_seq ?_
  refine cj_seq ?_
  refine cj_seq ?_
  refine cj_reg ?_
  refine lp rfl (p_mv rfl) ?_
  refine lj_seq ?_
  refine cj_if (b := a0) rfl (fun hb => ?_) (fun hb => ?_)
  · have hm := ifB_t hb hm
    refine cj_seq ?_
    refine cj_reg ?_
    refine lp rfl (p_mv rfl) ?_
    refine lp rfl (p_as rfl) ?_
    refine lj_seq ?_
    obtain rfl := Option.some.inj hm
    exact cj_rt () [] Tryd.results24 (.tmp rfl .nil) rfl rfl
  · have hm := ifB_f hb hm
    refine cj_skip ?_
    refine nj_seq ?_
    refine cj_seq ?_
    refine cj_reg ?_
    refine lp rfl (p_as rfl) ?_
    refine lj_seq ?_
    obtain rfl := Option.some.inj hm
    exact cj_rt () [] Tryd.results24 (.tmp rfl .nil) rfl rfl
theorem ok_gleelaw2_errs (s0_ : SV) (a0 : (List Int)) {r : Int} (hm : m_gleelaw2_errs a0 = some r) :
    Ctr Tryd.prog 23 [s0_.v].toArray ([] : List Ent) [RdS R32 (SV.v s0_) a0] (X := Unit) (fun _ => .int .i64 r) (fun _ => []) := by
  unfold m_gleelaw2_errs at hm
  refine ctr_mk (vs := [(0, s0_.v)]) Tryd.func23 rfl Tryd.ntmps23 rfl ⟨rfl, trivial⟩ (fun w0 A => ?_)
  refine cj_seq ?_
  refine cj_reg ?_
  refine lp rfl (p_as rfl) ?_
  refine lj_seq ?_
  refine cj_seq ?_
  refine cj_seq ?_
  refine cj_reg ?_
  refine lp rfl (p_mv rfl) ?_
  refine lp rfl (p_len Tryd.underlying93 rfl (.ro 0 rfl)) ?_
  refine lp rfl (p_mv rfl) ?_
  refine lj_seq ?_
  obtain ⟨f7, hf7, hm⟩ := bindS hm
  refine cj_range (γ := Unit) (m := (a0.length : Int)) hf7 () (fun u4 g5 => [(2, .int .i64 0), (5, s0_.v)]) (fun u4 g5 => Sat w0 (keys ([] : List Ent)) A [.ro (RdS R32 (SV.v s0_) a0)]) ⟨rfl, rfl, rfl, rfl, trivial⟩ (fun _ h => h.picks [0] rfl) (nat_lt _) (fun _ h => (FactAt.get (.ro 0 rfl) h).1) (fun _ _ => ⟨rfl, rfl, rfl, rfl⟩) ⟨rfl, rfl, rfl, rfl, rfl⟩ rfl rfl rfl (fun u4 g5 e => ?_) (fun aftk6 i1 x2 u4 g5 k6 hx3 hs J hJk6 hBk6 hX I cnk6 => ?_)
  · have hm := Flow.fin_b e hm
    refine nj_seq ?_
    refine cj_seq ?_
    refine cj_reg ?_
    refine lp rfl (p_as rfl) ?_
    refine lj_seq ?_
    obtain rfl := Option.some.inj hm
    exact cj_rt () [] Tryd.results23 (.tmp rfl .nil) rfl rfl
  · have hRk6 : ∀ t, k6 = .ret t → some t = some r := fun t e => by rw [hX t e] at hm; exact hm
    have hm := hs
    refine cj_seq ?_
    refine cj_reg ?_
    refine lp rfl (p_idx Tryd.underlying93 ty32 rfl rfl (.ro 0 rfl) (getI_nat.trans hx3)) ?_
    refine lp rfl (p_lde (o := 0) ty32 rfl rfl (.ro 0 rfl) hx3 rfl) ?_
    refine lp rfl (p_as rfl) ?_
    refine lj_seq ?_
    refine cj_seq ?_
    refine cj_reg ?_
    refine lp rfl (p_mv rfl) ?_
    refine lp rfl (p_neq rfl rfl) ?_
    refine lj_seq ?_
    refine cj_if (b := x2 != 0) rfl (fun hb => ?_) (fun hb => ?_)
    · have hm := ifB_t hb hm
      refine cj_seq ?_
      refine cj_reg ?_
      refine lp rfl (p_mv rfl) ?_
      refine lp rfl (p_as rfl) ?_
      refine lj_seq ?_
      have hm := hRk6 _ (Option.some.inj hm).symm
      obtain rfl := Option.some.inj hm
      exact cj_rt () [] Tryd.results23 (.tmp rfl .nil) rfl rfl
    · have hm := ifB_f hb hm
      refine cj_skip ?_
      refine nj_blk ?_
      exact cnk6 _ _ () () (hJk6 _ (Option.some.inj hm).symm) ⟨rfl, rfl, rfl, rfl, trivial⟩ (fun _ h => h.picks [0] rfl)
theorem ok_gleeref2_between (a0 : TProgram) (s0_0_ : SV) (xg0_0_ : List (TItem × SV)) (a1 : Int) {r : Int} (hm : m_gleeref2_between a0 a1 = some r) :
    Ctr Tryd.prog 48 [.agg [s0_0_.v, .int .i64 a0.Change, .int .i64 a0.Clap, .int .i64 a0.Break, .int .i64 a0.Half].toArray, .int .i64 a1].toArray ([] : List Ent) [Lk N63 a0.Items xg0_0_, RdS N63.R (SV.v s0_0_) xg0_0_] (X := Unit) (fun _ => .int .i64 r) (fun _ => []) := by
  unfold m_gleeref2_between at hm
  refine ctr_mk (vs := [(0, .agg [s0_0_.v, .int .i64 a0.Change, .int .i64 a0.Clap, .int .i64 a0.Break, .int .i64 a0.Half].toArray), (1, .int .i64 a1)]) Tryd.func48 rfl Tryd.ntmps48 rfl ⟨rfl, rfl, trivial⟩ (fun w0 A => ?_)
  refine cj_pure (F := Lk N63 a0.Items xg0_0_) (.ro 0 rfl) (fun _ h => h.1) (fun hL0_0_ => ?_)
  refine cj_seq ?_
  refine cj_reg ?_
  refine r_bx (cs := [s0_0_.v, .int .i64 a0.Change, .int .i64 a0.Clap, .int .i64 a0.Break, .int .i64 a0.Half]) rfl rfl rfl (fun b1 => ?_)
  refine lp rfl (p_as rfl) ?_
  refine lj_seq ?_
  refine cj_seq ?_
  refine cj_blk ?_
  refine cj_seq ?_
  refine cj_reg ?_
  refine lp rfl (p_mv rfl) ?_
  refine lp rfl (p_fab fl28_4 rfl) ?_
  refine lp rfl (p_lbs ty3 rfl (j := 0) rfl rfl) ?_
  refine lp rfl (p_eql rfl rfl) ?_
  refine lp rfl (p_as rfl) ?_
  refine lj_seq ?_
  refine cj_if (b := a1 == a0.Half) rfl (fun hb => ?_) (fun hb => ?_)
  · have hm := ifB_t hb hm
    refine cj_seq ?_
    refine cj_reg ?_
    refine lp rfl (p_fab fl28_3 rfl) ?_
    refine lp rfl (p_lbs ty3 rfl (j := 0) rfl rfl) ?_
    refine lp rfl (p_as rfl) ?_
    refine lj_seq ?_
    obtain rfl := Option.some.inj hm
    exact cj_rt () [] Tryd.results48 (.tmp rfl .nil) rfl rfl
  · have hm := ifB_f hb hm
    refine cj_seq ?_
    refine cj_quiet (by kernel_rfl) (by kernel_rfl) ?_
    refine q_p rfl (p_fab fl28_0 rfl) ?_
    refine q_p rfl (p_lbs ty26 rfl (j := 0) rfl rfl) ?_
    refine q_p rfl (p_mv rfl) ?_
    obtain ⟨e2, he2, hm⟩ := bindS hm
    obtain ⟨ge2, he2G⟩ := lk_getI hL0_0_ he2
    refine q_p rfl (p_idx Tryd.underlying26 ty63 rfl rfl (.ro 2 rfl) he2G) ?_
    refine q_p rfl (p_fae fl63_1 rfl (.ro 2 rfl) (getI_spec he2G).2) ?_
    refine q_p rfl (p_lde (o := 1) ty9 rfl rfl (.ro 2 rfl) (getI_spec he2G).2 rfl) ?_
    refine q_p rfl (p_fab fl28_0 rfl) ?_
    refine q_p rfl (p_lbs ty26 rfl (j := 0) rfl rfl) ?_
    refine q_p rfl (p_mv rfl) ?_
    refine q_p rfl (p_add rfl rfl) ?_
    obtain ⟨e3, he3, hm⟩ := bindS hm
    obtain ⟨ge3, he3G⟩ := lk_getI hL0_0_ he3
    refine q_p rfl (p_idx Tryd.underlying26 ty63 rfl rfl (.ro 2 rfl) he3G) ?_
    refine q_p rfl (p_fae fl63_1 rfl (.ro 2 rfl) (getI_spec he3G).2) ?_
    refine q_p rfl (p_lde (o := 1) ty9 rfl rfl (.ro 2 rfl) (getI_spec he3G).2 rfl) ?_
    refine q_p rfl (p_nes rfl rfl) ?_
    refine q_p rfl (p_as rfl) ?_
    refine q_nil ?_
    refine nj_seq ?_
    refine cj_if (b := !(e2.Places.toList == e3.Places.toList)) rfl (fun hb => ?_) (fun hb => ?_)
    · have hm := ifB_t hb hm
      refine cj_seq ?_
      refine cj_reg ?_
      refine lp rfl (p_fab fl28_1 rfl) ?_
      refine lp rfl (p_lbs ty3 rfl (j := 0) rfl rfl) ?_
      refine lp rfl (p_as rfl) ?_
      refine lj_seq ?_
      obtain rfl := Option.some.inj hm
      exact cj_rt () [] Tryd.results48 (.tmp rfl .nil) rfl rfl
    · have hm := ifB_f hb hm
      refine cj_skip ?_
      refine nj_blk ?_
      refine nj_seq ?_
      refine cj_seq ?_
      refine cj_reg ?_
      refine lp rfl (p_fab fl28_2 rfl) ?_
      refine lp rfl (p_lbs ty3 rfl (j := 0) rfl rfl) ?_
      refine lp rfl (p_as rfl) ?_
      refine lj_seq ?_
      obtain rfl := Option.some.inj hm
      exact cj_rt () [] Tryd.results48 (.tmp rfl .nil) rfl rfl
theorem ok_gleeref2_TimedOf (a0 : TProgram) (s0_0_ : SV) (xg0_0_ : List (TItem × SV)) (a1 : Int) {r : (List TTimed)} (hm : m_gleeref2_TimedOf a0 a1 = some r) :
    Ctr Tryd.prog 15 [.agg [s0_0_.v, .int .i64 a0.Change, .int .i64 a0.Clap, .int .i64 a0.Break, .int .i64 a0.Half].toArray, .int .i64 a1].toArray ([] : List Ent) [Lk N63 a0.Items xg0_0_, RdS N63.R (SV.v s0_0_) xg0_0_] (X := SV) (fun s => s.v) (fun s => [.row R46 (SV.v s) r]) := by
  unfold m_gleeref2_TimedOf at hm
  refine ctr_mk (vs := [(0, .agg [s0_0_.v, .int .i64 a0.Change, .int .i64 a0.Clap, .int .i64 a0.Break, .int .i64 a0.Half].toArray), (1, .int .i64 a1)]) Tryd.func15 rfl Tryd.ntmps15 rfl ⟨rfl, rfl, trivial⟩ (fun w0 A => ?_)
  refine cj_pure (F := Lk N63 a0.Items xg0_0_) (.ro 0 rfl) (fun _ h => h.1) (fun hL0_0_ => ?_)
  refine cj_seq ?_
  refine cj_reg ?_
  refine r_bx (cs := [s0_0_.v, .int .i64 a0.Change, .int .i64 a0.Clap, .int .i64 a0.Break, .int .i64 a0.Half]) rfl rfl rfl (fun b1 => ?_)
  refine lp rfl (p_as rfl) ?_
  refine lj_seq ?_
  refine cj_seq ?_
  refine cj_reg ?_
  refine lp rfl (p_as rfl) ?_
  refine lj_seq ?_
  refine cj_seq ?_
  refine cj_seq ?_
  refine cj_reg ?_
  refine lp rfl (p_fab fl28_0 rfl) ?_
  refine lp rfl (p_lbs ty26 rfl (j := 0) rfl rfl) ?_
  refine lp rfl (p_lenG hL0_0_ Tryd.underlying26 rfl (.ro 2 rfl)) ?_
  refine lp rfl (p_mv rfl) ?_
  refine lj_seq ?_
  refine cj_nil R46 ?_
  obtain ⟨f9, hf9, hm⟩ := bindS hm
  refine cj_range (γ := SV) (m := (a0.Items.length : Int)) hf9 nilS (fun u6 g7 => [(1, .int .i64 u6.1), (2, .pointer (some ⟨b1, 0, none⟩)), (4, .slice none 0 0), (5, g7.v), (9, s0_0_.v)]) (fun u6 g7 => Sat w0 (keys ([] : List Ent)) A [.box b1 28 [s0_0_.v, .int .i64 a0.Change, .int .i64 a0.Clap, .int .i64 a0.Break, .int .i64 a0.Half], .ro (Lk N63 a0.Items xg0_0_), .ro (RdS N63.R (SV.v s0_0_) xg0_0_), .row R46 (SV.v g7) u6.2]) ⟨rfl, rfl, rfl, rfl, rfl, rfl, rfl, trivial⟩ (fun _ h => h.picks [1, 1, 1, 0] rfl) (nat_lt _) (fun _ h => by have h1 := (FactAt.get (.ro 3 rfl) h).1; rw [lk_len hL0_0_] at h1; exact h1) (fun _ _ => ⟨rfl, rfl, rfl, rfl⟩) ⟨rfl, rfl, rfl, rfl, rfl⟩ rfl rfl rfl (fun u6 g7 e => ?_) (fun aftk8 i2 x3 u6 g7 k8 hx4 hs J hJk8 hBk8 hX I cnk8 => ?_)
  · have hm := Flow.fin_b e hm
    refine nj_seq ?_
    refine cj_seq ?_
    refine cj_reg ?_
    refine lp rfl (p_mv rfl) ?_
    refine lp rfl (p_as rfl) ?_
    refine lj_seq ?_
    obtain rfl := Option.some.inj hm
    exact cj_rt g7 [3] Tryd.results15 (.tmp rfl .nil) rfl rfl
  · have hRk8 : ∀ t, k8 = .ret t → some t = some r := fun t e => by rw [hX t e] at hm; exact hm
    have hm := hs
    refine cj_seq ?_
    refine cj_reg ?_
    refine lp rfl (p_mv rfl) ?_
    obtain ⟨gx3, hx4G⟩ := lk_get hL0_0_ hx4
    refine lp rfl (p_idx Tryd.underlying26 ty63 rfl rfl (.ro 2 rfl) (getI_nat.trans hx4G)) ?_
    refine lp rfl (p_leaN (cs := [.string x3.Key, .string x3.Places, .int .i64 x3.Long, gx3.v]) ty63 rfl (.ro 2 rfl) hx4G rfl) ?_
    refine r_al ty63 rfl (fun b11 => ?_)
    refine lp rfl (p_as rfl) ?_
    refine r_sb (vs := [.string x3.Key, .string x3.Places, .int .i64 x3.Long, gx3.v]) (j := 0) ty63 rfl rfl rfl rfl rfl rfl rfl ?_
    refine lj_seq ?_
    refine cj_seq ?_
    refine cj_reg ?_
    refine lp rfl (p_mv rfl) ?_
    refine lp rfl (p_fab fl63_0 rfl) ?_
    refine lp rfl (p_lbs ty9 rfl (j := 0) rfl rfl) ?_
    refine lp rfl (p_mv rfl) ?_
    refine lp rfl (p_mv rfl) ?_
    refine lp rfl (p_fab fl63_2 rfl) ?_
    refine lp rfl (p_lbs ty3 rfl (j := 0) rfl rfl) ?_
    refine lp rfl (p_add rfl rfl) ?_
    refine lp rfl (p_bld [.int .i64 u6.1, .int .i64 (w64 (u6.1 + x3.Long))] rfl (fun _ => by kernel_rfl)) ?_
    refine lp rfl (p_bld [.string x3.Key, .int .i64 u6.1, .int .i64 (w64 (u6.1 + x3.Long))] rfl (fun _ => by kernel_rfl)) ?_
    refine r_bs R46 [(TTimed.mk x3.Key (TWindow.mk u6.1 (w64 (u6.1 + x3.Long))))] rfl rfl rfl (fun _ => by kernel_rfl) rfl (fun s12 => ?_)
    obtain ⟨q13, hq13, hm⟩ := bindS hm
    refine r_app (k := 5) Tryd.underlying31 ty46 rfl rfl rfl rfl (.row 0 rfl) hq13 rfl (fun s14 => ?_)
    refine lp rfl (p_as rfl) ?_
    refine lj_seq ?_
    refine cj_seq ?_
    refine cj_reg ?_
    refine lp rfl (p_mv rfl) ?_
    refine lp rfl (p_fab fl63_2 rfl) ?_
    refine lp rfl (p_lbs ty3 rfl (j := 1) rfl rfl) ?_
    refine lp rfl (p_add rfl rfl) ?_
    refine lp rfl (p_as rfl) ?_
    refine lj_seq ?_
    refine cj_seq ?_
    refine cj_reg ?_
    refine lp rfl (p_mv rfl) ?_
    refine lp rfl (p_add rfl rfl) ?_
    refine lp rfl (p_fab fl28_0 rfl) ?_
    refine lp rfl (p_lbs ty26 rfl (j := 2) rfl rfl) ?_
    refine lp rfl (p_lenG hL0_0_ Tryd.underlying26 rfl (.ro 4 rfl)) ?_
    refine lp rfl (p_lss rfl rfl) ?_
    refine lj_seq ?_
    refine cj_if (b := decide ((w64 ((i2 : Int) + 1)) < (a0.Items.length : Int))) rfl (fun hb => ?_) (fun hb => ?_)
    · have hm := ifB_t hb hm
      refine cj_reg ?_
      refine lp rfl (p_mv rfl) ?_
      refine lp rfl (p_lbw ty28 rfl (j := 2) rfl rfl) ?_
      refine lp rfl (p_mv rfl) ?_
      obtain ⟨y15, hy15, hm⟩ := bindS hm
      refine r_call [] cf48 rfl rfl (ok_gleeref2_between a0 s0_0_ xg0_0_ (i2 : Int) hy15) rfl rfl (.cons (.ro 3 rfl) (.cons (.ro 4 rfl) .nil)) (fun _ => rfl) rfl (fun _ => ?_)
      refine lp rfl (p_add rfl rfl) ?_
      refine lp rfl (p_as rfl) ?_
      refine lj_nil ?_
      refine nj_blk ?_
      exact cnk8 _ _ (w64 ((w64 (u6.1 + x3.Long)) + y15), q13) s14 (hJk8 _ (Option.some.inj hm).symm) ⟨rfl, rfl, rfl, rfl, rfl, rfl, rfl, trivial⟩ (fun _ h => h.picks [2, 2, 2, 2] rfl)
    · have hm := ifB_f hb hm
      refine cj_skip ?_
      refine nj_blk ?_
      exact cnk8 _ _ (w64 (u6.1 + x3.Long), q13) s14 (hJk8 _ (Option.some.inj hm).symm) ⟨rfl, rfl, rfl, rfl, rfl, rfl, rfl, trivial⟩ (fun _ h => h.picks [2, 2, 2, 2] rfl)
theorem ok_gleeref2_LongOfProgram (a0 : TProgram) (s0_0_ : SV) (xg0_0_ : List (TItem × SV)) {r : Int} (hm : m_gleeref2_LongOfProgram a0 = some r) :
    Ctr Tryd.prog 13 [.agg [s0_0_.v, .int .i64 a0.Change, .int .i64 a0.Clap, .int .i64 a0.Break, .int .i64 a0.Half].toArray].toArray ([] : List Ent) [Lk N63 a0.Items xg0_0_, RdS N63.R (SV.v s0_0_) xg0_0_] (X := Unit) (fun _ => .int .i64 r) (fun _ => []) := by
  unfold m_gleeref2_LongOfProgram at hm
  refine ctr_mk (vs := [(0, .agg [s0_0_.v, .int .i64 a0.Change, .int .i64 a0.Clap, .int .i64 a0.Break, .int .i64 a0.Half].toArray)]) Tryd.func13 rfl Tryd.ntmps13 rfl ⟨rfl, trivial⟩ (fun w0 A => ?_)
  refine cj_pure (F := Lk N63 a0.Items xg0_0_) (.ro 0 rfl) (fun _ h => h.1) (fun hL0_0_ => ?_)
  refine cj_seq ?_
  refine cj_reg ?_
  refine r_bx (cs := [s0_0_.v, .int .i64 a0.Change, .int .i64 a0.Clap, .int .i64 a0.Break, .int .i64 a0.Half]) rfl rfl rfl (fun b1 => ?_)
  refine lp rfl (p_as rfl) ?_
  refine lj_seq ?_
  refine cj_seq ?_
  refine cj_reg ?_
  refine lp rfl (p_lbw ty28 rfl (j := 0) rfl rfl) ?_
  obtain ⟨y2, hy2, hm⟩ := bindS hm
  refine r_call [] cf15 rfl rfl (ok_gleeref2_TimedOf a0 s0_0_ xg0_0_ 0 hy2) rfl rfl (.cons (.ro 1 rfl) (.cons (.ro 2 rfl) .nil)) (fun _ => rfl) rfl (fun s3 => ?_)
  refine lp rfl (p_as rfl) ?_
  refine lj_seq ?_
  refine cj_seq ?_
  refine cj_seq ?_
  refine cj_reg ?_
  refine lp rfl (p_mv rfl) ?_
  refine lp rfl (p_len Tryd.underlying31 rfl (.row 0 rfl)) ?_
  refine lp rfl (p_eql rfl rfl) ?_
  refine lj_seq ?_
  refine cj_if (b := (y2.length : Int) == 0) rfl (fun hb => ?_) (fun hb => ?_)
  · have hm := ifB_t hb hm
    refine cj_seq ?_
    refine cj_reg ?_
    refine lp rfl (p_as rfl) ?_
    refine lj_seq ?_
    obtain rfl := Option.some.inj hm
    exact cj_rt () [] Tryd.results13 (.tmp rfl .nil) rfl rfl
  · have hm := ifB_f hb hm
    refine cj_skip ?_
    refine nj_seq ?_
    refine cj_seq ?_
    refine cj_reg ?_
    refine lp rfl (p_mv rfl) ?_
    refine lp rfl (p_mv rfl) ?_
    refine lp rfl (p_len Tryd.underlying31 rfl (.row 0 rfl)) ?_
    refine lp rfl (p_sub rfl rfl) ?_
    obtain ⟨e4, he4, hm⟩ := bindS hm
    refine lp rfl (p_idx Tryd.underlying31 ty46 rfl rfl (.row 0 rfl) he4) ?_
    refine lp rfl (p_fae fl46_1 rfl (.row 0 rfl) (getI_spec he4).2) ?_
    refine lp rfl (p_fae fl44_1 rfl (.row 0 rfl) (getI_spec he4).2) ?_
    refine lp rfl (p_lde (o := 2) ty3 rfl rfl (.row 0 rfl) (getI_spec he4).2 rfl) ?_
    refine lp rfl (p_as rfl) ?_
    refine lj_seq ?_
    obtain rfl := Option.some.inj hm
    exact cj_rt () [] Tryd.results13 (.tmp rfl .nil) rfl rfl
theorem ok_gleeref2_FittingIn (a0 : TProgram) (s0_0_ : SV) (xg0_0_ : List (TItem × SV)) (a1 : Int) {r : (List ByteArray)} (hm : m_gleeref2_FittingIn a0 a1 = some r) :
    Ctr Tryd.prog 38 [.agg [s0_0_.v, .int .i64 a0.Change, .int .i64 a0.Clap, .int .i64 a0.Break, .int .i64 a0.Half].toArray, .int .i64 a1].toArray ([] : List Ent) [Lk N63 a0.Items xg0_0_, RdS N63.R (SV.v s0_0_) xg0_0_] (X := SV) (fun s => s.v) (fun s => [.row R9 (SV.v s) r]) := by
  unfold m_gleeref2_FittingIn at hm
  refine ctr_mk (vs := [(0, .agg [s0_0_.v, .int .i64 a0.Change, .int .i64 a0.Clap, .int .i64 a0.Break, .int .i64 a0.Half].toArray), (1, .int .i64 a1)]) Tryd.func38 rfl Tryd.ntmps38 rfl ⟨rfl, rfl, trivial⟩ (fun w0 A => ?_)
  refine cj_pure (F := Lk N63 a0.Items xg0_0_) (.ro 0 rfl) (fun _ h => h.1) (fun hL0_0_ => ?_)
  refine cj_seq ?_
  refine cj_reg ?_
  refine r_bx (cs := [s0_0_.v, .int .i64 a0.Change, .int .i64 a0.Clap, .int .i64 a0.Break, .int .i64 a0.Half]) rfl rfl rfl (fun b1 => ?_)
  refine lp rfl (p_as rfl) ?_
  refine lj_seq ?_
  refine cj_seq ?_
  refine cj_reg ?_
  refine lp rfl (p_fab fl28_4 rfl) ?_
  refine r_sb (vs := [.int .i64 (-1)]) (j := 0) ty3 rfl rfl rfl rfl rfl rfl rfl ?_
  refine lj_seq ?_
  refine cj_seq ?_
  refine cj_reg ?_
  refine lp rfl (p_as rfl) ?_
  refine lj_seq ?_
  refine cj_seq ?_
  refine cj_reg ?_
  refine lp rfl (p_as rfl) ?_
  refine lp rfl (p_as rfl) ?_
  refine lj_seq ?_
  refine cj_seq ?_
  refine cj_seq ?_
  refine cj_reg ?_
  refine lp rfl (p_fab fl28_0 rfl) ?_
  refine lp rfl (p_lbs ty26 rfl (j := 0) rfl rfl) ?_
  refine lp rfl (p_lenG hL0_0_ Tryd.underlying26 rfl (.ro 2 rfl)) ?_
  obtain ⟨z2, hz2, hm⟩ := bindS hm
  refine lp rfl (p_shl hz2 rfl rfl) ?_
  refine lp rfl (p_mv rfl) ?_
  refine lj_seq ?_
  refine cj_nil R3 ?_
  obtain ⟨L55, hL55, hm⟩ := bindS hm
  obtain ⟨f10, hf10, hm⟩ := bindS hm
  refine cj_range (γ := SV) (m := z2) hf10 nilS (fun u7 g8 => [(1, .int .i64 a1), (2, .pointer (some ⟨b1, 0, none⟩)), (4, .slice none 0 0), (5, g8.v), (6, .int .i64 u7.1), (7, .int .i64 u7.2.1)]) (fun u7 g8 => Sat w0 (keys ([] : List Ent)) A [.box b1 28 [s0_0_.v, .int .i64 a0.Change, .int .i64 a0.Clap, .int .i64 a0.Break, .int .i64 (-1)], .ro (Lk N63 a0.Items xg0_0_), .ro (RdS N63.R (SV.v s0_0_) xg0_0_), .row R3 (SV.v g8) u7.2.2]) ⟨rfl, rfl, rfl, rfl, rfl, rfl, rfl, rfl, trivial⟩ (fun _ h => h.picks [1, 1, 1, 0] rfl) (rangeI_spec hL55).1 (fun _ _ => (rangeI_spec hL55).2) (fun _ _ => ⟨rfl, rfl, rfl, rfl⟩) ⟨rfl, rfl, rfl, rfl, rfl⟩ rfl rfl rfl (fun u7 g8 e => ?_) (fun aftk9 i3 x4 u7 g8 k9 hx5 hs J hJk9 hBk9 hX I cnk9 => ?_)
  · have hm := Flow.fin_b e hm
    refine nj_seq ?_
    refine cj_seq ?_
    refine cj_reg ?_
    refine lp rfl (p_as rfl) ?_
    refine lj_seq ?_
    refine cj_seq ?_
    refine cj_seq ?_
    refine cj_reg ?_
    refine lp rfl (p_mv rfl) ?_
    refine lp rfl (p_len Tryd.underlying22 rfl (.row 3 rfl)) ?_
    refine lp rfl (p_mv rfl) ?_
    refine lj_seq ?_
    refine cj_nil R9 ?_
    obtain ⟨f48, hf48, hm⟩ := bindS hm
    refine cj_range (γ := SV) (m := (u7.2.2.length : Int)) hf48 nilS (fun u45 g46 => [(2, .pointer (some ⟨b1, 0, none⟩)), (4, .slice none 0 0), (15, g46.v), (89, g8.v)]) (fun u45 g46 => Sat w0 (keys ([] : List Ent)) A [.box b1 28 [s0_0_.v, .int .i64 a0.Change, .int .i64 a0.Clap, .int .i64 a0.Break, .int .i64 (-1)], .ro (Lk N63 a0.Items xg0_0_), .ro (RdS N63.R (SV.v s0_0_) xg0_0_), .row R3 (SV.v g8) u7.2.2, .row R9 (SV.v g46) u45]) ⟨rfl, rfl, rfl, rfl, rfl, rfl, trivial⟩ (fun _ h => h.picks [1, 1, 1, 1, 0] rfl) (nat_lt _) (fun _ h => (FactAt.get (.row 4 rfl) h).1) (fun _ _ => ⟨rfl, rfl, rfl, rfl⟩) ⟨rfl, rfl, rfl, rfl, rfl⟩ rfl rfl rfl (fun u45 g46 e => ?_) (fun aftk47 i41 x42 u45 g46 k47 hx43 hs J hJk47 hBk47 hX I cnk47 => ?_)
    · have hm := Flow.fin_b e hm
      refine nj_seq ?_
      refine cj_seq ?_
      refine cj_reg ?_
      refine lp rfl (p_mv rfl) ?_
      refine lp rfl (p_as rfl) ?_
      refine lj_seq ?_
      obtain rfl := Option.some.inj hm
      exact cj_rt g46 [4] Tryd.results38 (.tmp rfl .nil) rfl rfl
    · have hRk47 : ∀ t, k47 = .ret t → some t = some r := fun t e => by rw [hX t e] at hm; exact hm
      have hm := hs
      refine cj_seq ?_
      refine cj_reg ?_
      refine lp rfl (p_idx Tryd.underlying22 ty3 rfl rfl (.row 3 rfl) (getI_nat.trans hx43)) ?_
      refine lp rfl (p_lde (o := 0) ty3 rfl rfl (.row 3 rfl) hx43 rfl) ?_
      refine lp rfl (p_as rfl) ?_
      refine lj_seq ?_
      refine cj_reg ?_
      refine lp rfl (p_mv rfl) ?_
      refine lp rfl (p_fab fl28_0 rfl) ?_
      refine lp rfl (p_lbs ty26 rfl (j := 0) rfl rfl) ?_
      refine lp rfl (p_mv rfl) ?_
      obtain ⟨e50, he50, hm⟩ := bindS hm
      obtain ⟨ge50, he50G⟩ := lk_getI hL0_0_ he50
      refine lp rfl (p_idx Tryd.underlying26 ty63 rfl rfl (.ro 2 rfl) he50G) ?_
      refine lp rfl (p_fae fl63_0 rfl (.ro 2 rfl) (getI_spec he50G).2) ?_
      refine lp rfl (p_lde (o := 0) ty9 rfl rfl (.ro 2 rfl) (getI_spec he50G).2 rfl) ?_
      refine r_bs R9 [e50.Key] rfl rfl rfl (fun _ => by kernel_rfl) rfl (fun s51 => ?_)
      obtain ⟨q52, hq52, hm⟩ := bindS hm
      refine r_app (k := 5) Tryd.underlying49 ty9 rfl rfl rfl rfl (.row 0 rfl) hq52 rfl (fun s53 => ?_)
      refine lp rfl (p_as rfl) ?_
      refine lj_nil ?_
      refine nj_blk ?_
      exact cnk47 _ _ q52 s53 (hJk47 _ (Option.some.inj hm).symm) ⟨rfl, rfl, rfl, rfl, rfl, rfl, trivial⟩ (fun _ h => h.picks [1, 1, 1, 1, 1] rfl)
  · have hRk9 : ∀ t, k9 = .ret t → some t = some r := fun t e => by rw [hX t e] at hm; exact hm
    have hm := hs
    refine cj_seq ?_
    refine cj_reg ?_
    refine lp rfl (p_mv rfl) ?_
    refine lp rfl (p_as rfl) ?_
    refine lj_seq ?_
    refine cj_seq ?_
    refine cj_reg ?_
    refine lp rfl (p_lbw ty28 rfl (j := 0) rfl rfl) ?_
    refine r_al ty28 rfl (fun b12 => ?_)
    refine r_sb (vs := [s0_0_.v, .int .i64 a0.Change, .int .i64 a0.Clap, .int .i64 a0.Break, .int .i64 (-1)]) (j := 0) ty28 rfl rfl rfl rfl rfl rfl rfl ?_
    refine lj_seq ?_
    refine cj_seq ?_
    refine cj_reg ?_
    refine lp rfl (p_fab fl28_0 rfl) ?_
    refine r_sb (vs := [.slice none 0 0]) (j := 0) ty26 rfl rfl rfl rfl rfl rfl rfl ?_
    refine lj_seq ?_
    refine cj_seq ?_
    refine cj_reg ?_
    refine lp rfl (p_as rfl) ?_
    refine lj_seq ?_
    refine cj_seq ?_
    refine cj_seq ?_
    refine cj_reg ?_
    refine lp rfl (p_fab fl28_0 rfl) ?_
    refine lp rfl (p_lbs ty26 rfl (j := 1) rfl rfl) ?_
    refine lp rfl (p_lenG hL0_0_ Tryd.underlying26 rfl (.ro 3 rfl)) ?_
    refine lp rfl (p_mv rfl) ?_
    refine lj_seq ?_
    refine cj_nil R3 ?_
    refine cj_fact (F := Lk N63 [] []) (.nilL N63) ?_
    refine cj_nil N63.R ?_
    obtain ⟨f21, hf21, hm⟩ := bindS hm
    refine cj_range (γ := (SV × SV × List (TItem × SV))) (m := (a0.Items.length : Int)) hf21 (nilS, nilS, []) (fun u18 g19 => [(1, .int .i64 a1), (2, .pointer (some ⟨b1, 0, none⟩)), (4, .slice none 0 0), (5, g8.v), (6, .int .i64 u7.1), (7, .int .i64 u7.2.1), (8, .int .i64 (i3 : Int)), (9, .pointer (some ⟨b12, 0, none⟩)), (10, g19.1.v), (22, .int .i64 z2), (23, .int .i64 (i3 : Int)), (29, s0_0_.v)]) (fun u18 g19 => Sat w0 (keys ([] : List Ent)) A [.box b12 28 [g19.2.1.v, .int .i64 a0.Change, .int .i64 a0.Clap, .int .i64 a0.Break, .int .i64 (-1)], .box b1 28 [s0_0_.v, .int .i64 a0.Change, .int .i64 a0.Clap, .int .i64 a0.Break, .int .i64 (-1)], .ro (Lk N63 a0.Items xg0_0_), .ro (RdS N63.R (SV.v s0_0_) xg0_0_), .row R3 (SV.v g8) u7.2.2, .row R3 (SV.v g19.1) u18.1, .row N63.R (SV.v g19.2.1) g19.2.2, .ro (Lk N63 u18.2 g19.2.2)]) ⟨rfl, rfl, rfl, rfl, rfl, rfl, rfl, rfl, rfl, rfl, rfl, rfl, rfl, rfl, trivial⟩ (fun _ h => h.picks [3, 3, 3, 3, 3, 2, 0, 0] rfl) (nat_lt _) (fun _ h => by have h1 := (FactAt.get (.ro 6 rfl) h).1; rw [lk_len hL0_0_] at h1; exact h1) (fun _ _ => ⟨rfl, rfl, rfl, rfl⟩) ⟨rfl, rfl, rfl, rfl, rfl⟩ rfl rfl rfl (fun u18 g19 e => ?_) (fun aftk20 i13 x14 u18 g19 k20 hx15 hs J hJk20 hBk20 hX I cnk20 => ?_)
    · have hm := Flow.fin_b e hm
      refine nj_pure (F := Lk N63 u18.2 g19.2.2) (.ro 7 rfl) (fun _ h => h.1) (fun hLu18_K34 => ?_)
      refine nj_seq ?_
      refine cj_seq ?_
      refine cj_reg ?_
      refine lp rfl (p_mv rfl) ?_
      refine lp rfl (p_len Tryd.underlying22 rfl (.row 5 rfl)) ?_
      refine lp rfl (p_lbw ty28 rfl (j := 0) rfl rfl) ?_
      obtain ⟨y35, hy35, hm⟩ := bindS hm
      refine r_call [] cf13 rfl rfl (ok_gleeref2_LongOfProgram (TProgram.mk u18.2 a0.Change a0.Clap a0.Break (-1)) g19.2.1 g19.2.2 hy35) rfl rfl (.cons (.ro 7 rfl) (.cons (.row 6 rfl) .nil)) (fun _ => rfl) rfl (fun _ => ?_)
      refine lp rfl (p_as rfl) ?_
      refine lp rfl (p_as rfl) ?_
      refine lj_seq ?_
      refine cj_seq ?_
      refine cj_reg ?_
      obtain ⟨k38, hk38, hm⟩ := bindS hm
      have hRk38 : ∀ t, k38 = .inr t → some t = some k9 := fun t e => by rw [e] at hm; exact hm
      refine lj_join (σ := Bool) (γ := Unit) (fun u36 => k38 = .inl u36) (fun u36 g37 => [(1, .int .i64 a1), (2, .pointer (some ⟨b1, 0, none⟩)), (4, .slice none 0 0), (5, g8.v), (6, .int .i64 u7.1), (7, .int .i64 u7.2.1), (10, g19.1.v), (13, .int .i64 (u18.1.length : Int)), (14, .int .i64 y35), (22, .int .i64 z2), (23, .int .i64 (i3 : Int)), (84, .bool u36)]) (fun u36 g37 => Sat w0 (keys ([] : List Ent)) A [.box b1 28 [s0_0_.v, .int .i64 a0.Change, .int .i64 a0.Clap, .int .i64 a0.Break, .int .i64 (-1)], .ro (Lk N63 a0.Items xg0_0_), .ro (RdS N63.R (SV.v s0_0_) xg0_0_), .row R3 (SV.v g8) u7.2.2, .row R3 (SV.v g19.1) u18.1]) (fun u36 g37 hq => ?_) (fun J cnk38 => ?_)
      · have hm := Sum.fin_l hq hm
        refine cj_if (b := u36) rfl (fun hb => ?_) (fun hb => ?_)
        · have hm := ifB_t hb hm
          refine cj_reg ?_
          refine lp rfl (p_mv rfl) ?_
          refine lp rfl (p_mv rfl) ?_
          refine lp rfl (p_mv rfl) ?_
          refine lp rfl (p_as rfl) ?_
          refine lp rfl (p_as rfl) ?_
          refine lp rfl (p_as rfl) ?_
          refine lj_nil ?_
          refine nj_blk ?_
          exact cnk9 _ _ ((u18.1.length : Int), y35, u18.1) g19.1 (hJk9 _ (Option.some.inj hm).symm) ⟨rfl, rfl, rfl, rfl, rfl, rfl, rfl, rfl, trivial⟩ (fun _ h => h.picks [0, 0, 0, 1] rfl)
        · have hm := ifB_f hb hm
          refine cj_skip ?_
          refine nj_blk ?_
          exact cnk9 _ _ (u7.1, u7.2.1, u7.2.2) g8 (hJk9 _ (Option.some.inj hm).symm) ⟨rfl, rfl, rfl, rfl, rfl, rfl, rfl, rfl, trivial⟩ (fun _ h => h.picks [0, 0, 0, 0] rfl)
      · have hm := hk38
        refine lp rfl (p_mv rfl) ?_
        refine lp rfl (p_mv rfl) ?_
        refine lp rfl (p_leq rfl rfl) ?_
        refine lp rfl (p_mv rfl) ?_
        refine lcase (i := 59) (decide (y35 ≤ a1)) rfl (fun hb => ?_) (fun hb => ?_)
        · have hm := ifB_t hb hm
          refine lg true rfl rfl rfl ?_
          refine lp rfl (p_mv rfl) ?_
          refine lg true rfl rfl rfl ?_
          refine lp rfl (p_mv rfl) ?_
          refine lg true rfl rfl rfl ?_
          refine lp rfl (p_gtr rfl rfl) ?_
          refine lg true rfl rfl rfl ?_
          refine lp rfl (p_mv rfl) ?_
          refine lcase (i := 63) (decide ((u18.1.length : Int) > u7.1)) rfl (fun hb => ?_) (fun hb => ?_)
          · have hm := ifB_t hb hm
            refine ls false rfl rfl rfl rfl ?_
            refine ls false rfl rfl rfl rfl ?_
            refine ls false rfl rfl rfl rfl ?_
            refine ls false rfl rfl rfl rfl ?_
            refine lsu rfl rfl rfl rfl ?_
            refine lsu rfl rfl rfl rfl ?_
            refine lsu rfl rfl rfl rfl ?_
            refine lsu rfl rfl rfl rfl ?_
            refine lsu rfl rfl rfl rfl ?_
            refine lsu rfl rfl rfl rfl ?_
            refine lsu rfl rfl rfl rfl ?_
            refine lsu rfl rfl rfl rfl ?_
            refine lsu rfl rfl rfl rfl ?_
            refine lsu rfl rfl rfl rfl ?_
            refine lsu rfl rfl rfl rfl ?_
            refine lsu rfl rfl rfl rfl ?_
            refine lsu rfl rfl rfl rfl ?_
            refine lsu rfl rfl rfl rfl ?_
            refine ls false rfl rfl rfl rfl ?_
            refine lg true rfl rfl rfl ?_
            refine lp rfl (p_pkt rfl rfl) ?_
            refine lp rfl (p_pkt rfl rfl) ?_
            refine lj_nil ?_
            exact cnk38 _ _ true () (Option.some.inj hm).symm ⟨rfl, rfl, rfl, rfl, rfl, rfl, rfl, rfl, rfl, rfl, rfl, rfl, trivial⟩ (fun _ h => h.picks [1, 1, 1, 1, 1] rfl)
          · have hm := ifB_f hb hm
            refine lg false rfl rfl rfl ?_
            refine lp rfl (p_mv rfl) ?_
            refine lg false rfl rfl rfl ?_
            refine lp rfl (p_mv rfl) ?_
            refine lg false rfl rfl rfl ?_
            refine lp rfl (p_eql rfl rfl) ?_
            refine lg false rfl rfl rfl ?_
            refine lp rfl (p_mv rfl) ?_
            refine lcase (i := 67) ((u18.1.length : Int) == u7.1) rfl (fun hb => ?_) (fun hb => ?_)
            · have hm := ifB_t hb hm
              refine lg true rfl rfl rfl ?_
              refine lp rfl (p_mv rfl) ?_
              refine lg true rfl rfl rfl ?_
              refine lp rfl (p_mv rfl) ?_
              refine lg true rfl rfl rfl ?_
              refine lp rfl (p_gtr rfl rfl) ?_
              refine lg true rfl rfl rfl ?_
              refine lp rfl (p_mv rfl) ?_
              refine lcase (i := 71) (decide (y35 > u7.2.1)) rfl (fun hb => ?_) (fun hb => ?_)
              · have hm := ifB_t hb hm
                refine ls false rfl rfl rfl rfl ?_
                refine ls false rfl rfl rfl rfl ?_
                refine ls false rfl rfl rfl rfl ?_
                refine ls false rfl rfl rfl rfl ?_
                refine lsu rfl rfl rfl rfl ?_
                refine lsu rfl rfl rfl rfl ?_
                refine lsu rfl rfl rfl rfl ?_
                refine lsu rfl rfl rfl rfl ?_
                refine ls false rfl rfl rfl rfl ?_
                refine lg true rfl rfl rfl ?_
                refine lp rfl (p_pkt rfl rfl) ?_
                refine lg false rfl rfl rfl ?_
                refine lp rfl (p_pkt rfl rfl) ?_
                refine lg true rfl rfl rfl ?_
                refine lp rfl (p_pkf rfl rfl) ?_
                refine lp rfl (p_pkt rfl rfl) ?_
                refine lj_nil ?_
                exact cnk38 _ _ true () (Option.some.inj hm).symm ⟨rfl, rfl, rfl, rfl, rfl, rfl, rfl, rfl, rfl, rfl, rfl, rfl, trivial⟩ (fun _ h => h.picks [1, 1, 1, 1, 1] rfl)
              · have hm := ifB_f hb hm
                refine lg false rfl rfl rfl ?_
                refine lp rfl (p_mv rfl) ?_
                refine lg false rfl rfl rfl ?_
                refine lp rfl (p_mv rfl) ?_
                refine lg false rfl rfl rfl ?_
                refine lp rfl (p_eql rfl rfl) ?_
                refine lg false rfl rfl rfl ?_
                refine lp rfl (p_mv rfl) ?_
                refine lcase (i := 75) (y35 == u7.2.1) rfl (fun hb => ?_) (fun hb => ?_)
                · have hm := ifB_t hb hm
                  refine lg true rfl rfl rfl ?_
                  refine lp rfl (p_mv rfl) ?_
                  refine lg true rfl rfl rfl ?_
                  refine lp rfl (p_mv rfl) ?_
                  refine lg true rfl rfl rfl ?_
                  obtain ⟨y39, hy39, hm⟩ := bindS hm
                  refine r_call [] cf64 rfl rfl (ok_slices_Compare_int_int g19.1 u18.1 g8 u7.2.2 hy39) rfl rfl (.cons (.row 5 rfl) (.cons (.row 4 rfl) .nil)) (fun _ => rfl) rfl (fun _ => ?_)
                  refine lg true rfl rfl rfl ?_
                  refine lp rfl (p_lss rfl rfl) ?_
                  refine lg false rfl rfl rfl ?_
                  refine lp rfl (p_pkt rfl rfl) ?_
                  refine lg true rfl rfl rfl ?_
                  refine lp rfl (p_pkf rfl rfl) ?_
                  refine lg false rfl rfl rfl ?_
                  refine lp rfl (p_pkt rfl rfl) ?_
                  refine lg true rfl rfl rfl ?_
                  refine lp rfl (p_pkf rfl rfl) ?_
                  refine lp rfl (p_pkt rfl rfl) ?_
                  refine lj_nil ?_
                  exact cnk38 _ _ (decide (y39 < 0)) () (Option.some.inj hm).symm ⟨rfl, rfl, rfl, rfl, rfl, rfl, rfl, rfl, rfl, rfl, rfl, rfl, trivial⟩ (fun _ h => h.picks [1, 1, 1, 1, 1] rfl)
                · have hm := ifB_f hb hm
                  refine ls true rfl rfl rfl rfl ?_
                  refine ls true rfl rfl rfl rfl ?_
                  refine ls true rfl rfl rfl rfl ?_
                  refine ls true rfl rfl rfl rfl ?_
                  refine lg false rfl rfl rfl ?_
                  refine lp rfl (p_pkf rfl rfl) ?_
                  refine lg true rfl rfl rfl ?_
                  refine lp rfl (p_pkf rfl rfl) ?_
                  refine lg false rfl rfl rfl ?_
                  refine lp rfl (p_pkt rfl rfl) ?_
                  refine lg true rfl rfl rfl ?_
                  refine lp rfl (p_pkf rfl rfl) ?_
                  refine lp rfl (p_pkt rfl rfl) ?_
                  refine lj_nil ?_
                  exact cnk38 _ _ false () (Option.some.inj hm).symm ⟨rfl, rfl, rfl, rfl, rfl, rfl, rfl, rfl, rfl, rfl, rfl, rfl, trivial⟩ (fun _ h => h.picks [1, 1, 1, 1, 1] rfl)
            · have hm := ifB_f hb hm
              refine ls true rfl rfl rfl rfl ?_
              refine ls true rfl rfl rfl rfl ?_
              refine ls true rfl rfl rfl rfl ?_
              refine ls true rfl rfl rfl rfl ?_
              refine lsu rfl rfl rfl rfl ?_
              refine lsu rfl rfl rfl rfl ?_
              refine lsu rfl rfl rfl rfl ?_
              refine lsu rfl rfl rfl rfl ?_
              refine lsu rfl rfl rfl rfl ?_
              refine lsu rfl rfl rfl rfl ?_
              refine lsu rfl rfl rfl rfl ?_
              refine lsu rfl rfl rfl rfl ?_
              refine lsu rfl rfl rfl rfl ?_
              refine ls true rfl rfl rfl rfl ?_
              refine lg false rfl rfl rfl ?_
              refine lp rfl (p_pkf rfl rfl) ?_
              refine lg true rfl rfl rfl ?_
              refine lp rfl (p_pkf rfl rfl) ?_
              refine lp rfl (p_pkt rfl rfl) ?_
              refine lj_nil ?_
              exact cnk38 _ _ false () (Option.some.inj hm).symm ⟨rfl, rfl, rfl, rfl, rfl, rfl, rfl, rfl, rfl, rfl, rfl, rfl, trivial⟩ (fun _ h => h.picks [1, 1, 1, 1, 1] rfl)
        · have hm := ifB_f hb hm
          refine ls true rfl rfl rfl rfl ?_
          refine ls true rfl rfl rfl rfl ?_
          refine ls true rfl rfl rfl rfl ?_
          refine ls true rfl rfl rfl rfl ?_
          refine lsu rfl rfl rfl rfl ?_
          refine lsu rfl rfl rfl rfl ?_
          refine lsu rfl rfl rfl rfl ?_
          refine lsu rfl rfl rfl rfl ?_
          refine lsu rfl rfl rfl rfl ?_
          refine lsu rfl rfl rfl rfl ?_
          refine lsu rfl rfl rfl rfl ?_
          refine lsu rfl rfl rfl rfl ?_
          refine lsu rfl rfl rfl rfl ?_
          refine lsu rfl rfl rfl rfl ?_
          refine lsu rfl rfl rfl rfl ?_
          refine lsu rfl rfl rfl rfl ?_
          refine lsu rfl rfl rfl rfl ?_
          refine lsu rfl rfl rfl rfl ?_
          refine lsu rfl rfl rfl rfl ?_
          refine lsu rfl rfl rfl rfl ?_
          refine lsu rfl rfl rfl rfl ?_
          refine lsu rfl rfl rfl rfl ?_
          refine lsu rfl rfl rfl rfl ?_
          refine ls true rfl rfl rfl rfl ?_
          refine lp rfl (p_pkf rfl rfl) ?_
          refine lj_nil ?_
          exact cnk38 _ _ false () (Option.some.inj hm).symm ⟨rfl, rfl, rfl, rfl, rfl, rfl, rfl, rfl, rfl, rfl, rfl, rfl, trivial⟩ (fun _ h => h.picks [1, 1, 1, 1, 1] rfl)
    · have hRk20 : ∀ t, k20 = .ret t → some t = some k9 := fun t e => by rw [hX t e] at hm; exact hm
      have hm := hs
      refine cj_pure (F := Lk N63 u18.2 g19.2.2) (.ro 7 rfl) (fun _ h => h.1) (fun hLu18_K23 => ?_)
      refine cj_seq ?_
      refine cj_reg ?_
      refine lp rfl (p_mv rfl) ?_
      obtain ⟨gx14, hx15G⟩ := lk_get hL0_0_ hx15
      refine lp rfl (p_idx Tryd.underlying26 ty63 rfl rfl (.ro 3 rfl) (getI_nat.trans hx15G)) ?_
      refine lp rfl (p_leaN (cs := [.string x14.Key, .string x14.Places, .int .i64 x14.Long, gx14.v]) ty63 rfl (.ro 3 rfl) hx15G rfl) ?_
      refine r_al ty63 rfl (fun b24 => ?_)
      refine lp rfl (p_as rfl) ?_
      refine r_sb (vs := [.string x14.Key, .string x14.Places, .int .i64 x14.Long, gx14.v]) (j := 0) ty63 rfl rfl rfl rfl rfl rfl rfl ?_
      refine lj_seq ?_
      refine cj_seq ?_
      refine cj_reg ?_
      refine lp rfl (p_mv rfl) ?_
      refine lp rfl (p_mv rfl) ?_
      obtain ⟨z25, hz25, hm⟩ := bindS hm
      refine lp rfl (p_shr hz25 rfl rfl) ?_
      refine lp rfl (p_and rfl rfl) ?_
      refine lp rfl (p_eql rfl rfl) ?_
      refine lj_seq ?_
      refine cj_if (b := (andI z25 1) == 1) rfl (fun hb => ?_) (fun hb => ?_)
      · have hm := ifB_t hb hm
        refine cj_reg ?_
        refine lp rfl (p_fab fl28_0 rfl) ?_
        refine lp rfl (p_lbs ty26 rfl (j := 1) rfl rfl) ?_
        refine lp rfl (p_lbw ty63 rfl (j := 0) rfl rfl) ?_
        refine r_fact (F := Lk N63 [x14] [(x14, gx14)]) (.imp (.and (.imp (.ro 3 rfl) (fun _ h => (Lk.at_ h hx15G))) (.nilL N63)) (fun _ h => Lk.cons h.1 h.2)) ?_
        refine r_bs N63.R [(x14, gx14)] rfl rfl rfl (fun _ => by kernel_rfl) rfl (fun s26 => ?_)
        obtain ⟨q27, hq27, hm⟩ := bindS hm
        refine r_fact (F := Lk N63 q27 (g19.2.2 ++ [(x14, gx14)])) (.imp (.and (.ro 10 rfl) (.ro 1 rfl)) (fun _ h => Lk.app hq27 h.1 h.2)) ?_
        refine r_app (k := 10) Tryd.underlying26 ty63 rfl rfl rfl rfl (.row 1 rfl) (lk_app hq27 hLu18_K23 rfl) rfl (fun s28 => ?_)
        refine lp rfl (p_mv rfl) ?_
        refine lp rfl (p_mv rfl) ?_
        refine r_bs R3 [(i13 : Int)] rfl rfl rfl (fun _ => by kernel_rfl) rfl (fun s30 => ?_)
        obtain ⟨q31, hq31, hm⟩ := bindS hm
        refine r_app (k := 10) Tryd.underlying22 ty3 rfl rfl rfl rfl (.row 0 rfl) hq31 rfl (fun s32 => ?_)
        refine lp rfl (p_fab fl28_0 rfl) ?_
        refine r_sb (vs := [s28.v]) (j := 5) ty26 rfl rfl rfl rfl rfl rfl rfl ?_
        refine lp rfl (p_as rfl) ?_
        refine lj_nil ?_
        refine nj_blk ?_
        exact cnk20 _ _ (q31, q27) (s32, s28, (g19.2.2 ++ [(x14, gx14)])) (hJk20 _ (Option.some.inj hm).symm) ⟨rfl, rfl, rfl, rfl, rfl, rfl, rfl, rfl, rfl, rfl, rfl, rfl, rfl, rfl, trivial⟩ (fun _ h => h.picks [5, 5, 5, 5, 5, 5, 5, 1] rfl)
      · have hm := ifB_f hb hm
        refine cj_skip ?_
        refine nj_blk ?_
        exact cnk20 _ _ (u18.1, u18.2) (g19.1, g19.2.1, g19.2.2) (hJk20 _ (Option.some.inj hm).symm) ⟨rfl, rfl, rfl, rfl, rfl, rfl, rfl, rfl, rfl, rfl, rfl, rfl, rfl, rfl, trivial⟩ (fun _ h => h.picks [1, 1, 1, 1, 1, 1, 1, 1] rfl)
theorem ok_slices_Clone_api_Item_api_Item (s0_ : SV) (xg0_ : List (TItem × SV)) (a0 : (List TItem)) {r : (List TItem)} (hm : m_slices_Clone_api_Item_api_Item a0 = some r) :
    Ctr Tryd.prog 57 [s0_.v].toArray ([] : List Ent) [Lk N63 a0 xg0_, RdS N63.R (SV.v s0_) xg0_] (X := (SV × List (TItem × SV))) (fun s => s.1.v) (fun s => [.row N63.R (SV.v s.1) s.2, .ro (Lk N63 r s.2)]) := by
  unfold m_slices_Clone_api_Item_api_Item at hm
  refine ctr_mk (vs := [(0, s0_.v)]) Tryd.func57 rfl Tryd.ntmps57 rfl ⟨rfl, trivial⟩ (fun w0 A => ?_)
  refine cj_pure (F := Lk N63 a0 xg0_) (.ro 0 rfl) (fun _ h => h.1) (fun hL0_ => ?_)
  refine cj_seq ?_
  refine cj_reg ?_
  refine lp rfl (p_as rfl) ?_
  refine lj_seq ?_
  refine cj_seq ?_
  refine cj_seq ?_
  refine cj_reg ?_
  refine lp rfl (p_mv rfl) ?_
  refine lp rfl (p_eqnil Tryd.underlying26 rfl rfl) ?_
  refine lj_seq ?_
  refine cj_if (b := s0_.a.isNone) rfl (fun hb => ?_) (fun hb => ?_)
  · refine cj_pure (F := RdS N63.R (SV.v s0_) xg0_) (.ro 1 rfl) (fun _ h => h.nil_of hb) (fun h6 => ?_)
    have h6 := (lk_nil hL0_ h6)
    have hm : some [] = some r := by rw [h6, appM_nn] at hm; exact hm
    refine cj_seq ?_
    refine cj_reg ?_
    refine lp rfl (p_as rfl) ?_
    refine lj_seq ?_
    obtain rfl := Option.some.inj hm
    refine cj_fact (F := Lk N63 [] []) (.nilL N63) ?_
    refine cj_nil N63.R ?_
    exact cj_rt (nilS, []) [0, 0] Tryd.results57 (.tmp rfl .nil) rfl rfl
  · refine cj_skip ?_
    refine nj_seq ?_
    refine cj_seq ?_
    refine cj_reg ?_
    refine r_fact (F := Lk N63 [] []) (.nilL N63) ?_
    refine r_bs N63.R ([] : List (TItem × SV)) rfl rfl rfl (fun _ => by kernel_rfl) rfl (fun s2 => ?_)
    refine lp rfl (p_mv rfl) ?_
    obtain ⟨q3, hq3, hm⟩ := bindS hm
    refine r_fact (F := Lk N63 q3 (([] : List (TItem × SV)) ++ xg0_)) (.imp (.and (.ro 1 rfl) (.ro 2 rfl)) (fun _ h => Lk.app hq3 h.1 h.2)) ?_
    refine r_app (k := 1) Tryd.underlying26 ty63 rfl rfl rfl rfl (.ro 4 rfl) (lk_app hq3 rfl hL0_) rfl (fun s4 => ?_)
    refine lp rfl (p_as rfl) ?_
    refine lj_seq ?_
    obtain rfl := Option.some.inj hm
    exact cj_rt (s4, (([] : List (TItem × SV)) ++ xg0_)) [1, 0] Tryd.results57 (.tmp rfl .nil) rfl rfl
theorem ok_gleeref2_EncoresIn_1 (a0 : TItem) (s0_3_ : SV) (b1_ : Nat) (a1_0 : ByteArray) (a1_1 : ByteArray) (a1_2 : Int) (s1_3_ : SV) (a1_3 : (List ByteArray)) (b2_ : Nat) (s2_0_ : SV) (xg2_0_ : List (TItem × SV)) (a2_0 : (List TItem)) (a2_1 : Int) (a2_2 : Int) (a2_3 : Int) (a2_4 : Int) {r : Int} (hm : m_gleeref2_EncoresIn_1 a0 a1_0 a1_1 a1_2 a1_3 a2_0 a2_1 a2_2 a2_3 a2_4 = some r) :
    Ctr Tryd.prog 77 [.agg [.string a0.Key, .string a0.Places, .int .i64 a0.Long, s0_3_.v].toArray, .pointer (some ⟨b1_, 0, none⟩), .pointer (some ⟨b2_, 0, none⟩)].toArray ([] : List Ent) [RdS R9 (SV.v s0_3_) a0.Parts, BoxS b1_ 63 [.string a1_0, .string a1_1, .int .i64 a1_2, s1_3_.v], RdS R9 (SV.v s1_3_) a1_3, BoxS b2_ 28 [s2_0_.v, .int .i64 a2_1, .int .i64 a2_2, .int .i64 a2_3, .int .i64 a2_4], Lk N63 a2_0 xg2_0_, RdS N63.R (SV.v s2_0_) xg2_0_] (X := Unit) (fun _ => .int .i64 r) (fun _ => []) := by
  unfold m_gleeref2_EncoresIn_1 at hm
  refine ctr_mk (vs := [(0, .agg [.string a0.Key, .string a0.Places, .int .i64 a0.Long, s0_3_.v].toArray), (1, .pointer (some ⟨b1_, 0, none⟩)), (2, .pointer (some ⟨b2_, 0, none⟩))]) Tryd.func77 rfl Tryd.ntmps77 rfl ⟨rfl, rfl, rfl, trivial⟩ (fun w0 A => ?_)
  refine cj_pure (F := Lk N63 a2_0 xg2_0_) (.ro 4 rfl) (fun _ h => h.1) (fun hL2_0_ => ?_)
  refine cj_seq ?_
  refine cj_reg ?_
  refine r_bx (cs := [.string a0.Key, .string a0.Places, .int .i64 a0.Long, s0_3_.v]) rfl rfl rfl (fun b1 => ?_)
  refine lp rfl (p_as rfl) ?_
  refine lj_seq ?_
  refine cj_seq ?_
  refine cj_seq ?_
  refine cj_reg ?_
  refine lp rfl (p_fab fl63_1 rfl) ?_
  refine lp rfl (p_lbs ty9 rfl (j := 0) rfl rfl) ?_
  refine lp rfl (p_fab fl63_1 rfl) ?_
  refine lp rfl (p_rbs ty9 rfl (.ro 2 rfl) rfl) ?_
  refine lp rfl (p_nes rfl rfl) ?_
  refine lj_seq ?_
  refine cj_if (b := !(a0.Places.toList == a1_1.toList)) rfl (fun hb => ?_) (fun hb => ?_)
  · have hm := ifB_t hb hm
    refine cj_seq ?_
    refine cj_reg ?_
    refine lp rfl (p_fab fl63_2 rfl) ?_
    refine lp rfl (p_lbs ty3 rfl (j := 0) rfl rfl) ?_
    refine lp rfl (p_fab fl28_1 rfl) ?_
    refine lp rfl (p_rbs ty3 rfl (.ro 4 rfl) rfl) ?_
    refine lp rfl (p_add rfl rfl) ?_
    refine lp rfl (p_as rfl) ?_
    refine lj_seq ?_
    obtain rfl := Option.some.inj hm
    exact cj_rt () [] Tryd.results77 (.tmp rfl .nil) rfl rfl
  · have hm := ifB_f hb hm
    refine cj_skip ?_
    refine nj_seq ?_
    refine cj_seq ?_
    refine cj_reg ?_
    refine lp rfl (p_fab fl63_2 rfl) ?_
    refine lp rfl (p_lbs ty3 rfl (j := 0) rfl rfl) ?_
    refine lp rfl (p_fab fl28_2 rfl) ?_
    refine lp rfl (p_rbs ty3 rfl (.ro 4 rfl) rfl) ?_
    refine lp rfl (p_add rfl rfl) ?_
    refine lp rfl (p_as rfl) ?_
    refine lj_seq ?_
    obtain rfl := Option.some.inj hm
    exact cj_rt () [] Tryd.results77 (.tmp rfl .nil) rfl rfl
theorem ok_gleeref2_EncoresIn_2__gleeref2_EncoresIn_1 (a0 : TItem) (s0_3_ : SV) (b1_ : Nat) (b1_0_c0_ : Nat) (a1_0_c0_0 : ByteArray) (a1_0_c0_1 : ByteArray) (a1_0_c0_2 : Int) (s1_0_c0_3_ : SV) (a1_0_c0_3 : (List ByteArray)) (b1_0_c1_ : Nat) (s1_0_c1_0_ : SV) (xg1_0_c1_0_ : List (TItem × SV)) (a1_0_c1_0 : (List TItem)) (a1_0_c1_1 : Int) (a1_0_c1_2 : Int) (a1_0_c1_3 : Int) (a1_0_c1_4 : Int) (b2_ : Nat) (a2_0 : Int) {r : Bool} (hm : m_gleeref2_EncoresIn_2__gleeref2_EncoresIn_1 a0 a1_0_c0_0 a1_0_c0_1 a1_0_c0_2 a1_0_c0_3 a1_0_c1_0 a1_0_c1_1 a1_0_c1_2 a1_0_c1_3 a1_0_c1_4 a2_0 = some r) :
    Ctr Tryd.prog 79 [.agg [.string a0.Key, .string a0.Places, .int .i64 a0.Long, s0_3_.v].toArray, .pointer (some ⟨b1_, 0, none⟩), .pointer (some ⟨b2_, 0, none⟩)].toArray ([] : List Ent) [RdS R9 (SV.v s0_3_) a0.Parts, BoxS b1_ 109 [.func (.func 77) #[] [.pointer (some ⟨b1_0_c0_, 0, none⟩), .pointer (some ⟨b1_0_c1_, 0, none⟩)].toArray], BoxS b1_0_c0_ 63 [.string a1_0_c0_0, .string a1_0_c0_1, .int .i64 a1_0_c0_2, s1_0_c0_3_.v], RdS R9 (SV.v s1_0_c0_3_) a1_0_c0_3, BoxS b1_0_c1_ 28 [s1_0_c1_0_.v, .int .i64 a1_0_c1_1, .int .i64 a1_0_c1_2, .int .i64 a1_0_c1_3, .int .i64 a1_0_c1_4], Lk N63 a1_0_c1_0 xg1_0_c1_0_, RdS N63.R (SV.v s1_0_c1_0_) xg1_0_c1_0_, BoxS b2_ 3 [.int .i64 a2_0]] (X := Unit) (fun _ => .bool r) (fun _ => []) := by
  unfold m_gleeref2_EncoresIn_2__gleeref2_EncoresIn_1 at hm
  refine ctr_mk (vs := [(0, .agg [.string a0.Key, .string a0.Places, .int .i64 a0.Long, s0_3_.v].toArray), (1, .pointer (some ⟨b1_, 0, none⟩)), (2, .pointer (some ⟨b2_, 0, none⟩))]) Tryd.func79 rfl Tryd.ntmps79 rfl ⟨rfl, rfl, rfl, trivial⟩ (fun w0 A => ?_)
  refine cj_pure (F := Lk N63 a1_0_c1_0 xg1_0_c1_0_) (.ro 5 rfl) (fun _ h => h.1) (fun hL1_0_c1_0_ => ?_)
  refine cj_seq ?_
  refine cj_reg ?_
  refine r_bx (cs := [.string a0.Key, .string a0.Places, .int .i64 a0.Long, s0_3_.v]) rfl rfl rfl (fun b1 => ?_)
  refine lp rfl (p_as rfl) ?_
  refine lj_seq ?_
  refine cj_seq ?_
  obtain ⟨y2, hy2, hm⟩ := bindS hm
  refine cj_anyT [0, 1, 3, 4, 5] [] (Sat w0 (keys ([] : List Ent)) A [.box b1 63 [.string a0.Key, .string a0.Places, .int .i64 a0.Long, s0_3_.v], .ro (RdS R9 (SV.v s0_3_) a0.Parts), .ro (BoxS b1_ 109 [.func (.func 77) #[] [.pointer (some ⟨b1_0_c0_, 0, none⟩), .pointer (some ⟨b1_0_c1_, 0, none⟩)].toArray]), .ro (BoxS b1_0_c0_ 63 [.string a1_0_c0_0, .string a1_0_c0_1, .int .i64 a1_0_c0_2, s1_0_c0_3_.v]), .ro (RdS R9 (SV.v s1_0_c0_3_) a1_0_c0_3), .ro (BoxS b1_0_c1_ 28 [s1_0_c1_0_.v, .int .i64 a1_0_c1_1, .int .i64 a1_0_c1_2, .int .i64 a1_0_c1_3, .int .i64 a1_0_c1_4]), .ro (Lk N63 a1_0_c1_0 xg1_0_c1_0_), .ro (RdS N63.R (SV.v s1_0_c1_0_) xg1_0_c1_0_), .ro (BoxS b2_ 3 [.int .i64 a2_0])]) (Sat w0 (keys ([] : List Ent)) A [.box b1 63 [.string a0.Key, .string a0.Places, .int .i64 a0.Long, s0_3_.v], .ro (RdS R9 (SV.v s0_3_) a0.Parts), .ro (BoxS b1_ 109 [.func (.func 77) #[] [.pointer (some ⟨b1_0_c0_, 0, none⟩), .pointer (some ⟨b1_0_c1_, 0, none⟩)].toArray]), .ro (BoxS b1_0_c0_ 63 [.string a1_0_c0_0, .string a1_0_c0_1, .int .i64 a1_0_c0_2, s1_0_c0_3_.v]), .ro (RdS R9 (SV.v s1_0_c0_3_) a1_0_c0_3), .ro (BoxS b1_0_c1_ 28 [s1_0_c1_0_.v, .int .i64 a1_0_c1_1, .int .i64 a1_0_c1_2, .int .i64 a1_0_c1_3, .int .i64 a1_0_c1_4]), .ro (Lk N63 a1_0_c1_0 xg1_0_c1_0_), .ro (RdS N63.R (SV.v s1_0_c1_0_) xg1_0_c1_0_), .ro (BoxS b2_ 3 [.int .i64 a2_0])]) (by kernel_rfl) ?_
  refine at_take2 0 rfl (by kernel_rfl) (by kernel_rfl) (by kernel_rfl) (fun _ h => h.picks [0, 0, 0, 0, 0, 0, 0, 0, 0] rfl) rfl rfl (p_rbs ty109 rfl (.ro 2 rfl) rfl) (fun _ h => h.picks [0, 0, 0, 0, 0, 0, 0, 0, 0] rfl) ?_
  refine at_take2 1 rfl (by kernel_rfl) (by kernel_rfl) (by kernel_rfl) (fun _ h => h.picks [0, 0, 0, 0, 0, 0, 0, 0, 0] rfl) rfl rfl (p_lbw ty63 rfl (j := 0) rfl rfl) (fun _ h => h.picks [0, 0, 0, 0, 0, 0, 0, 0, 0] rfl) ?_
  refine at_take2 3 rfl (by kernel_rfl) (by kernel_rfl) (by kernel_rfl) (fun _ h => h.picks [0, 0, 0, 0, 0, 0, 0, 0, 0] rfl) rfl rfl (p_rbs ty3 rfl (.ro 8 rfl) rfl) (fun _ h => h.picks [0, 0, 0, 0, 0, 0, 0, 0, 0] rfl) ?_
  refine at_each (rs := [2]) (by kernel_rfl) (by decide) ?_
  refine (.cons rfl (fun I cnI => ?_) .nil)
  · refine r_call [] cf77 rfl rfl (ok_gleeref2_EncoresIn_1 a0 s0_3_ b1_0_c0_ a1_0_c0_0 a1_0_c0_1 a1_0_c0_2 s1_0_c0_3_ a1_0_c0_3 b1_0_c1_ s1_0_c1_0_ xg1_0_c1_0_ a1_0_c1_0 a1_0_c1_1 a1_0_c1_2 a1_0_c1_3 a1_0_c1_4 hy2) rfl rfl (.cons (.ro 1 rfl) (.cons (.ro 3 rfl) (.cons (.ro 4 rfl) (.cons (.ro 5 rfl) (.cons (.ro 6 rfl) (.cons (.ro 7 rfl) .nil)))))) (fun _ => rfl) rfl (fun _ => ?_)
    refine lj_nil ?_
    refine cnI _ _ (sof1 rfl rfl (fun _ h => h.picks [0, 0, 0, 0, 0, 0, 0, 0, 0] rfl)) ?_
    refine at_take2 4 rfl (by kernel_rfl) (by kernel_rfl) (by kernel_rfl) (fun _ h => h.picks [0, 0, 0, 0, 0, 0, 0, 0, 0] rfl) rfl rfl (p_gtr rfl rfl) (fun _ h => h.picks [0, 0, 0, 0, 0, 0, 0, 0, 0] rfl) ?_
    refine at_take2 5 rfl (by kernel_rfl) (by kernel_rfl) (by kernel_rfl) (fun _ h => h.picks [0, 0, 0, 0, 0, 0, 0, 0, 0] rfl) rfl rfl (p_as rfl) (fun _ h => h.picks [0, 0, 0, 0, 0, 0, 0, 0, 0] rfl) ?_
    refine at_done (by kernel_rfl) ?_
    refine nj_seq ?_
    obtain rfl := Option.some.inj hm
    exact cj_rt () [] Tryd.results79 (.tmp rfl .nil) rfl rfl
theorem ok_slices_IndexFunc_api_Item_api_Item__gleeref2_EncoresIn_1__gleeref2_EncoresIn_2 (s0_ : SV) (xg0_ : List (TItem × SV)) (a0 : (List TItem)) (b1_c0_ : Nat) (b1_c0_0_c0_ : Nat) (a1_c0_0_c0_0 : ByteArray) (a1_c0_0_c0_1 : ByteArray) (a1_c0_0_c0_2 : Int) (s1_c0_0_c0_3_ : SV) (a1_c0_0_c0_3 : (List ByteArray)) (b1_c0_0_c1_ : Nat) (s1_c0_0_c1_0_ : SV) (xg1_c0_0_c1_0_ : List (TItem × SV)) (a1_c0_0_c1_0 : (List TItem)) (a1_c0_0_c1_1 : Int) (a1_c0_0_c1_2 : Int) (a1_c0_0_c1_3 : Int) (a1_c0_0_c1_4 : Int) (b1_c1_ : Nat) (a1_c1_0 : Int) {r : Int} (hm : m_slices_IndexFunc_api_Item_api_Item__gleeref2_EncoresIn_1__gleeref2_EncoresIn_2 a0 a1_c0_0_c0_0 a1_c0_0_c0_1 a1_c0_0_c0_2 a1_c0_0_c0_3 a1_c0_0_c1_0 a1_c0_0_c1_1 a1_c0_0_c1_2 a1_c0_0_c1_3 a1_c0_0_c1_4 a1_c1_0 = some r) :
    Ctr Tryd.prog 88 [s0_.v, .func (.func 79) #[] [.pointer (some ⟨b1_c0_, 0, none⟩), .pointer (some ⟨b1_c1_, 0, none⟩)].toArray].toArray ([] : List Ent) [Lk N63 a0 xg0_, RdS N63.R (SV.v s0_) xg0_, BoxS b1_c0_ 109 [.func (.func 77) #[] [.pointer (some ⟨b1_c0_0_c0_, 0, none⟩), .pointer (some ⟨b1_c0_0_c1_, 0, none⟩)].toArray], BoxS b1_c0_0_c0_ 63 [.string a1_c0_0_c0_0, .string a1_c0_0_c0_1, .int .i64 a1_c0_0_c0_2, s1_c0_0_c0_3_.v], RdS R9 (SV.v s1_c0_0_c0_3_) a1_c0_0_c0_3, BoxS b1_c0_0_c1_ 28 [s1_c0_0_c1_0_.v, .int .i64 a1_c0_0_c1_1, .int .i64 a1_c0_0_c1_2, .int .i64 a1_c0_0_c1_3, .int .i64 a1_c0_0_c1_4], Lk N63 a1_c0_0_c1_0 xg1_c0_0_c1_0_, RdS N63.R (SV.v s1_c0_0_c1_0_) xg1_c0_0_c1_0_, BoxS b1_c1_ 3 [.int .i64 a1_c1_0]] (X := Unit) (fun _ => .int .i64 r) (fun _ => []) := by
  unfold m_slices_IndexFunc_api_Item_api_Item__gleeref2_EncoresIn_1__gleeref2_EncoresIn_2 at hm
  refine ctr_mk (vs := [(0, s0_.v), (1, .func (.func 79) #[] [.pointer (some ⟨b1_c0_, 0, none⟩), .pointer (some ⟨b1_c1_, 0, none⟩)].toArray)]) Tryd.func88 rfl Tryd.ntmps88 rfl ⟨rfl, rfl, trivial⟩ (fun w0 A => ?_)
  refine cj_pure (F := Lk N63 a0 xg0_) (.ro 0 rfl) (fun _ h => h.1) (fun hL0_ => ?_)
  refine cj_pure (F := Lk N63 a1_c0_0_c1_0 xg1_c0_0_c1_0_) (.ro 6 rfl) (fun _ h => h.1) (fun hL1_c0_0_c1_0_ => ?_)
  refine cj_seq ?_
  refine cj_reg ?_
  refine lp rfl (p_as rfl) ?_
  refine lj_seq ?_
  refine cj_seq ?_
  refine cj_seq ?_
  refine cj_reg ?_
  refine lp rfl (p_mv rfl) ?_
  refine lp rfl (p_lenG hL0_ Tryd.underlying26 rfl (.ro 1 rfl)) ?_
  refine lp rfl (p_mv rfl) ?_
  refine lj_seq ?_
  obtain ⟨f7, hf7, hm⟩ := bindS hm
  refine cj_range (γ := Unit) (m := (a0.length : Int)) hf7 () (fun u4 g5 => [(0, s0_.v), (1, .func (.func 79) #[] [.pointer (some ⟨b1_c0_, 0, none⟩), .pointer (some ⟨b1_c1_, 0, none⟩)].toArray), (4, .int .i64 0)]) (fun u4 g5 => Sat w0 (keys ([] : List Ent)) A [.ro (Lk N63 a0 xg0_), .ro (RdS N63.R (SV.v s0_) xg0_), .ro (BoxS b1_c0_ 109 [.func (.func 77) #[] [.pointer (some ⟨b1_c0_0_c0_, 0, none⟩), .pointer (some ⟨b1_c0_0_c1_, 0, none⟩)].toArray]), .ro (BoxS b1_c0_0_c0_ 63 [.string a1_c0_0_c0_0, .string a1_c0_0_c0_1, .int .i64 a1_c0_0_c0_2, s1_c0_0_c0_3_.v]), .ro (RdS R9 (SV.v s1_c0_0_c0_3_) a1_c0_0_c0_3), .ro (BoxS b1_c0_0_c1_ 28 [s1_c0_0_c1_0_.v, .int .i64 a1_c0_0_c1_1, .int .i64 a1_c0_0_c1_2, .int .i64 a1_c0_0_c1_3, .int .i64 a1_c0_0_c1_4]), .ro (Lk N63 a1_c0_0_c1_0 xg1_c0_0_c1_0_), .ro (RdS N63.R (SV.v s1_c0_0_c1_0_) xg1_c0_0_c1_0_), .ro (BoxS b1_c1_ 3 [.int .i64 a1_c1_0])]) ⟨rfl, rfl, rfl, rfl, rfl, trivial⟩ (fun _ h => h.picks [0, 0, 0, 0, 0, 0, 0, 0, 0] rfl) (nat_lt _) (fun _ h => by have h1 := (FactAt.get (.ro 1 rfl) h).1; rw [lk_len hL0_] at h1; exact h1) (fun _ _ => ⟨rfl, rfl, rfl, rfl⟩) ⟨rfl, rfl, rfl, rfl, rfl⟩ rfl rfl rfl (fun u4 g5 e => ?_) (fun aftk6 i1 x2 u4 g5 k6 hx3 hs J hJk6 hBk6 hX I cnk6 => ?_)
  · have hm := Flow.fin_b e hm
    refine nj_seq ?_
    refine cj_seq ?_
    refine cj_reg ?_
    refine lp rfl (p_as rfl) ?_
    refine lj_seq ?_
    obtain rfl := Option.some.inj hm
    exact cj_rt () [] Tryd.results88 (.tmp rfl .nil) rfl rfl
  · have hRk6 : ∀ t, k6 = .ret t → some t = some r := fun t e => by rw [hX t e] at hm; exact hm
    have hm := hs
    refine cj_seq ?_
    refine cj_reg ?_
    refine lp rfl (p_mv rfl) ?_
    refine lp rfl (p_as rfl) ?_
    refine lj_seq ?_
    refine cj_seq ?_
    refine cj_reg ?_
    refine lp rfl (p_mv rfl) ?_
    refine lp rfl (p_mv rfl) ?_
    refine lp rfl (p_mv rfl) ?_
    obtain ⟨gx2, hx3G⟩ := lk_get hL0_ hx3
    refine lp rfl (p_idx Tryd.underlying26 ty63 rfl rfl (.ro 1 rfl) (getI_nat.trans hx3G)) ?_
    refine lp rfl (p_leaN (cs := [.string x2.Key, .string x2.Places, .int .i64 x2.Long, gx2.v]) ty63 rfl (.ro 1 rfl) hx3G rfl) ?_
    obtain ⟨y8, hy8, hm⟩ := bindS hm
    refine r_call [] cf79 rfl rfl (ok_gleeref2_EncoresIn_2__gleeref2_EncoresIn_1 x2 gx2 b1_c0_ b1_c0_0_c0_ a1_c0_0_c0_0 a1_c0_0_c0_1 a1_c0_0_c0_2 s1_c0_0_c0_3_ a1_c0_0_c0_3 b1_c0_0_c1_ s1_c0_0_c1_0_ xg1_c0_0_c1_0_ a1_c0_0_c1_0 a1_c0_0_c1_1 a1_c0_0_c1_2 a1_c0_0_c1_3 a1_c0_0_c1_4 b1_c1_ a1_c1_0 hy8) rfl rfl (.cons (.imp (.ro 0 rfl) (fun _ h => (Lk.at_ h hx3G))) (.cons (.ro 2 rfl) (.cons (.ro 3 rfl) (.cons (.ro 4 rfl) (.cons (.ro 5 rfl) (.cons (.ro 6 rfl) (.cons (.ro 7 rfl) (.cons (.ro 8 rfl) .nil)))))))) (fun _ => rfl) rfl (fun _ => ?_)
    refine lj_seq ?_
    refine cj_if (b := y8) rfl (fun hb => ?_) (fun hb => ?_)
    · have hm := ifB_t hb hm
      refine cj_seq ?_
      refine cj_reg ?_
      refine lp rfl (p_mv rfl) ?_
      refine lp rfl (p_as rfl) ?_
      refine lj_seq ?_
      have hm := hRk6 _ (Option.some.inj hm).symm
      obtain rfl := Option.some.inj hm
      exact cj_rt () [] Tryd.results88 (.tmp rfl .nil) rfl rfl
    · have hm := ifB_f hb hm
      refine cj_skip ?_
      refine nj_blk ?_
      exact cnk6 _ _ () () (hJk6 _ (Option.some.inj hm).symm) ⟨rfl, rfl, rfl, rfl, rfl, trivial⟩ (fun _ h => h.picks [0, 0, 0, 0, 0, 0, 0, 0, 0] rfl)
theorem ok_slices_DeleteFunc_api_Item_api_Item__gleeref2_EncoresIn_1__gleeref2_EncoresIn_2 (s0_ : SV) (xg0_ : List (TItem × SV)) (a0 : (List TItem)) (b1_c0_ : Nat) (b1_c0_0_c0_ : Nat) (a1_c0_0_c0_0 : ByteArray) (a1_c0_0_c0_1 : ByteArray) (a1_c0_0_c0_2 : Int) (s1_c0_0_c0_3_ : SV) (a1_c0_0_c0_3 : (List ByteArray)) (b1_c0_0_c1_ : Nat) (s1_c0_0_c1_0_ : SV) (xg1_c0_0_c1_0_ : List (TItem × SV)) (a1_c0_0_c1_0 : (List TItem)) (a1_c0_0_c1_1 : Int) (a1_c0_0_c1_2 : Int) (a1_c0_0_c1_3 : Int) (a1_c0_0_c1_4 : Int) (b1_c1_ : Nat) (a1_c1_0 : Int) {r : (List TItem)} (hm : m_slices_DeleteFunc_api_Item_api_Item__gleeref2_EncoresIn_1__gleeref2_EncoresIn_2 a0 a1_c0_0_c0_0 a1_c0_0_c0_1 a1_c0_0_c0_2 a1_c0_0_c0_3 a1_c0_0_c1_0 a1_c0_0_c1_1 a1_c0_0_c1_2 a1_c0_0_c1_3 a1_c0_0_c1_4 a1_c1_0 = some r) :
    Ctr Tryd.prog 78 [s0_.v, .func (.func 79) #[] [.pointer (some ⟨b1_c0_, 0, none⟩), .pointer (some ⟨b1_c1_, 0, none⟩)].toArray].toArray [.row N63.R (SV.v s0_) xg0_] [Lk N63 a0 xg0_, BoxS b1_c0_ 109 [.func (.func 77) #[] [.pointer (some ⟨b1_c0_0_c0_, 0, none⟩), .pointer (some ⟨b1_c0_0_c1_, 0, none⟩)].toArray], BoxS b1_c0_0_c0_ 63 [.string a1_c0_0_c0_0, .string a1_c0_0_c0_1, .int .i64 a1_c0_0_c0_2, s1_c0_0_c0_3_.v], RdS R9 (SV.v s1_c0_0_c0_3_) a1_c0_0_c0_3, BoxS b1_c0_0_c1_ 28 [s1_c0_0_c1_0_.v, .int .i64 a1_c0_0_c1_1, .int .i64 a1_c0_0_c1_2, .int .i64 a1_c0_0_c1_3, .int .i64 a1_c0_0_c1_4], Lk N63 a1_c0_0_c1_0 xg1_c0_0_c1_0_, RdS N63.R (SV.v s1_c0_0_c1_0_) xg1_c0_0_c1_0_, BoxS b1_c1_ 3 [.int .i64 a1_c1_0]] (X := (SV × List (TItem × SV))) (fun s => s.1.v) (fun s => [.row N63.R (SV.v s.1) s.2, .ro (Lk N63 r s.2)]) := by
  unfold m_slices_DeleteFunc_api_Item_api_Item__gleeref2_EncoresIn_1__gleeref2_EncoresIn_2 at hm
  refine ctr_mk (vs := [(0, s0_.v), (1, .func (.func 79) #[] [.pointer (some ⟨b1_c0_, 0, none⟩), .pointer (some ⟨b1_c1_, 0, none⟩)].toArray)]) Tryd.func78 rfl Tryd.ntmps78 rfl ⟨rfl, rfl, trivial⟩ (fun w0 A => ?_)
  refine cj_pure (F := Lk N63 a0 xg0_) (.ro 1 rfl) (fun _ h => h.1) (fun hL0_ => ?_)
  refine cj_pure (F := Lk N63 a1_c0_0_c1_0 xg1_c0_0_c1_0_) (.ro 6 rfl) (fun _ h => h.1) (fun hL1_c0_0_c1_0_ => ?_)
  refine cj_seq ?_
  refine cj_reg ?_
  refine lp rfl (p_as rfl) ?_
  refine lj_seq ?_
  refine cj_seq ?_
  refine cj_reg ?_
  refine lp rfl (p_mv rfl) ?_
  refine lp rfl (p_mv rfl) ?_
  obtain ⟨y1, hy1, hm⟩ := bindS hm
  refine r_call [] cf88 rfl rfl (ok_slices_IndexFunc_api_Item_api_Item__gleeref2_EncoresIn_1__gleeref2_EncoresIn_2 s0_ xg0_ a0 b1_c0_ b1_c0_0_c0_ a1_c0_0_c0_0 a1_c0_0_c0_1 a1_c0_0_c0_2 s1_c0_0_c0_3_ a1_c0_0_c0_3 b1_c0_0_c1_ s1_c0_0_c1_0_ xg1_c0_0_c1_0_ a1_c0_0_c1_0 a1_c0_0_c1_1 a1_c0_0_c1_2 a1_c0_0_c1_3 a1_c0_0_c1_4 b1_c1_ a1_c1_0 hy1) rfl rfl (.cons (.ro 1 rfl) (.cons (.row 0 rfl) (.cons (.ro 2 rfl) (.cons (.ro 3 rfl) (.cons (.ro 4 rfl) (.cons (.ro 5 rfl) (.cons (.ro 6 rfl) (.cons (.ro 7 rfl) (.cons (.ro 8 rfl) .nil))))))))) (fun _ => rfl) rfl (fun _ => ?_)
  refine lp rfl (p_as rfl) ?_
  refine lj_seq ?_
  refine cj_seq ?_
  refine cj_seq ?_
  refine cj_reg ?_
  refine lp rfl (p_mv rfl) ?_
  refine lp rfl (p_eql rfl rfl) ?_
  refine lj_seq ?_
  refine cj_if (b := y1 == (-1)) rfl (fun hb => ?_) (fun hb => ?_)
  · have hm := ifB_t hb hm
    refine cj_seq ?_
    refine cj_reg ?_
    refine lp rfl (p_mv rfl) ?_
    refine lp rfl (p_as rfl) ?_
    refine lj_seq ?_
    obtain rfl := Option.some.inj hm
    exact cj_rt (s0_, xg0_) [0, 0] Tryd.results78 (.tmp rfl .nil) rfl rfl
  · have hm := ifB_f hb hm
    refine cj_skip ?_
    refine nj_seq ?_
    refine cj_seq ?_
    refine cj_seq ?_
    refine cj_reg ?_
    refine lp rfl (p_mv rfl) ?_
    refine lp rfl (p_add rfl rfl) ?_
    refine lp rfl (p_as rfl) ?_
    refine lj_seq ?_
    obtain ⟨f5, hf5, hm⟩ := bindS hm
    refine cj_whileA (γ := List (TItem × SV)) hf5 xg0_ (fun u2 g3 => [(0, s0_.v), (1, .func (.func 79) #[] [.pointer (some ⟨b1_c0_, 0, none⟩), .pointer (some ⟨b1_c1_, 0, none⟩)].toArray), (4, .slice none 0 0), (5, .int .i64 u2.1), (6, .int .i64 u2.2.1)]) (fun u2 g3 => Sat w0 (keys [.row N63.R (SV.v s0_) xg0_]) A [.ro (BoxS b1_c0_ 109 [.func (.func 77) #[] [.pointer (some ⟨b1_c0_0_c0_, 0, none⟩), .pointer (some ⟨b1_c0_0_c1_, 0, none⟩)].toArray]), .ro (BoxS b1_c0_0_c0_ 63 [.string a1_c0_0_c0_0, .string a1_c0_0_c0_1, .int .i64 a1_c0_0_c0_2, s1_c0_0_c0_3_.v]), .ro (RdS R9 (SV.v s1_c0_0_c0_3_) a1_c0_0_c0_3), .ro (BoxS b1_c0_0_c1_ 28 [s1_c0_0_c1_0_.v, .int .i64 a1_c0_0_c1_1, .int .i64 a1_c0_0_c1_2, .int .i64 a1_c0_0_c1_3, .int .i64 a1_c0_0_c1_4]), .ro (Lk N63 a1_c0_0_c1_0 xg1_c0_0_c1_0_), .ro (RdS N63.R (SV.v s1_c0_0_c1_0_) xg1_c0_0_c1_0_), .ro (BoxS b1_c1_ 3 [.int .i64 a1_c1_0]), .row N63.R (SV.v s0_) g3, .ro (Lk N63 u2.2.2 g3)]) ⟨rfl, rfl, rfl, rfl, rfl, trivial⟩ (fun _ h => h.picks [2, 2, 2, 2, 2, 2, 2, 0, 0] rfl) (fun u2 g3 e => ?_) (fun aftk4 u2 g3 k4 hs J hJk4 hBk4 hX I cnk4 => ?_)
    · have hm := Flow.fin_b e hm
      refine nj_pure (F := Lk N63 u2.2.2 g3) (.ro 8 rfl) (fun _ h => h.1) (fun hLu2_s0_ => ?_)
      refine nj_seq ?_
      refine cj_seq ?_
      refine cj_reg ?_
      refine lp rfl (p_mv rfl) ?_
      refine lp rfl (p_mv rfl) ?_
      obtain ⟨q11, hq11, hm⟩ := bindS hm
      obtain ⟨q11G, hq11G, hLq11, hsq11⟩ := lk_cut hLu2_s0_ hq11
      refine lp rfl (p_cut Tryd.underlying26 ty63 rfl rfl rfl rfl rfl (.row 7 rfl) rfl (congrArg Int.ofNat (lk_len hLu2_s0_)) hq11G) ?_
      have hLn13L : (clearM ((TItem.mk ByteArray.empty ByteArray.empty 0 []), nilS) g3 u2.1).map Prod.fst = (clearM (TItem.mk ByteArray.empty ByteArray.empty 0 []) u2.2.2 u2.1) := map_clear (f := Prod.fst) (z := ((TItem.mk ByteArray.empty ByteArray.empty 0 []), nilS)) hLu2_s0_
      refine r_fact (F := Lk N63 (clearM (TItem.mk ByteArray.empty ByteArray.empty 0 []) u2.2.2 u2.1) (clearM ((TItem.mk ByteArray.empty ByteArray.empty 0 []), nilS) g3 u2.1)) (.imp (.and (.ro 8 rfl) (.nilS R9)) (fun _ h => h.1.clear h.2)) ?_
      refine r_clear (k := 8) ((TItem.mk ByteArray.empty ByteArray.empty 0 []), nilS) Tryd.underlying26 ty63 rfl rfl rfl hq11G (congrArg Int.ofNat (lk_len hLu2_s0_)).symm ?_
      refine lj_seq ?_
      refine cj_seq ?_
      refine cj_reg ?_
      refine lp rfl (p_mv rfl) ?_
      refine lp rfl (p_mv rfl) ?_
      obtain ⟨q14, hq14, hm⟩ := bindS hm
      obtain ⟨q14G, hq14G, hLq14, hsq14⟩ := lk_cut hLn13L hq14
      refine lp rfl (p_cut Tryd.underlying26 ty63 rfl rfl rfl rfl rfl (.row 8 rfl) rfl rfl hq14G) ?_
      refine lp rfl (p_as rfl) ?_
      refine lj_seq ?_
      obtain rfl := Option.some.inj hm
      refine cj_fact (F := Lk N63 q14 q14G) (.imp (.ro 0 rfl) (fun _ h => Lk.sub h hLq14 hsq14)) ?_
      refine cj_pre 9 rfl rfl hq14G ?_
      exact cj_rt ((s0_.sub N63.R.sz (0 : Int).toNat u2.1.toNat), q14G) [9, 0] Tryd.results78 (.tmp rfl .nil) rfl rfl
    · have hRk4 : ∀ t, k4 = .ret t → some t = some r := fun t e => by rw [hX t e] at hm; exact hm
      have hm := hs
      refine cj_pure (F := Lk N63 u2.2.2 g3) (.ro 8 rfl) (fun _ h => h.1) (fun hLu2_s0_ => ?_)
      refine cj_seq ?_
      refine cj_seq ?_
      refine cj_reg ?_
      refine lp rfl (p_mv rfl) ?_
      refine lp rfl (p_mv rfl) ?_
      refine lp rfl (p_lenG hLu2_s0_ Tryd.underlying26 rfl (.row 7 rfl)) ?_
      refine lp rfl (p_lss rfl rfl) ?_
      refine lj_seq ?_
      refine cj_if (b := decide (u2.2.1 < (u2.2.2.length : Int))) rfl (fun hb => ?_) (fun hb => ?_)
      · have hm := ifB_t hb hm
        refine cj_skip ?_
        refine nj_seq ?_
        refine cj_seq ?_
        refine cj_blk ?_
        refine cj_seq ?_
        refine cj_reg ?_
        refine lp rfl (p_mv rfl) ?_
        refine lp rfl (p_mv rfl) ?_
        obtain ⟨e6, he6, hm⟩ := bindS hm
        obtain ⟨ge6, he6G⟩ := lk_getI hLu2_s0_ he6
        refine lp rfl (p_idx Tryd.underlying26 ty63 rfl rfl (.row 7 rfl) he6G) ?_
        refine lp rfl (p_leaN (cs := [.string e6.Key, .string e6.Places, .int .i64 e6.Long, ge6.v]) ty63 rfl (.row 7 rfl) (getI_spec he6G).2 rfl) ?_
        refine r_al ty63 rfl (fun b7 => ?_)
        refine r_sb (vs := [.string e6.Key, .string e6.Places, .int .i64 e6.Long, ge6.v]) (j := 0) ty63 rfl rfl rfl rfl rfl rfl rfl ?_
        refine lj_seq ?_
        refine cj_seq ?_
        refine cj_reg ?_
        refine lp rfl (p_mv rfl) ?_
        refine lp rfl (p_lbw ty63 rfl (j := 0) rfl rfl) ?_
        obtain ⟨y8, hy8, hm⟩ := bindS hm
        refine r_call [] cf79 rfl rfl (ok_gleeref2_EncoresIn_2__gleeref2_EncoresIn_1 e6 ge6 b1_c0_ b1_c0_0_c0_ a1_c0_0_c0_0 a1_c0_0_c0_1 a1_c0_0_c0_2 s1_c0_0_c0_3_ a1_c0_0_c0_3 b1_c0_0_c1_ s1_c0_0_c1_0_ xg1_c0_0_c1_0_ a1_c0_0_c1_0 a1_c0_0_c1_1 a1_c0_0_c1_2 a1_c0_0_c1_3 a1_c0_0_c1_4 b1_c1_ a1_c1_0 hy8) rfl rfl (.cons (.imp (.ro 9 rfl) (fun _ h => (Lk.at_ h (getI_spec he6G).2))) (.cons (.ro 1 rfl) (.cons (.ro 2 rfl) (.cons (.ro 3 rfl) (.cons (.ro 4 rfl) (.cons (.ro 5 rfl) (.cons (.ro 6 rfl) (.cons (.ro 7 rfl) .nil)))))))) (fun _ => rfl) rfl (fun _ => ?_)
        refine lp rfl (p_not rfl) ?_
        refine lj_seq ?_
        refine cj_if (b := !y8) rfl (fun hb => ?_) (fun hb => ?_)
        · have hm := ifB_t hb hm
          refine cj_seq ?_
          refine cj_reg ?_
          refine lp rfl (p_mv rfl) ?_
          refine lp rfl (p_mv rfl) ?_
          refine lp rfl (p_lbw ty63 rfl (j := 0) rfl rfl) ?_
          obtain ⟨e9, he9, hm⟩ := bindS hm
          obtain ⟨ge9, he9G⟩ := lk_getI hLu2_s0_ he9
          refine lp rfl (p_idx Tryd.underlying26 ty63 rfl rfl (.row 8 rfl) he9G) ?_
          refine r_fact (F := Lk N63 (u2.2.2.set u2.1.toNat e6) (g3.set u2.1.toNat (e6, ge6))) (.imp (.and (.ro 9 rfl) (.imp (.ro 9 rfl) (fun _ h => (Lk.at_ h (getI_spec he6G).2)))) (fun _ h => Lk.set h.1 h.2)) ?_
          refine r_ste (k := 9) (o := 0) (vs := [.string e6.Key, .string e6.Places, .int .i64 e6.Long, ge6.v]) ty63 rfl rfl rfl rfl rfl rfl rfl (getI_spec he9G).2 (e6, ge6) rfl rfl ?_
          refine lj_seq ?_
          refine cj_reg ?_
          refine lp rfl (p_mv rfl) ?_
          refine lp rfl (p_add rfl rfl) ?_
          refine lp rfl (p_as rfl) ?_
          refine lj_nil ?_
          refine nj_blk ?_
          refine nj_seq ?_
          refine cj_reg ?_
          refine lp rfl (p_mv rfl) ?_
          refine lp rfl (p_add rfl rfl) ?_
          refine lp rfl (p_as rfl) ?_
          refine lj_nil ?_
          exact cnk4 _ _ (w64 (u2.1 + 1), w64 (u2.2.1 + 1), (u2.2.2.set u2.1.toNat e6)) (g3.set u2.1.toNat (e6, ge6)) (hJk4 _ (Option.some.inj hm).symm) ⟨rfl, rfl, rfl, rfl, rfl, trivial⟩ (fun _ h => h.picks [2, 2, 2, 2, 2, 2, 2, 2, 0] rfl)
        · have hm := ifB_f hb hm
          refine cj_skip ?_
          refine nj_blk ?_
          refine nj_seq ?_
          refine cj_reg ?_
          refine lp rfl (p_mv rfl) ?_
          refine lp rfl (p_add rfl rfl) ?_
          refine lp rfl (p_as rfl) ?_
          refine lj_nil ?_
          exact cnk4 _ _ (u2.1, w64 (u2.2.1 + 1), u2.2.2) g3 (hJk4 _ (Option.some.inj hm).symm) ⟨rfl, rfl, rfl, rfl, rfl, trivial⟩ (fun _ h => h.picks [1, 1, 1, 1, 1, 1, 1, 1, 1] rfl)
      · have hm := ifB_f hb hm
        refine cj_exit rfl ?_
        exact (aftk4 (u2.1, u2.2.1, u2.2.2) g3 (hBk4 _ (Option.some.inj hm).symm)).sub ⟨rfl, rfl, rfl, rfl, rfl, trivial⟩ (fun _ h => h.picks [0, 0, 0, 0, 0, 0, 0, 0, 0] rfl)
theorem ok_gleeref2_sign (a0 : Int) {r : Int} (hm : m_gleeref2_sign a0 = some r) :
    Ctr Tryd.prog 82 [.int .i64 a0].toArray ([] : List Ent) [] (X := Unit) (fun _ => .int .i64 r) (fun _ => []) := by
  unfold m_gleeref2_sign at hm
  refine ctr_mk (vs := [(0, .int .i64 a0)]) Tryd.func82 rfl Tryd.ntmps82 rfl ⟨rfl, trivial⟩ (fun w0 A => ?_)
  refine cj_seq ?_
  refine cj_reg ?_
  refine lp rfl (p_as rfl) ?_
  refine lj_seq ?_
  refine cj_seq ?_
  refine cj_blk ?_
  refine cj_seq ?_
  refine cj_reg ?_
  refine lp rfl (p_mv rfl) ?_
  refine lp rfl (p_lss rfl rfl) ?_
  refine lp rfl (p_as rfl) ?_
  refine lj_seq ?_
  refine cj_if (b := decide (a0 < 0)) rfl (fun hb => ?_) (fun hb => ?_)
  · have hm := ifB_t hb hm
    refine cj_seq ?_
    refine cj_reg ?_
    refine lp rfl (p_as rfl) ?_
    refine lj_seq ?_
    obtain rfl := Option.some.inj hm
    exact cj_rt () [] Tryd.results82 (.tmp rfl .nil) rfl rfl
  · have hm := ifB_f hb hm
    refine cj_seq ?_
    refine cj_reg ?_
    refine lp rfl (p_mv rfl) ?_
    refine lp rfl (p_gtr rfl rfl) ?_
    refine lp rfl (p_as rfl) ?_
    refine lj_seq ?_
    refine cj_if (b := decide (a0 > 0)) rfl (fun hb => ?_) (fun hb => ?_)
    · have hm := ifB_t hb hm
      refine cj_seq ?_
      refine cj_reg ?_
      refine lp rfl (p_as rfl) ?_
      refine lj_seq ?_
      obtain rfl := Option.some.inj hm
      exact cj_rt () [] Tryd.results82 (.tmp rfl .nil) rfl rfl
    · have hm := ifB_f hb hm
      refine cj_skip ?_
      refine nj_blk ?_
      refine nj_seq ?_
      refine cj_seq ?_
      refine cj_reg ?_
      refine lp rfl (p_as rfl) ?_
      refine lj_seq ?_
      obtain rfl := Option.some.inj hm
      exact cj_rt () [] Tryd.results82 (.tmp rfl .nil) rfl rfl
theorem ok_gleeref2_EncoresIn_3__gleeref2_EncoresIn_1 (a0 : TItem) (s0_3_ : SV) (a1 : TItem) (s1_3_ : SV) (b2_ : Nat) (b2_0_c0_ : Nat) (a2_0_c0_0 : ByteArray) (a2_0_c0_1 : ByteArray) (a2_0_c0_2 : Int) (s2_0_c0_3_ : SV) (a2_0_c0_3 : (List ByteArray)) (b2_0_c1_ : Nat) (s2_0_c1_0_ : SV) (xg2_0_c1_0_ : List (TItem × SV)) (a2_0_c1_0 : (List TItem)) (a2_0_c1_1 : Int) (a2_0_c1_2 : Int) (a2_0_c1_3 : Int) (a2_0_c1_4 : Int) {r : Int} (hm : m_gleeref2_EncoresIn_3__gleeref2_EncoresIn_1 a0 a1 a2_0_c0_0 a2_0_c0_1 a2_0_c0_2 a2_0_c0_3 a2_0_c1_0 a2_0_c1_1 a2_0_c1_2 a2_0_c1_3 a2_0_c1_4 = some r) :
    Ctr Tryd.prog 81 [.agg [.string a0.Key, .string a0.Places, .int .i64 a0.Long, s0_3_.v].toArray, .agg [.string a1.Key, .string a1.Places, .int .i64 a1.Long, s1_3_.v].toArray, .pointer (some ⟨b2_, 0, none⟩)].toArray ([] : List Ent) [RdS R9 (SV.v s0_3_) a0.Parts, RdS R9 (SV.v s1_3_) a1.Parts, BoxS b2_ 109 [.func (.func 77) #[] [.pointer (some ⟨b2_0_c0_, 0, none⟩), .pointer (some ⟨b2_0_c1_, 0, none⟩)].toArray], BoxS b2_0_c0_ 63 [.string a2_0_c0_0, .string a2_0_c0_1, .int .i64 a2_0_c0_2, s2_0_c0_3_.v], RdS R9 (SV.v s2_0_c0_3_) a2_0_c0_3, BoxS b2_0_c1_ 28 [s2_0_c1_0_.v, .int .i64 a2_0_c1_1, .int .i64 a2_0_c1_2, .int .i64 a2_0_c1_3, .int .i64 a2_0_c1_4], Lk N63 a2_0_c1_0 xg2_0_c1_0_, RdS N63.R (SV.v s2_0_c1_0_) xg2_0_c1_0_] (X := Unit) (fun _ => .int .i64 r) (fun _ => []) := by
  unfold m_gleeref2_EncoresIn_3__gleeref2_EncoresIn_1 at hm
  refine ctr_mk (vs := [(0, .agg [.string a0.Key, .string a0.Places, .int .i64 a0.Long, s0_3_.v].toArray), (1, .agg [.string a1.Key, .string a1.Places, .int .i64 a1.Long, s1_3_.v].toArray), (2, .pointer (some ⟨b2_, 0, none⟩))]) Tryd.func81 rfl Tryd.ntmps81 rfl ⟨rfl, rfl, rfl, trivial⟩ (fun w0 A => ?_)
  refine cj_pure (F := Lk N63 a2_0_c1_0 xg2_0_c1_0_) (.ro 6 rfl) (fun _ h => h.1) (fun hL2_0_c1_0_ => ?_)
  refine cj_seq ?_
  refine cj_reg ?_
  refine r_bx (cs := [.string a0.Key, .string a0.Places, .int .i64 a0.Long, s0_3_.v]) rfl rfl rfl (fun b1 => ?_)
  refine r_bx (cs := [.string a1.Key, .string a1.Places, .int .i64 a1.Long, s1_3_.v]) rfl rfl rfl (fun b2 => ?_)
  refine lp rfl (p_as rfl) ?_
  refine lj_seq ?_
  refine cj_seq ?_
  obtain ⟨y3, hy3, hm⟩ := bindS hm
  obtain ⟨y4, hy4, hm⟩ := bindS hm
  obtain ⟨y5, hy5, hm⟩ := bindS hm
  refine cj_anyT [0, 1, 3, 4, 6, 8] [] (Sat w0 (keys ([] : List Ent)) A [.box b2 63 [.string a1.Key, .string a1.Places, .int .i64 a1.Long, s1_3_.v], .box b1 63 [.string a0.Key, .string a0.Places, .int .i64 a0.Long, s0_3_.v], .ro (RdS R9 (SV.v s0_3_) a0.Parts), .ro (RdS R9 (SV.v s1_3_) a1.Parts), .ro (BoxS b2_ 109 [.func (.func 77) #[] [.pointer (some ⟨b2_0_c0_, 0, none⟩), .pointer (some ⟨b2_0_c1_, 0, none⟩)].toArray]), .ro (BoxS b2_0_c0_ 63 [.string a2_0_c0_0, .string a2_0_c0_1, .int .i64 a2_0_c0_2, s2_0_c0_3_.v]), .ro (RdS R9 (SV.v s2_0_c0_3_) a2_0_c0_3), .ro (BoxS b2_0_c1_ 28 [s2_0_c1_0_.v, .int .i64 a2_0_c1_1, .int .i64 a2_0_c1_2, .int .i64 a2_0_c1_3, .int .i64 a2_0_c1_4]), .ro (Lk N63 a2_0_c1_0 xg2_0_c1_0_), .ro (RdS N63.R (SV.v s2_0_c1_0_) xg2_0_c1_0_)]) (Sat w0 (keys ([] : List Ent)) A [.box b2 63 [.string a1.Key, .string a1.Places, .int .i64 a1.Long, s1_3_.v], .box b1 63 [.string a0.Key, .string a0.Places, .int .i64 a0.Long, s0_3_.v], .ro (RdS R9 (SV.v s0_3_) a0.Parts), .ro (RdS R9 (SV.v s1_3_) a1.Parts), .ro (BoxS b2_ 109 [.func (.func 77) #[] [.pointer (some ⟨b2_0_c0_, 0, none⟩), .pointer (some ⟨b2_0_c1_, 0, none⟩)].toArray]), .ro (BoxS b2_0_c0_ 63 [.string a2_0_c0_0, .string a2_0_c0_1, .int .i64 a2_0_c0_2, s2_0_c0_3_.v]), .ro (RdS R9 (SV.v s2_0_c0_3_) a2_0_c0_3), .ro (BoxS b2_0_c1_ 28 [s2_0_c1_0_.v, .int .i64 a2_0_c1_1, .int .i64 a2_0_c1_2, .int .i64 a2_0_c1_3, .int .i64 a2_0_c1_4]), .ro (Lk N63 a2_0_c1_0 xg2_0_c1_0_), .ro (RdS N63.R (SV.v s2_0_c1_0_) xg2_0_c1_0_)]) (by kernel_rfl) ?_
  refine at_take2 0 rfl (by kernel_rfl) (by kernel_rfl) (by kernel_rfl) (fun _ h => h.picks [0, 0, 0, 0, 0, 0, 0, 0, 0, 0] rfl) rfl rfl (p_rbs ty109 rfl (.ro 4 rfl) rfl) (fun _ h => h.picks [0, 0, 0, 0, 0, 0, 0, 0, 0, 0] rfl) ?_
  refine at_take2 1 rfl (by kernel_rfl) (by kernel_rfl) (by kernel_rfl) (fun _ h => h.picks [0, 0, 0, 0, 0, 0, 0, 0, 0, 0] rfl) rfl rfl (p_lbw ty63 rfl (j := 0) rfl rfl) (fun _ h => h.picks [0, 0, 0, 0, 0, 0, 0, 0, 0, 0] rfl) ?_
  refine at_take2 3 rfl (by kernel_rfl) (by kernel_rfl) (by kernel_rfl) (fun _ h => h.picks [0, 0, 0, 0, 0, 0, 0, 0, 0, 0] rfl) rfl rfl (p_rbs ty109 rfl (.ro 4 rfl) rfl) (fun _ h => h.picks [0, 0, 0, 0, 0, 0, 0, 0, 0, 0] rfl) ?_
  refine at_take2 4 rfl (by kernel_rfl) (by kernel_rfl) (by kernel_rfl) (fun _ h => h.picks [0, 0, 0, 0, 0, 0, 0, 0, 0, 0] rfl) rfl rfl (p_lbw ty63 rfl (j := 1) rfl rfl) (fun _ h => h.picks [0, 0, 0, 0, 0, 0, 0, 0, 0, 0] rfl) ?_
  refine at_each (rs := [2]) (by kernel_rfl) (by decide) ?_
  refine (.cons rfl (fun I cnI => ?_) .nil)
  · refine r_call [] cf77 rfl rfl (ok_gleeref2_EncoresIn_1 a1 s1_3_ b2_0_c0_ a2_0_c0_0 a2_0_c0_1 a2_0_c0_2 s2_0_c0_3_ a2_0_c0_3 b2_0_c1_ s2_0_c1_0_ xg2_0_c1_0_ a2_0_c1_0 a2_0_c1_1 a2_0_c1_2 a2_0_c1_3 a2_0_c1_4 hy3) rfl rfl (.cons (.ro 3 rfl) (.cons (.ro 5 rfl) (.cons (.ro 6 rfl) (.cons (.ro 7 rfl) (.cons (.ro 8 rfl) (.cons (.ro 9 rfl) .nil)))))) (fun _ => rfl) rfl (fun _ => ?_)
    refine lj_nil ?_
    refine cnI _ _ (sof1 rfl rfl (fun _ h => h.picks [0, 0, 0, 0, 0, 0, 0, 0, 0, 0] rfl)) ?_
    refine at_each (rs := [5]) (by kernel_rfl) (by decide) ?_
    refine (.cons rfl (fun I cnI => ?_) .nil)
    · refine r_call [] cf77 rfl rfl (ok_gleeref2_EncoresIn_1 a0 s0_3_ b2_0_c0_ a2_0_c0_0 a2_0_c0_1 a2_0_c0_2 s2_0_c0_3_ a2_0_c0_3 b2_0_c1_ s2_0_c1_0_ xg2_0_c1_0_ a2_0_c1_0 a2_0_c1_1 a2_0_c1_2 a2_0_c1_3 a2_0_c1_4 hy4) rfl rfl (.cons (.ro 2 rfl) (.cons (.ro 5 rfl) (.cons (.ro 6 rfl) (.cons (.ro 7 rfl) (.cons (.ro 8 rfl) (.cons (.ro 9 rfl) .nil)))))) (fun _ => rfl) rfl (fun _ => ?_)
      refine lj_nil ?_
      refine cnI _ _ (sof1 rfl rfl (fun _ h => h.picks [0, 0, 0, 0, 0, 0, 0, 0, 0, 0] rfl)) ?_
      refine at_take2 6 rfl (by kernel_rfl) (by kernel_rfl) (by kernel_rfl) (fun _ h => h.picks [0, 0, 0, 0, 0, 0, 0, 0, 0, 0] rfl) rfl rfl (p_sub rfl rfl) (fun _ h => h.picks [0, 0, 0, 0, 0, 0, 0, 0, 0, 0] rfl) ?_
      refine at_each (rs := [7]) (by kernel_rfl) (by decide) ?_
      refine (.cons rfl (fun I cnI => ?_) .nil)
      · refine r_call [] cf82 rfl rfl (ok_gleeref2_sign (w64 (y3 - y4)) hy5) rfl rfl .nil (fun _ => rfl) rfl (fun _ => ?_)
        refine lj_nil ?_
        refine cnI _ _ (sof1 rfl rfl (fun _ h => h.picks [0, 0, 0, 0, 0, 0, 0, 0, 0, 0] rfl)) ?_
        refine at_take2 8 rfl (by kernel_rfl) (by kernel_rfl) (by kernel_rfl) (fun _ h => h.picks [0, 0, 0, 0, 0, 0, 0, 0, 0, 0] rfl) rfl rfl (p_as rfl) (fun _ h => h.picks [0, 0, 0, 0, 0, 0, 0, 0, 0, 0] rfl) ?_
        refine at_done (by kernel_rfl) ?_
        refine nj_seq ?_
        obtain rfl := Option.some.inj hm
        exact cj_rt () [] Tryd.results81 (.tmp rfl .nil) rfl rfl
theorem ok_slices_insertionSortCmpFunc_api_Item__gleeref2_EncoresIn_1__gleeref2_EncoresIn_3 (s0_ : SV) (xg0_ : List (TItem × SV)) (a0 : (List TItem)) (a1 : Int) (a2 : Int) (b3_c0_ : Nat) (b3_c0_0_c0_ : Nat) (a3_c0_0_c0_0 : ByteArray) (a3_c0_0_c0_1 : ByteArray) (a3_c0_0_c0_2 : Int) (s3_c0_0_c0_3_ : SV) (a3_c0_0_c0_3 : (List ByteArray)) (b3_c0_0_c1_ : Nat) (s3_c0_0_c1_0_ : SV) (xg3_c0_0_c1_0_ : List (TItem × SV)) (a3_c0_0_c1_0 : (List TItem)) (a3_c0_0_c1_1 : Int) (a3_c0_0_c1_2 : Int) (a3_c0_0_c1_3 : Int) (a3_c0_0_c1_4 : Int) {r : (List TItem)} (hm : m_slices_insertionSortCmpFunc_api_Item__gleeref2_EncoresIn_1__gleeref2_EncoresIn_3 a0 a1 a2 a3_c0_0_c0_0 a3_c0_0_c0_1 a3_c0_0_c0_2 a3_c0_0_c0_3 a3_c0_0_c1_0 a3_c0_0_c1_1 a3_c0_0_c1_2 a3_c0_0_c1_3 a3_c0_0_c1_4 = some r) :
    Ctr Tryd.prog 114 [s0_.v, .int .i64 a1, .int .i64 a2, .func (.func 81) #[] [.pointer (some ⟨b3_c0_, 0, none⟩)].toArray].toArray [.row N63.R (SV.v s0_) xg0_] [Lk N63 a0 xg0_, BoxS b3_c0_ 109 [.func (.func 77) #[] [.pointer (some ⟨b3_c0_0_c0_, 0, none⟩), .pointer (some ⟨b3_c0_0_c1_, 0, none⟩)].toArray], BoxS b3_c0_0_c0_ 63 [.string a3_c0_0_c0_0, .string a3_c0_0_c0_1, .int .i64 a3_c0_0_c0_2, s3_c0_0_c0_3_.v], RdS R9 (SV.v s3_c0_0_c0_3_) a3_c0_0_c0_3, BoxS b3_c0_0_c1_ 28 [s3_c0_0_c1_0_.v, .int .i64 a3_c0_0_c1_1, .int .i64 a3_c0_0_c1_2, .int .i64 a3_c0_0_c1_3, .int .i64 a3_c0_0_c1_4], Lk N63 a3_c0_0_c1_0 xg3_c0_0_c1_0_, RdS N63.R (SV.v s3_c0_0_c1_0_) xg3_c0_0_c1_0_] (X := List (TItem × SV)) (fun s => .tuple [].toArray) (fun s => [.row N63.R (SV.v s0_) s, .ro (Lk N63 r s)]) := by
  unfold m_slices_insertionSortCmpFunc_api_Item__gleeref2_EncoresIn_1__gleeref2_EncoresIn_3 at hm
  refine ctr_mk (vs := [(0, s0_.v), (1, .int .i64 a1), (2, .int .i64 a2), (3, .func (.func 81) #[] [.pointer (some ⟨b3_c0_, 0, none⟩)].toArray)]) Tryd.func114 rfl Tryd.ntmps114 rfl ⟨rfl, rfl, rfl, rfl, trivial⟩ (fun w0 A => ?_)
  refine cj_pure (F := Lk N63 a0 xg0_) (.ro 1 rfl) (fun _ h => h.1) (fun hL0_ => ?_)
  refine cj_pure (F := Lk N63 a3_c0_0_c1_0 xg3_c0_0_c1_0_) (.ro 6 rfl) (fun _ h => h.1) (fun hL3_c0_0_c1_0_ => ?_)
  refine cj_seq ?_
  refine cj_reg ?_
  refine lp rfl (p_mv rfl) ?_
  refine lp rfl (p_add rfl rfl) ?_
  refine lp rfl (p_as rfl) ?_
  refine lj_seq ?_
  obtain ⟨f4, hf4, hm⟩ := bindS hm
  refine cj_whileA (γ := List (TItem × SV)) hf4 xg0_ (fun u1 g2 => [(0, s0_.v), (1, .int .i64 a1), (2, .int .i64 a2), (3, .func (.func 81) #[] [.pointer (some ⟨b3_c0_, 0, none⟩)].toArray), (8, .int .i64 u1.1)]) (fun u1 g2 => Sat w0 (keys [.row N63.R (SV.v s0_) xg0_]) A [.ro (BoxS b3_c0_ 109 [.func (.func 77) #[] [.pointer (some ⟨b3_c0_0_c0_, 0, none⟩), .pointer (some ⟨b3_c0_0_c1_, 0, none⟩)].toArray]), .ro (BoxS b3_c0_0_c0_ 63 [.string a3_c0_0_c0_0, .string a3_c0_0_c0_1, .int .i64 a3_c0_0_c0_2, s3_c0_0_c0_3_.v]), .ro (RdS R9 (SV.v s3_c0_0_c0_3_) a3_c0_0_c0_3), .ro (BoxS b3_c0_0_c1_ 28 [s3_c0_0_c1_0_.v, .int .i64 a3_c0_0_c1_1, .int .i64 a3_c0_0_c1_2, .int .i64 a3_c0_0_c1_3, .int .i64 a3_c0_0_c1_4]), .ro (Lk N63 a3_c0_0_c1_0 xg3_c0_0_c1_0_), .ro (RdS N63.R (SV.v s3_c0_0_c1_0_) xg3_c0_0_c1_0_), .row N63.R (SV.v s0_) g2, .ro (Lk N63 u1.2 g2)]) ⟨rfl, rfl, rfl, rfl, rfl, trivial⟩ (fun _ h => h.picks [2, 2, 2, 2, 2, 2, 0, 0] rfl) (fun u1 g2 e => ?_) (fun aftk3 u1 g2 k3 hs J hJk3 hBk3 hX I cnk3 => ?_)
  · have hm := Flow.fin_b e hm
    refine nj_pure (F := Lk N63 u1.2 g2) (.ro 7 rfl) (fun _ h => h.1) (fun hLu1_s0_ => ?_)
    obtain rfl := Option.some.inj hm
    exact nj_rt g2 [6, 6] Tryd.results114 .nil rfl rfl
  · have hRk3 : ∀ t, k3 = .ret t → some t = some r := fun t e => by rw [hX t e] at hm; exact hm
    have hm := hs
    refine cj_pure (F := Lk N63 u1.2 g2) (.ro 7 rfl) (fun _ h => h.1) (fun hLu1_s0_ => ?_)
    refine cj_seq ?_
    refine cj_seq ?_
    refine cj_reg ?_
    refine lp rfl (p_mv rfl) ?_
    refine lp rfl (p_mv rfl) ?_
    refine lp rfl (p_lss rfl rfl) ?_
    refine lj_seq ?_
    refine cj_if (b := decide (u1.1 < a2)) rfl (fun hb => ?_) (fun hb => ?_)
    · have hm := ifB_t hb hm
      refine cj_skip ?_
      refine nj_seq ?_
      refine cj_seq ?_
      refine cj_blk ?_
      refine cj_seq ?_
      refine cj_reg ?_
      refine lp rfl (p_mv rfl) ?_
      refine lp rfl (p_as rfl) ?_
      refine lj_seq ?_
      obtain ⟨f8, hf8, hm⟩ := bindS hm
      refine cj_whileA (γ := List (TItem × SV)) hf8 g2 (fun u5 g6 => [(0, s0_.v), (1, .int .i64 a1), (2, .int .i64 a2), (3, .func (.func 81) #[] [.pointer (some ⟨b3_c0_, 0, none⟩)].toArray), (8, .int .i64 u1.1), (9, .int .i64 u5.1)]) (fun u5 g6 => Sat w0 (keys [.row N63.R (SV.v s0_) xg0_]) A [.ro (BoxS b3_c0_ 109 [.func (.func 77) #[] [.pointer (some ⟨b3_c0_0_c0_, 0, none⟩), .pointer (some ⟨b3_c0_0_c1_, 0, none⟩)].toArray]), .ro (BoxS b3_c0_0_c0_ 63 [.string a3_c0_0_c0_0, .string a3_c0_0_c0_1, .int .i64 a3_c0_0_c0_2, s3_c0_0_c0_3_.v]), .ro (RdS R9 (SV.v s3_c0_0_c0_3_) a3_c0_0_c0_3), .ro (BoxS b3_c0_0_c1_ 28 [s3_c0_0_c1_0_.v, .int .i64 a3_c0_0_c1_1, .int .i64 a3_c0_0_c1_2, .int .i64 a3_c0_0_c1_3, .int .i64 a3_c0_0_c1_4]), .ro (Lk N63 a3_c0_0_c1_0 xg3_c0_0_c1_0_), .ro (RdS N63.R (SV.v s3_c0_0_c1_0_) xg3_c0_0_c1_0_), .row N63.R (SV.v s0_) g6, .ro (Lk N63 u5.2 g6)]) ⟨rfl, rfl, rfl, rfl, rfl, rfl, trivial⟩ (fun _ h => h.picks [0, 0, 0, 0, 0, 0, 0, 0] rfl) (fun u5 g6 e => ?_) (fun aftk7 u5 g6 k7 hs J hJk7 hBk7 hX I cnk7 => ?_)
      · have hm := Flow.fin_b e hm
        refine nj_pure (F := Lk N63 u5.2 g6) (.ro 7 rfl) (fun _ h => h.1) (fun hLu5_s0_ => ?_)
        refine nj_blk ?_
        refine nj_seq ?_
        refine cj_reg ?_
        refine lp rfl (p_mv rfl) ?_
        refine lp rfl (p_add rfl rfl) ?_
        refine lp rfl (p_as rfl) ?_
        refine lj_nil ?_
        exact cnk3 _ _ (w64 (u1.1 + 1), u5.2) g6 (hJk3 _ (Option.some.inj hm).symm) ⟨rfl, rfl, rfl, rfl, rfl, trivial⟩ (fun _ h => h.picks [0, 0, 0, 0, 0, 0, 0, 0] rfl)
      · have hRk7 : ∀ t, k7 = .ret t → some t = some k3 := fun t e => by rw [hX t e] at hm; exact hm
        have hm := hs
        refine cj_pure (F := Lk N63 u5.2 g6) (.ro 7 rfl) (fun _ h => h.1) (fun hLu5_s0_ => ?_)
        refine cj_seq ?_
        refine cj_seq ?_
        refine cj_quiet (by kernel_rfl) (by kernel_rfl) ?_
        refine q_p rfl (p_mv rfl) ?_
        refine q_p rfl (p_mv rfl) ?_
        refine q_p rfl (p_gtr rfl rfl) ?_
        refine q_p rfl (p_mv rfl) ?_
        refine q_case (i := 21) (decide (u5.1 > a1)) rfl (fun hb => ?_) (fun hb => ?_)
        · have hm := ifB_t hb hm
          refine q_g true rfl rfl rfl ?_
          refine q_p rfl (p_mv rfl) ?_
          refine q_g true rfl rfl rfl ?_
          refine q_p rfl (p_mv rfl) ?_
          refine q_g true rfl rfl rfl ?_
          refine q_p rfl (p_mv rfl) ?_
          refine q_g true rfl rfl rfl ?_
          obtain ⟨e9, he9, hm⟩ := bindS hm
          obtain ⟨ge9, he9G⟩ := lk_getI hLu5_s0_ he9
          refine q_p rfl (p_idx Tryd.underlying26 ty63 rfl rfl (.row 6 rfl) he9G) ?_
          refine q_g true rfl rfl rfl ?_
          refine q_p rfl (p_leaN (cs := [.string e9.Key, .string e9.Places, .int .i64 e9.Long, ge9.v]) ty63 rfl (.row 6 rfl) (getI_spec he9G).2 rfl) ?_
          refine q_g true rfl rfl rfl ?_
          refine q_p rfl (p_mv rfl) ?_
          refine q_g true rfl rfl rfl ?_
          refine q_p rfl (p_mv rfl) ?_
          refine q_g true rfl rfl rfl ?_
          refine q_p rfl (p_sub rfl rfl) ?_
          refine q_g true rfl rfl rfl ?_
          obtain ⟨e10, he10, hm⟩ := bindS hm
          obtain ⟨ge10, he10G⟩ := lk_getI hLu5_s0_ he10
          refine q_p rfl (p_idx Tryd.underlying26 ty63 rfl rfl (.row 6 rfl) he10G) ?_
          refine q_g true rfl rfl rfl ?_
          refine q_p rfl (p_leaN (cs := [.string e10.Key, .string e10.Places, .int .i64 e10.Long, ge10.v]) ty63 rfl (.row 6 rfl) (getI_spec he10G).2 rfl) ?_
          refine q_g true rfl rfl rfl ?_
          obtain ⟨y11, hy11, hm⟩ := bindS hm
          refine q_call (.int .i64 y11) cf81 rfl rfl (ok_gleeref2_EncoresIn_3__gleeref2_EncoresIn_1 e9 ge9 e10 ge10 b3_c0_ b3_c0_0_c0_ a3_c0_0_c0_0 a3_c0_0_c0_1 a3_c0_0_c0_2 s3_c0_0_c0_3_ a3_c0_0_c0_3 b3_c0_0_c1_ s3_c0_0_c1_0_ xg3_c0_0_c1_0_ a3_c0_0_c1_0 a3_c0_0_c1_1 a3_c0_0_c1_2 a3_c0_0_c1_3 a3_c0_0_c1_4 hy11) (.cons (.imp (.ro 7 rfl) (fun _ h => (Lk.at_ h (getI_spec he9G).2))) (.cons (.imp (.ro 7 rfl) (fun _ h => (Lk.at_ h (getI_spec he10G).2))) (.cons (.ro 0 rfl) (.cons (.ro 1 rfl) (.cons (.ro 2 rfl) (.cons (.ro 3 rfl) (.cons (.ro 4 rfl) (.cons (.ro 5 rfl) .nil)))))))) (fun _ => rfl) (fun _ => rfl) rfl ?_
          refine q_g true rfl rfl rfl ?_
          refine q_p rfl (p_lss rfl rfl) ?_
          refine q_p rfl (p_pkt rfl rfl) ?_
          refine q_nil ?_
          refine nj_seq ?_
          refine cj_if (b := decide (y11 < 0)) rfl (fun hb => ?_) (fun hb => ?_)
          · have hm := ifB_t hb hm
            refine cj_skip ?_
            refine nj_seq ?_
            refine cj_seq ?_
            refine cj_blk ?_
            refine cj_pure (F := RdS N63.R (SV.v s0_) g6) (.row 6 rfl) (fun _ h => h.some_of (getI_spec he9G).2) (fun hp18 => ?_)
            refine cj_pure (F := RdS N63.R (SV.v s0_) g6) (.row 6 rfl) (fun _ h => h.pures) (fun hq19 => ?_)
            obtain ⟨e12, he12, hm⟩ := bindS hm
            obtain ⟨ge12, he12G⟩ := lk_getI hLu5_s0_ he12
            obtain ⟨e13, he13, hm⟩ := bindS hm
            obtain ⟨ge13, he13G⟩ := lk_getI hLu5_s0_ he13
            obtain ⟨e14, he14, hm⟩ := bindS hm
            obtain ⟨ge14, he14G⟩ := lk_getI hLu5_s0_ he14
            obtain ⟨e16, he16, hm⟩ := bindS hm
            obtain ⟨ge16, he16G⟩ := lk_getI (lk_set hLu5_s0_) he16
            refine cj_anyT [0, 1, 2, 3, 4, 5, 6, 7, 8, 9, 10, 11, 13, 14] [15, 16, 17] (Sat w0 (keys [.row N63.R (SV.v s0_) xg0_]) A [.ro (BoxS b3_c0_ 109 [.func (.func 77) #[] [.pointer (some ⟨b3_c0_0_c0_, 0, none⟩), .pointer (some ⟨b3_c0_0_c1_, 0, none⟩)].toArray]), .ro (BoxS b3_c0_0_c0_ 63 [.string a3_c0_0_c0_0, .string a3_c0_0_c0_1, .int .i64 a3_c0_0_c0_2, s3_c0_0_c0_3_.v]), .ro (RdS R9 (SV.v s3_c0_0_c0_3_) a3_c0_0_c0_3), .ro (BoxS b3_c0_0_c1_ 28 [s3_c0_0_c1_0_.v, .int .i64 a3_c0_0_c1_1, .int .i64 a3_c0_0_c1_2, .int .i64 a3_c0_0_c1_3, .int .i64 a3_c0_0_c1_4]), .ro (Lk N63 a3_c0_0_c1_0 xg3_c0_0_c1_0_), .ro (RdS N63.R (SV.v s3_c0_0_c1_0_) xg3_c0_0_c1_0_), .row N63.R (SV.v s0_) g6, .ro (Lk N63 u5.2 g6)]) (Sat w0 (keys [.row N63.R (SV.v s0_) xg0_]) A [.ro (BoxS b3_c0_ 109 [.func (.func 77) #[] [.pointer (some ⟨b3_c0_0_c0_, 0, none⟩), .pointer (some ⟨b3_c0_0_c1_, 0, none⟩)].toArray]), .ro (BoxS b3_c0_0_c0_ 63 [.string a3_c0_0_c0_0, .string a3_c0_0_c0_1, .int .i64 a3_c0_0_c0_2, s3_c0_0_c0_3_.v]), .ro (RdS R9 (SV.v s3_c0_0_c0_3_) a3_c0_0_c0_3), .ro (BoxS b3_c0_0_c1_ 28 [s3_c0_0_c1_0_.v, .int .i64 a3_c0_0_c1_1, .int .i64 a3_c0_0_c1_2, .int .i64 a3_c0_0_c1_3, .int .i64 a3_c0_0_c1_4]), .ro (Lk N63 a3_c0_0_c1_0 xg3_c0_0_c1_0_), .ro (RdS N63.R (SV.v s3_c0_0_c1_0_) xg3_c0_0_c1_0_), .ro (Lk N63 u5.2 g6)]) (by kernel_rfl) ?_
            refine at_take2 0 rfl (by kernel_rfl) (by kernel_rfl) (by kernel_rfl) (fun _ h => h.picks [0, 0, 0, 0, 0, 0, 1] rfl) rfl rfl (p_mv rfl) (fun _ h => h.picks [0, 0, 0, 0, 0, 0, 1] rfl) ?_
            refine at_take2 1 rfl (by kernel_rfl) (by kernel_rfl) (by kernel_rfl) (fun _ h => h.picks [0, 0, 0, 0, 0, 0, 1] rfl) rfl rfl (p_mv rfl) (fun _ h => h.picks [0, 0, 0, 0, 0, 0, 1] rfl) ?_
            refine at_take2 2 rfl (by kernel_rfl) (by kernel_rfl) (by kernel_rfl) (fun _ h => h.picks [0, 0, 0, 0, 0, 0, 1] rfl) rfl rfl (p_mv rfl) (fun _ h => h.picks [0, 0, 0, 0, 0, 0, 1] rfl) ?_
            refine at_take2 3 rfl (by kernel_rfl) (by kernel_rfl) (by kernel_rfl) (fun _ h => h.picks [0, 0, 0, 0, 0, 0, 1] rfl) rfl rfl (p_mv rfl) (fun _ h => h.picks [0, 0, 0, 0, 0, 0, 1] rfl) ?_
            refine at_take2 4 rfl (by kernel_rfl) (by kernel_rfl) (by kernel_rfl) (fun _ h => h.picks [0, 0, 0, 0, 0, 0, 1] rfl) rfl rfl (p_sub rfl rfl) (fun _ h => h.picks [0, 0, 0, 0, 0, 0, 1] rfl) ?_
            refine at_take2 5 rfl (by kernel_rfl) (by kernel_rfl) (by kernel_rfl) (fun _ h => h.picks [0, 0, 0, 0, 0, 0, 1] rfl) rfl rfl (p_mv rfl) (fun _ h => h.picks [0, 0, 0, 0, 0, 0, 1] rfl) ?_
            refine at_take2 6 rfl (by kernel_rfl) (by kernel_rfl) (by kernel_rfl) (fun _ h => h.picks [0, 0, 0, 0, 0, 0, 1] rfl) rfl rfl (p_mv rfl) (fun _ h => h.picks [0, 0, 0, 0, 0, 0, 1] rfl) ?_
            refine at_take2 7 rfl (by kernel_rfl) (by kernel_rfl) (by kernel_rfl) (fun _ h => h.picks [0, 0, 0, 0, 0, 0, 1] rfl) rfl rfl (p_sub rfl rfl) (fun _ h => h.picks [0, 0, 0, 0, 0, 0, 1] rfl) ?_
            refine at_take1 8 rfl (by kernel_rfl) (by kernel_rfl) (by kernel_rfl) (by kernel_rfl) rfl rfl (p_idxP (R := N63.R) Tryd.underlying26 ty63 rfl rfl hq19 he12G) (fun _ h => h.picks [0, 0, 0, 0, 0, 0, 0, 0] rfl) ?_
            refine at_take1 9 rfl (by kernel_rfl) (by kernel_rfl) (by kernel_rfl) (by kernel_rfl) rfl rfl (p_leaN (cs := [.string e12.Key, .string e12.Places, .int .i64 e12.Long, ge12.v]) ty63 rfl (.row 6 rfl) (getI_spec he12G).2 rfl) (fun _ h => h.picks [0, 0, 0, 0, 0, 0, 0, 0] rfl) ?_
            refine at_take2 10 rfl (by kernel_rfl) (by kernel_rfl) (by kernel_rfl) (fun _ h => h.picks [0, 0, 0, 0, 0, 0, 1] rfl) rfl rfl (p_mv rfl) (fun _ h => h.picks [0, 0, 0, 0, 0, 0, 1] rfl) ?_
            refine at_take2 11 rfl (by kernel_rfl) (by kernel_rfl) (by kernel_rfl) (fun _ h => h.picks [0, 0, 0, 0, 0, 0, 1] rfl) rfl rfl (p_mv rfl) (fun _ h => h.picks [0, 0, 0, 0, 0, 0, 1] rfl) ?_
            refine at_each (rs := [12]) (by kernel_rfl) (by decide) ?_
            refine (.cons rfl (fun I cnI => ?_) .nil)
            · refine lp rfl (p_idxP (R := N63.R) Tryd.underlying26 ty63 rfl rfl hq19 he13G) ?_
              refine lj_nil ?_
              refine cnI _ _ (sof1 rfl rfl (fun _ h => h.picks [0, 0, 0, 0, 0, 0, 0, 0] rfl)) ?_
              refine at_take1 13 rfl (by kernel_rfl) (by kernel_rfl) (by kernel_rfl) (by kernel_rfl) rfl rfl (p_leaN (cs := [.string e13.Key, .string e13.Places, .int .i64 e13.Long, ge13.v]) ty63 rfl (.row 6 rfl) (getI_spec he13G).2 rfl) (fun _ h => h.picks [0, 0, 0, 0, 0, 0, 0, 0] rfl) ?_
              refine at_take1 14 rfl (by kernel_rfl) (by kernel_rfl) (by kernel_rfl) (by kernel_rfl) rfl rfl (p_idxP (R := N63.R) Tryd.underlying26 ty63 rfl rfl hq19 he14G) (fun _ h => h.picks [0, 0, 0, 0, 0, 0, 0, 0] rfl) ?_
              refine at_each (rs := [15]) (by kernel_rfl) (by decide) ?_
              refine (.cons rfl (fun I cnI => ?_) .nil)
              · refine r_fact (F := Lk N63 (u5.2.set u5.1.toNat e12) (g6.set u5.1.toNat (e12, ge12))) (.imp (.and (.ro 7 rfl) (.imp (.ro 7 rfl) (fun _ h => (Lk.at_ h (getI_spec he12G).2)))) (fun _ h => Lk.set h.1 h.2)) ?_
                refine r_ste (k := 7) (o := 0) (vs := [.string e12.Key, .string e12.Places, .int .i64 e12.Long, ge12.v]) ty63 rfl rfl rfl rfl rfl rfl rfl (getI_spec he14G).2 (e12, ge12) rfl rfl ?_
                refine lj_nil ?_
                refine cnI _ _ (sof2 rfl rfl (fun _ h => h.picks [1, 1, 1, 1, 1, 1, 2] rfl)) ?_
                refine at_each (rs := [16]) (by kernel_rfl) (by decide) ?_
                refine (.cons rfl (fun I cnI => ?_) .nil)
                · refine lp rfl (p_idx Tryd.underlying26 ty63 rfl rfl (.row 7 rfl) he16G) ?_
                  refine lj_nil ?_
                  refine cnI _ _ (sof2 rfl rfl (fun _ h => h.picks [1, 1, 1, 1, 1, 1, 2] rfl)) ?_
                  refine at_each (rs := [17]) (by kernel_rfl) (by decide) ?_
                  refine (.cons rfl (fun I cnI => ?_) .nil)
                  · refine r_fact (F := Lk N63 ((u5.2.set u5.1.toNat e12).set ((w64 (u5.1 - 1)).toNat) e13) ((g6.set u5.1.toNat (e12, ge12)).set ((w64 (u5.1 - 1)).toNat) (e13, ge13))) (.imp (.and (.ro 0 rfl) (.imp (.ro 8 rfl) (fun _ h => (Lk.at_ h (getI_spec he13G).2)))) (fun _ h => Lk.set h.1 h.2)) ?_
                    refine r_ste (k := 8) (o := 0) (vs := [.string e13.Key, .string e13.Places, .int .i64 e13.Long, ge13.v]) ty63 rfl rfl rfl rfl rfl rfl rfl (getI_spec he16G).2 (e13, ge13) rfl rfl ?_
                    refine lj_nil ?_
                    refine cnI _ _ (sof2 rfl rfl (fun _ h => h.picks [2, 2, 2, 2, 2, 2, 3] rfl)) ?_
                    refine at_done (by kernel_rfl) ?_
                    refine nj_blk ?_
                    refine nj_seq ?_
                    refine cj_reg ?_
                    refine lp rfl (p_mv rfl) ?_
                    refine lp rfl (p_sub rfl rfl) ?_
                    refine lp rfl (p_as rfl) ?_
                    refine lj_nil ?_
                    exact cnk7 _ _ (w64 (u5.1 - 1), ((u5.2.set u5.1.toNat e12).set ((w64 (u5.1 - 1)).toNat) e13)) ((g6.set u5.1.toNat (e12, ge12)).set ((w64 (u5.1 - 1)).toNat) (e13, ge13)) (hJk7 _ (Option.some.inj hm).symm) ⟨rfl, rfl, rfl, rfl, rfl, rfl, trivial⟩ (fun _ h => h.picks [2, 2, 2, 2, 2, 2, 2, 0] rfl)
          · have hm := ifB_f hb hm
            refine cj_exit rfl ?_
            exact (aftk7 (u5.1, u5.2) g6 (hBk7 _ (Option.some.inj hm).symm)).sub ⟨rfl, rfl, rfl, rfl, rfl, rfl, trivial⟩ (fun _ h => h.picks [0, 0, 0, 0, 0, 0, 0, 0] rfl)
        · have hm := ifB_f hb hm
          refine q_s true rfl rfl rfl rfl ?_
          refine q_s true rfl rfl rfl rfl ?_
          refine q_s true rfl rfl rfl rfl ?_
          refine q_s true rfl rfl rfl rfl ?_
          refine q_s true rfl rfl rfl rfl ?_
          refine q_s true rfl rfl rfl rfl ?_
          refine q_s true rfl rfl rfl rfl ?_
          refine q_s true rfl rfl rfl rfl ?_
          refine q_s true rfl rfl rfl rfl ?_
          refine q_s true rfl rfl rfl rfl ?_
          refine q_s true rfl rfl rfl rfl ?_
          refine q_s true rfl rfl rfl rfl ?_
          refine q_p rfl (p_pkf rfl rfl) ?_
          refine q_nil ?_
          refine nj_seq ?_
          refine cj_if_f rfl ?_
          refine cj_exit rfl ?_
          exact (aftk7 (u5.1, u5.2) g6 (hBk7 _ (Option.some.inj hm).symm)).sub ⟨rfl, rfl, rfl, rfl, rfl, rfl, trivial⟩ (fun _ h => h.picks [0, 0, 0, 0, 0, 0, 0, 0] rfl)
    · have hm := ifB_f hb hm
      refine cj_exit rfl ?_
      exact (aftk3 (u1.1, u1.2) g2 (hBk3 _ (Option.some.inj hm).symm)).sub ⟨rfl, rfl, rfl, rfl, rfl, trivial⟩ (fun _ h => h.picks [0, 0, 0, 0, 0, 0, 0, 0] rfl)
theorem ok_slices_stableCmpFunc_api_Item__gleeref2_EncoresIn_1__gleeref2_EncoresIn_3 (s0_ : SV) (xg0_ : List (TItem × SV)) (a0 : (List TItem)) (a1 : Int) (b2_c0_ : Nat) (b2_c0_0_c0_ : Nat) (a2_c0_0_c0_0 : ByteArray) (a2_c0_0_c0_1 : ByteArray) (a2_c0_0_c0_2 : Int) (s2_c0_0_c0_3_ : SV) (a2_c0_0_c0_3 : (List ByteArray)) (b2_c0_0_c1_ : Nat) (s2_c0_0_c1_0_ : SV) (xg2_c0_0_c1_0_ : List (TItem × SV)) (a2_c0_0_c1_0 : (List TItem)) (a2_c0_0_c1_1 : Int) (a2_c0_0_c1_2 : Int) (a2_c0_0_c1_3 : Int) (a2_c0_0_c1_4 : Int) {r : (List TItem)} (hm : m_slices_stableCmpFunc_api_Item__gleeref2_EncoresIn_1__gleeref2_EncoresIn_3 a0 a1 a2_c0_0_c0_0 a2_c0_0_c0_1 a2_c0_0_c0_2 a2_c0_0_c0_3 a2_c0_0_c1_0 a2_c0_0_c1_1 a2_c0_0_c1_2 a2_c0_0_c1_3 a2_c0_0_c1_4 = some r) :
    Ctr Tryd.prog 99 [s0_.v, .int .i64 a1, .func (.func 81) #[] [.pointer (some ⟨b2_c0_, 0, none⟩)].toArray].toArray [.row N63.R (SV.v s0_) xg0_] [Lk N63 a0 xg0_, BoxS b2_c0_ 109 [.func (.func 77) #[] [.pointer (some ⟨b2_c0_0_c0_, 0, none⟩), .pointer (some ⟨b2_c0_0_c1_, 0, none⟩)].toArray], BoxS b2_c0_0_c0_ 63 [.string a2_c0_0_c0_0, .string a2_c0_0_c0_1, .int .i64 a2_c0_0_c0_2, s2_c0_0_c0_3_.v], RdS R9 (SV.v s2_c0_0_c0_3_) a2_c0_0_c0_3, BoxS b2_c0_0_c1_ 28 [s2_c0_0_c1_0_.v, .int .i64 a2_c0_0_c1_1, .int .i64 a2_c0_0_c1_2, .int .i64 a2_c0_0_c1_3, .int .i64 a2_c0_0_c1_4], Lk N63 a2_c0_0_c1_0 xg2_c0_0_c1_0_, RdS N63.R (SV.v s2_c0_0_c1_0_) xg2_c0_0_c1_0_] (X := List (TItem × SV)) (fun s => .tuple [].toArray) (fun s => [.row N63.R (SV.v s0_) s, .ro (Lk N63 r s)]) := by
  unfold m_slices_stableCmpFunc_api_Item__gleeref2_EncoresIn_1__gleeref2_EncoresIn_3 at hm
  refine ctr_mk (vs := [(0, s0_.v), (1, .int .i64 a1), (2, .func (.func 81) #[] [.pointer (some ⟨b2_c0_, 0, none⟩)].toArray)]) Tryd.func99 rfl Tryd.ntmps99 rfl ⟨rfl, rfl, rfl, trivial⟩ (fun w0 A => ?_)
  refine cj_pure (F := Lk N63 a0 xg0_) (.ro 1 rfl) (fun _ h => h.1) (fun hL0_ => ?_)
  refine cj_pure (F := Lk N63 a2_c0_0_c1_0 xg2_c0_0_c1_0_) (.ro 6 rfl) (fun _ h => h.1) (fun hL2_c0_0_c1_0_ => ?_)
  refine cj_seq ?_
  refine cj_reg ?_
  refine lp rfl (p_as rfl) ?_
  refine lj_seq ?_
  refine cj_seq ?_
  refine cj_reg ?_
  refine lp rfl (p_mv rfl) ?_
  refine lp rfl (p_as rfl) ?_
  refine lp rfl (p_as rfl) ?_
  refine lj_seq ?_
  refine cj_seq ?_
  obtain ⟨f4, hf4, hm⟩ := bindS hm
  refine cj_whileA (γ := List (TItem × SV)) hf4 xg0_ (fun u1 g2 => [(0, s0_.v), (1, .int .i64 a1), (2, .func (.func 81) #[] [.pointer (some ⟨b2_c0_, 0, none⟩)].toArray), (6, .int .i64 20), (7, .int .i64 u1.1), (8, .int .i64 u1.2.1)]) (fun u1 g2 => Sat w0 (keys [.row N63.R (SV.v s0_) xg0_]) A [.ro (BoxS b2_c0_ 109 [.func (.func 77) #[] [.pointer (some ⟨b2_c0_0_c0_, 0, none⟩), .pointer (some ⟨b2_c0_0_c1_, 0, none⟩)].toArray]), .ro (BoxS b2_c0_0_c0_ 63 [.string a2_c0_0_c0_0, .string a2_c0_0_c0_1, .int .i64 a2_c0_0_c0_2, s2_c0_0_c0_3_.v]), .ro (RdS R9 (SV.v s2_c0_0_c0_3_) a2_c0_0_c0_3), .ro (BoxS b2_c0_0_c1_ 28 [s2_c0_0_c1_0_.v, .int .i64 a2_c0_0_c1_1, .int .i64 a2_c0_0_c1_2, .int .i64 a2_c0_0_c1_3, .int .i64 a2_c0_0_c1_4]), .ro (Lk N63 a2_c0_0_c1_0 xg2_c0_0_c1_0_), .ro (RdS N63.R (SV.v s2_c0_0_c1_0_) xg2_c0_0_c1_0_), .row N63.R (SV.v s0_) g2, .ro (Lk N63 u1.2.2 g2)]) ⟨rfl, rfl, rfl, rfl, rfl, rfl, trivial⟩ (fun _ h => h.picks [2, 2, 2, 2, 2, 2, 0, 0] rfl) (fun u1 g2 e => ?_) (fun aftk3 u1 g2 k3 hs J hJk3 hBk3 hX I cnk3 => ?_)
  · have hm := Flow.fin_b e hm
    refine nj_pure (F := Lk N63 u1.2.2 g2) (.ro 7 rfl) (fun _ h => h.1) (fun hLu1_s0_ => ?_)
    refine nj_seq ?_
    refine cj_seq ?_
    refine cj_reg ?_
    refine lp rfl (p_mv rfl) ?_
    refine lp rfl (p_mv rfl) ?_
    refine lp rfl (p_mv rfl) ?_
    refine lp rfl (p_mv rfl) ?_
    obtain ⟨y7, hy7, hm⟩ := bindS hm
    refine r_callN [6] cf114 rfl rfl (ok_slices_insertionSortCmpFunc_api_Item__gleeref2_EncoresIn_1__gleeref2_EncoresIn_3 s0_ g2 u1.2.2 u1.1 a1 b2_c0_ b2_c0_0_c0_ a2_c0_0_c0_0 a2_c0_0_c0_1 a2_c0_0_c0_2 s2_c0_0_c0_3_ a2_c0_0_c0_3 b2_c0_0_c1_ s2_c0_0_c1_0_ xg2_c0_0_c1_0_ a2_c0_0_c1_0 a2_c0_0_c1_1 a2_c0_0_c1_2 a2_c0_0_c1_3 a2_c0_0_c1_4 hy7) rfl rfl (.cons (.ro 6 rfl) (.cons (.ro 0 rfl) (.cons (.ro 1 rfl) (.cons (.ro 2 rfl) (.cons (.ro 3 rfl) (.cons (.ro 4 rfl) (.cons (.ro 5 rfl) .nil))))))) rfl (fun xg8 => ?_)
    refine r_pure (F := Lk N63 y7 xg8) (.ro 1 rfl) (fun _ h => h.1) (fun hLxg8 => ?_)
    refine lj_seq ?_
    obtain ⟨f12, hf12, hm⟩ := bindS hm
    refine cj_whileA (γ := Unit) hf12 () (fun u9 g10 => [(0, s0_.v), (1, .int .i64 a1), (2, .func (.func 81) #[] [.pointer (some ⟨b2_c0_, 0, none⟩)].toArray), (6, .int .i64 u9.1), (7, .int .i64 u9.2.1), (8, .int .i64 u9.2.2)]) (fun u9 g10 => Sat w0 (keys [.row N63.R (SV.v s0_) xg0_]) A [.row N63.R (SV.v s0_) xg8, .ro (Lk N63 y7 xg8), .ro (BoxS b2_c0_ 109 [.func (.func 77) #[] [.pointer (some ⟨b2_c0_0_c0_, 0, none⟩), .pointer (some ⟨b2_c0_0_c1_, 0, none⟩)].toArray]), .ro (BoxS b2_c0_0_c0_ 63 [.string a2_c0_0_c0_0, .string a2_c0_0_c0_1, .int .i64 a2_c0_0_c0_2, s2_c0_0_c0_3_.v]), .ro (RdS R9 (SV.v s2_c0_0_c0_3_) a2_c0_0_c0_3), .ro (BoxS b2_c0_0_c1_ 28 [s2_c0_0_c1_0_.v, .int .i64 a2_c0_0_c1_1, .int .i64 a2_c0_0_c1_2, .int .i64 a2_c0_0_c1_3, .int .i64 a2_c0_0_c1_4]), .ro (Lk N63 a2_c0_0_c1_0 xg2_c0_0_c1_0_), .ro (RdS N63.R (SV.v s2_c0_0_c1_0_) xg2_c0_0_c1_0_)]) ⟨rfl, rfl, rfl, rfl, rfl, rfl, trivial⟩ (fun _ h => h.picks [0, 0, 0, 0, 0, 0, 0, 0] rfl) (fun u9 g10 e => ?_) (fun aftk11 u9 g10 k11 hs J hJk11 hBk11 hX I cnk11 => ?_)
    · have hm := Flow.fin_b e hm
      obtain rfl := Option.some.inj hm
      exact nj_rt xg8 [0, 0] Tryd.results99 .nil rfl rfl
    · have hRk11 : ∀ t, k11 = .ret t → some t = some r := fun t e => by rw [hX t e] at hm; exact hm
      have hm := hs
      refine cj_seq ?_
      refine cj_seq ?_
      refine cj_reg ?_
      refine lp rfl (p_mv rfl) ?_
      refine lp rfl (p_mv rfl) ?_
      refine lp rfl (p_lss rfl rfl) ?_
      refine lj_seq ?_
      refine cj_if (b := decide (u9.1 < a1)) rfl (fun hb => ?_) (fun hb => ?_)
      · have hm := ifB_t hb hm
        refine cj_skip ?_
        refine nj_seq ?_
        refine cj_blk ?_
        refine cj_seq ?_
        refine cj_reg ?_
        refine lp rfl (p_mv rfl) ?_
        refine lp rfl (p_mul rfl rfl) ?_
        refine lp rfl (p_as rfl) ?_
        refine lp rfl (p_as rfl) ?_
        refine lj_seq ?_
        refine cj_seq ?_
        obtain ⟨f16, hf16, hm⟩ := bindS hm
        refine cj_whileA (γ := Unit) hf16 () (fun u13 g14 => [(0, s0_.v), (1, .int .i64 a1), (2, .func (.func 81) #[] [.pointer (some ⟨b2_c0_, 0, none⟩)].toArray), (6, .int .i64 u9.1), (7, .int .i64 0), (8, .int .i64 (w64 (2 * u9.1)))]) (fun u13 g14 => Sat w0 (keys [.row N63.R (SV.v s0_) xg0_]) A [.row N63.R (SV.v s0_) xg8, .ro (Lk N63 y7 xg8), .ro (BoxS b2_c0_ 109 [.func (.func 77) #[] [.pointer (some ⟨b2_c0_0_c0_, 0, none⟩), .pointer (some ⟨b2_c0_0_c1_, 0, none⟩)].toArray]), .ro (BoxS b2_c0_0_c0_ 63 [.string a2_c0_0_c0_0, .string a2_c0_0_c0_1, .int .i64 a2_c0_0_c0_2, s2_c0_0_c0_3_.v]), .ro (RdS R9 (SV.v s2_c0_0_c0_3_) a2_c0_0_c0_3), .ro (BoxS b2_c0_0_c1_ 28 [s2_c0_0_c1_0_.v, .int .i64 a2_c0_0_c1_1, .int .i64 a2_c0_0_c1_2, .int .i64 a2_c0_0_c1_3, .int .i64 a2_c0_0_c1_4]), .ro (Lk N63 a2_c0_0_c1_0 xg2_c0_0_c1_0_), .ro (RdS N63.R (SV.v s2_c0_0_c1_0_) xg2_c0_0_c1_0_)]) ⟨rfl, rfl, rfl, rfl, rfl, rfl, trivial⟩ (fun _ h => h.picks [0, 0, 0, 0, 0, 0, 0, 0] rfl) (fun u13 g14 e => ?_) (fun aftk15 u13 g14 k15 hs J hJk15 hBk15 hX I cnk15 => ?_)
        · have hm := Flow.fin_b e hm
          refine nj_seq ?_
          refine cj_seq ?_
          refine cj_seq ?_
          refine cj_reg ?_
          refine lp rfl (p_mv rfl) ?_
          refine lp rfl (p_mv rfl) ?_
          refine lp rfl (p_add rfl rfl) ?_
          refine lp rfl (p_as rfl) ?_
          refine lj_seq ?_
          refine cj_seq ?_
          refine cj_reg ?_
          refine lp rfl (p_mv rfl) ?_
          refine lp rfl (p_mv rfl) ?_
          refine lp rfl (p_lss rfl rfl) ?_
          refine lj_seq ?_
          refine cj_if (b := decide ((w64 (0 + u9.1)) < a1)) rfl (fun hb => ?_) (fun hb => ?_)
          · have hm := ifB_t hb hm
            refine cj_reg ?_
            refine lp rfl (p_mv rfl) ?_
            refine lp rfl (p_mv rfl) ?_
            refine lp rfl (p_mv rfl) ?_
            refine lp rfl (p_mv rfl) ?_
            refine lp rfl (p_mv rfl) ?_
            cases hm
          · have hm := ifB_f hb hm
            refine cj_skip ?_
            refine nj_seq ?_
            refine cj_reg ?_
            refine lp rfl (p_mv rfl) ?_
            refine lp rfl (p_mul rfl rfl) ?_
            refine lp rfl (p_as rfl) ?_
            refine lj_nil ?_
            refine nj_blk ?_
            exact cnk11 _ _ (w64 (u9.1 * 2), 0, w64 (2 * u9.1)) () (hJk11 _ (Option.some.inj hm).symm) ⟨rfl, rfl, rfl, rfl, rfl, rfl, trivial⟩ (fun _ h => h.picks [0, 0, 0, 0, 0, 0, 0, 0] rfl)
        · have hRk15 : ∀ t, k15 = .ret t → some t = some k11 := fun t e => by rw [hX t e] at hm; exact hm
          have hm := hs
          refine cj_seq ?_
          refine cj_seq ?_
          refine cj_reg ?_
          refine lp rfl (p_mv rfl) ?_
          refine lp rfl (p_mv rfl) ?_
          refine lp rfl (p_leq rfl rfl) ?_
          refine lj_seq ?_
          refine cj_if (b := decide ((w64 (2 * u9.1)) ≤ a1)) rfl (fun hb => ?_) (fun hb => ?_)
          · have hm := ifB_t hb hm
            refine cj_skip ?_
            refine nj_seq ?_
            refine cj_blk ?_
            refine cj_seq ?_
            refine cj_reg ?_
            refine lp rfl (p_mv rfl) ?_
            refine lp rfl (p_mv rfl) ?_
            refine lp rfl (p_mv rfl) ?_
            refine lp rfl (p_mv rfl) ?_
            refine lp rfl (p_add rfl rfl) ?_
            refine lp rfl (p_mv rfl) ?_
            refine lp rfl (p_mv rfl) ?_
            cases hm
          · have hm := ifB_f hb hm
            refine cj_exit rfl ?_
            exact (aftk15 () () (hBk15 _ (Option.some.inj hm).symm)).sub ⟨rfl, rfl, rfl, rfl, rfl, rfl, trivial⟩ (fun _ h => h.picks [0, 0, 0, 0, 0, 0, 0, 0] rfl)
      · have hm := ifB_f hb hm
        refine cj_exit rfl ?_
        exact (aftk11 (u9.1, u9.2.1, u9.2.2) () (hBk11 _ (Option.some.inj hm).symm)).sub ⟨rfl, rfl, rfl, rfl, rfl, rfl, trivial⟩ (fun _ h => h.picks [0, 0, 0, 0, 0, 0, 0, 0] rfl)
  · have hRk3 : ∀ t, k3 = .ret t → some t = some r := fun t e => by rw [hX t e] at hm; exact hm
    have hm := hs
    refine cj_pure (F := Lk N63 u1.2.2 g2) (.ro 7 rfl) (fun _ h => h.1) (fun hLu1_s0_ => ?_)
    refine cj_seq ?_
    refine cj_seq ?_
    refine cj_reg ?_
    refine lp rfl (p_mv rfl) ?_
    refine lp rfl (p_mv rfl) ?_
    refine lp rfl (p_leq rfl rfl) ?_
    refine lj_seq ?_
    refine cj_if (b := decide (u1.2.1 ≤ a1)) rfl (fun hb => ?_) (fun hb => ?_)
    · have hm := ifB_t hb hm
      refine cj_skip ?_
      refine nj_seq ?_
      refine cj_blk ?_
      refine cj_seq ?_
      refine cj_reg ?_
      refine lp rfl (p_mv rfl) ?_
      refine lp rfl (p_mv rfl) ?_
      refine lp rfl (p_mv rfl) ?_
      refine lp rfl (p_mv rfl) ?_
      obtain ⟨y5, hy5, hm⟩ := bindS hm
      refine r_callN [6] cf114 rfl rfl (ok_slices_insertionSortCmpFunc_api_Item__gleeref2_EncoresIn_1__gleeref2_EncoresIn_3 s0_ g2 u1.2.2 u1.1 u1.2.1 b2_c0_ b2_c0_0_c0_ a2_c0_0_c0_0 a2_c0_0_c0_1 a2_c0_0_c0_2 s2_c0_0_c0_3_ a2_c0_0_c0_3 b2_c0_0_c1_ s2_c0_0_c1_0_ xg2_c0_0_c1_0_ a2_c0_0_c1_0 a2_c0_0_c1_1 a2_c0_0_c1_2 a2_c0_0_c1_3 a2_c0_0_c1_4 hy5) rfl rfl (.cons (.ro 6 rfl) (.cons (.ro 0 rfl) (.cons (.ro 1 rfl) (.cons (.ro 2 rfl) (.cons (.ro 3 rfl) (.cons (.ro 4 rfl) (.cons (.ro 5 rfl) .nil))))))) rfl (fun xg6 => ?_)
      refine r_pure (F := Lk N63 y5 xg6) (.ro 1 rfl) (fun _ h => h.1) (fun hLxg6 => ?_)
      refine lj_seq ?_
      refine cj_seq ?_
      refine cj_reg ?_
      refine lp rfl (p_mv rfl) ?_
      refine lp rfl (p_as rfl) ?_
      refine lj_seq ?_
      refine cj_reg ?_
      refine lp rfl (p_mv rfl) ?_
      refine lp rfl (p_mv rfl) ?_
      refine lp rfl (p_add rfl rfl) ?_
      refine lp rfl (p_as rfl) ?_
      refine lj_nil ?_
      refine nj_blk ?_
      exact cnk3 _ _ (u1.2.1, w64 (u1.2.1 + 20), y5) xg6 (hJk3 _ (Option.some.inj hm).symm) ⟨rfl, rfl, rfl, rfl, rfl, rfl, trivial⟩ (fun _ h => h.picks [2, 2, 2, 2, 2, 2, 0, 0] rfl)
    · have hm := ifB_f hb hm
      refine cj_exit rfl ?_
      exact (aftk3 (u1.1, u1.2.1, u1.2.2) g2 (hBk3 _ (Option.some.inj hm).symm)).sub ⟨rfl, rfl, rfl, rfl, rfl, rfl, trivial⟩ (fun _ h => h.picks [0, 0, 0, 0, 0, 0, 0, 0] rfl)
theorem ok_slices_SortStableFunc_api_Item_api_Item__gleeref2_EncoresIn_1__gleeref2_EncoresIn_3 (s0_ : SV) (xg0_ : List (TItem × SV)) (a0 : (List TItem)) (b1_c0_ : Nat) (b1_c0_0_c0_ : Nat) (a1_c0_0_c0_0 : ByteArray) (a1_c0_0_c0_1 : ByteArray) (a1_c0_0_c0_2 : Int) (s1_c0_0_c0_3_ : SV) (a1_c0_0_c0_3 : (List ByteArray)) (b1_c0_0_c1_ : Nat) (s1_c0_0_c1_0_ : SV) (xg1_c0_0_c1_0_ : List (TItem × SV)) (a1_c0_0_c1_0 : (List TItem)) (a1_c0_0_c1_1 : Int) (a1_c0_0_c1_2 : Int) (a1_c0_0_c1_3 : Int) (a1_c0_0_c1_4 : Int) {r : (List TItem)} (hm : m_slices_SortStableFunc_api_Item_api_Item__gleeref2_EncoresIn_1__gleeref2_EncoresIn_3 a0 a1_c0_0_c0_0 a1_c0_0_c0_1 a1_c0_0_c0_2 a1_c0_0_c0_3 a1_c0_0_c1_0 a1_c0_0_c1_1 a1_c0_0_c1_2 a1_c0_0_c1_3 a1_c0_0_c1_4 = some r) :
    Ctr Tryd.prog 80 [s0_.v, .func (.func 81) #[] [.pointer (some ⟨b1_c0_, 0, none⟩)].toArray].toArray [.row N63.R (SV.v s0_) xg0_] [Lk N63 a0 xg0_, BoxS b1_c0_ 109 [.func (.func 77) #[] [.pointer (some ⟨b1_c0_0_c0_, 0, none⟩), .pointer (some ⟨b1_c0_0_c1_, 0, none⟩)].toArray], BoxS b1_c0_0_c0_ 63 [.string a1_c0_0_c0_0, .string a1_c0_0_c0_1, .int .i64 a1_c0_0_c0_2, s1_c0_0_c0_3_.v], RdS R9 (SV.v s1_c0_0_c0_3_) a1_c0_0_c0_3, BoxS b1_c0_0_c1_ 28 [s1_c0_0_c1_0_.v, .int .i64 a1_c0_0_c1_1, .int .i64 a1_c0_0_c1_2, .int .i64 a1_c0_0_c1_3, .int .i64 a1_c0_0_c1_4], Lk N63 a1_c0_0_c1_0 xg1_c0_0_c1_0_, RdS N63.R (SV.v s1_c0_0_c1_0_) xg1_c0_0_c1_0_] (X := List (TItem × SV)) (fun s => .tuple [].toArray) (fun s => [.row N63.R (SV.v s0_) s, .ro (Lk N63 r s)]) := by
  unfold m_slices_SortStableFunc_api_Item_api_Item__gleeref2_EncoresIn_1__gleeref2_EncoresIn_3 at hm
  refine ctr_mk (vs := [(0, s0_.v), (1, .func (.func 81) #[] [.pointer (some ⟨b1_c0_, 0, none⟩)].toArray)]) Tryd.func80 rfl Tryd.ntmps80 rfl ⟨rfl, rfl, trivial⟩ (fun w0 A => ?_)
  refine cj_pure (F := Lk N63 a0 xg0_) (.ro 1 rfl) (fun _ h => h.1) (fun hL0_ => ?_)
  refine cj_pure (F := Lk N63 a1_c0_0_c1_0 xg1_c0_0_c1_0_) (.ro 6 rfl) (fun _ h => h.1) (fun hL1_c0_0_c1_0_ => ?_)
  refine cj_reg ?_
  refine lp rfl (p_mv rfl) ?_
  refine lp rfl (p_mv rfl) ?_
  refine lp rfl (p_lenG hL0_ Tryd.underlying26 rfl (.row 0 rfl)) ?_
  refine lp rfl (p_mv rfl) ?_
  obtain ⟨y1, hy1, hm⟩ := bindS hm
  refine r_callN [0] cf99 rfl rfl (ok_slices_stableCmpFunc_api_Item__gleeref2_EncoresIn_1__gleeref2_EncoresIn_3 s0_ xg0_ a0 (a0.length : Int) b1_c0_ b1_c0_0_c0_ a1_c0_0_c0_0 a1_c0_0_c0_1 a1_c0_0_c0_2 s1_c0_0_c0_3_ a1_c0_0_c0_3 b1_c0_0_c1_ s1_c0_0_c1_0_ xg1_c0_0_c1_0_ a1_c0_0_c1_0 a1_c0_0_c1_1 a1_c0_0_c1_2 a1_c0_0_c1_3 a1_c0_0_c1_4 hy1) rfl rfl (.cons (.ro 0 rfl) (.cons (.ro 1 rfl) (.cons (.ro 2 rfl) (.cons (.ro 3 rfl) (.cons (.ro 4 rfl) (.cons (.ro 5 rfl) (.cons (.ro 6 rfl) .nil))))))) rfl (fun xg2 => ?_)
  refine r_pure (F := Lk N63 y1 xg2) (.ro 1 rfl) (fun _ h => h.1) (fun hLxg2 => ?_)
  refine lj_nil ?_
  obtain rfl := Option.some.inj hm
  exact nj_rt xg2 [0, 0] Tryd.results80 .nil rfl rfl
theorem ok_gleeref2_keysOf (s0_ : SV) (xg0_ : List (TItem × SV)) (a0 : (List TItem)) {r : (List ByteArray)} (hm : m_gleeref2_keysOf a0 = some r) :
    Ctr Tryd.prog 67 [s0_.v].toArray ([] : List Ent) [Lk N63 a0 xg0_, RdS N63.R (SV.v s0_) xg0_] (X := SV) (fun s => s.v) (fun s => [.row R9 (SV.v s) r]) := by
  unfold m_gleeref2_keysOf at hm
  refine ctr_mk (vs := [(0, s0_.v)]) Tryd.func67 rfl Tryd.ntmps67 rfl ⟨rfl, trivial⟩ (fun w0 A => ?_)
  refine cj_pure (F := Lk N63 a0 xg0_) (.ro 0 rfl) (fun _ h => h.1) (fun hL0_ => ?_)
  refine cj_seq ?_
  refine cj_reg ?_
  refine lp rfl (p_as rfl) ?_
  refine lj_seq ?_
  refine cj_seq ?_
  refine cj_reg ?_
  refine lp rfl (p_as rfl) ?_
  refine lj_seq ?_
  refine cj_seq ?_
  refine cj_seq ?_
  refine cj_reg ?_
  refine lp rfl (p_mv rfl) ?_
  refine lp rfl (p_lenG hL0_ Tryd.underlying26 rfl (.ro 1 rfl)) ?_
  refine lp rfl (p_mv rfl) ?_
  refine lj_seq ?_
  refine cj_nil R9 ?_
  obtain ⟨f8, hf8, hm⟩ := bindS hm
  refine cj_range (γ := SV) (m := (a0.length : Int)) hf8 nilS (fun u5 g6 => [(2, .slice none 0 0), (3, g6.v), (6, s0_.v)]) (fun u5 g6 => Sat w0 (keys ([] : List Ent)) A [.ro (Lk N63 a0 xg0_), .ro (RdS N63.R (SV.v s0_) xg0_), .row R9 (SV.v g6) u5]) ⟨rfl, rfl, rfl, rfl, rfl, trivial⟩ (fun _ h => h.picks [1, 1, 0] rfl) (nat_lt _) (fun _ h => by have h1 := (FactAt.get (.ro 2 rfl) h).1; rw [lk_len hL0_] at h1; exact h1) (fun _ _ => ⟨rfl, rfl, rfl, rfl⟩) ⟨rfl, rfl, rfl, rfl, rfl⟩ rfl rfl rfl (fun u5 g6 e => ?_) (fun aftk7 i1 x2 u5 g6 k7 hx3 hs J hJk7 hBk7 hX I cnk7 => ?_)
  · have hm := Flow.fin_b e hm
    refine nj_seq ?_
    refine cj_seq ?_
    refine cj_reg ?_
    refine lp rfl (p_mv rfl) ?_
    refine lp rfl (p_as rfl) ?_
    refine lj_seq ?_
    obtain rfl := Option.some.inj hm
    exact cj_rt g6 [2] Tryd.results67 (.tmp rfl .nil) rfl rfl
  · have hRk7 : ∀ t, k7 = .ret t → some t = some r := fun t e => by rw [hX t e] at hm; exact hm
    have hm := hs
    refine cj_seq ?_
    refine cj_reg ?_
    obtain ⟨gx2, hx3G⟩ := lk_get hL0_ hx3
    refine lp rfl (p_idx Tryd.underlying26 ty63 rfl rfl (.ro 1 rfl) (getI_nat.trans hx3G)) ?_
    refine lp rfl (p_leaN (cs := [.string x2.Key, .string x2.Places, .int .i64 x2.Long, gx2.v]) ty63 rfl (.ro 1 rfl) hx3G rfl) ?_
    refine r_al ty63 rfl (fun b10 => ?_)
    refine r_sb (vs := [.string x2.Key, .string x2.Places, .int .i64 x2.Long, gx2.v]) (j := 0) ty63 rfl rfl rfl rfl rfl rfl rfl ?_
    refine lj_seq ?_
    refine cj_reg ?_
    refine lp rfl (p_mv rfl) ?_
    refine lp rfl (p_fab fl63_0 rfl) ?_
    refine lp rfl (p_lbs ty9 rfl (j := 0) rfl rfl) ?_
    refine r_bs R9 [x2.Key] rfl rfl rfl (fun _ => by kernel_rfl) rfl (fun s11 => ?_)
    obtain ⟨q12, hq12, hm⟩ := bindS hm
    refine r_app (k := 4) Tryd.underlying49 ty9 rfl rfl rfl rfl (.row 0 rfl) hq12 rfl (fun s13 => ?_)
    refine lp rfl (p_as rfl) ?_
    refine lj_nil ?_
    refine nj_blk ?_
    exact cnk7 _ _ q12 s13 (hJk7 _ (Option.some.inj hm).symm) ⟨rfl, rfl, rfl, rfl, rfl, trivial⟩ (fun _ h => h.picks [2, 2, 2] rfl)
theorem ok_gleeref2_EncoresIn (a0 : TProgram) (s0_0_ : SV) (xg0_0_ : List (TItem × SV)) (a1 : Int) {r : (List ByteArray)} (hm : m_gleeref2_EncoresIn a0 a1 = some r) :
    Ctr Tryd.prog 39 [.agg [s0_0_.v, .int .i64 a0.Change, .int .i64 a0.Clap, .int .i64 a0.Break, .int .i64 a0.Half].toArray, .int .i64 a1].toArray ([] : List Ent) [Lk N63 a0.Items xg0_0_, RdS N63.R (SV.v s0_0_) xg0_0_] (X := SV) (fun s => s.v) (fun s => [.row R9 (SV.v s) r]) := by
  unfold m_gleeref2_EncoresIn at hm
  refine ctr_mk (vs := [(0, .agg [s0_0_.v, .int .i64 a0.Change, .int .i64 a0.Clap, .int .i64 a0.Break, .int .i64 a0.Half].toArray), (1, .int .i64 a1)]) Tryd.func39 rfl Tryd.ntmps39 rfl ⟨rfl, rfl, trivial⟩ (fun w0 A => ?_)
  refine cj_pure (F := Lk N63 a0.Items xg0_0_) (.ro 0 rfl) (fun _ h => h.1) (fun hL0_0_ => ?_)
  refine cj_seq ?_
  refine cj_reg ?_
  refine r_bx (cs := [s0_0_.v, .int .i64 a0.Change, .int .i64 a0.Clap, .int .i64 a0.Break, .int .i64 a0.Half]) rfl rfl rfl (fun b1 => ?_)
  refine r_bx (cs := [.int .i64 a1]) rfl rfl rfl (fun b2 => ?_)
  refine lp rfl (p_as rfl) ?_
  refine lj_seq ?_
  refine cj_seq ?_
  refine cj_reg ?_
  refine lp rfl (p_fab fl28_0 rfl) ?_
  refine lp rfl (p_lbs ty26 rfl (j := 1) rfl rfl) ?_
  refine lp rfl (p_fab fl28_0 rfl) ?_
  refine lp rfl (p_lbs ty26 rfl (j := 1) rfl rfl) ?_
  refine lp rfl (p_lenG hL0_0_ Tryd.underlying26 rfl (.ro 3 rfl)) ?_
  refine lp rfl (p_sub rfl rfl) ?_
  obtain ⟨e3, he3, hm⟩ := bindS hm
  obtain ⟨ge3, he3G⟩ := lk_getI hL0_0_ he3
  refine lp rfl (p_idx Tryd.underlying26 ty63 rfl rfl (.ro 3 rfl) he3G) ?_
  refine lp rfl (p_leaN (cs := [.string e3.Key, .string e3.Places, .int .i64 e3.Long, ge3.v]) ty63 rfl (.ro 3 rfl) (getI_spec he3G).2 rfl) ?_
  refine r_al ty63 rfl (fun b4 => ?_)
  refine r_sb (vs := [.string e3.Key, .string e3.Places, .int .i64 e3.Long, ge3.v]) (j := 0) ty63 rfl rfl rfl rfl rfl rfl rfl ?_
  refine lj_seq ?_
  refine cj_seq ?_
  refine cj_reg ?_
  refine lp rfl (p_fn (cv := [.pointer (some ⟨b4, 0, none⟩), .pointer (some ⟨b1, 0, none⟩)]) rfl) ?_
  refine r_al ty109 rfl (fun b5 => ?_)
  refine r_sb (vs := [.func (.func 77) #[] [.pointer (some ⟨b4, 0, none⟩), .pointer (some ⟨b1, 0, none⟩)].toArray]) (j := 0) ty109 rfl rfl rfl rfl rfl rfl rfl ?_
  refine lj_seq ?_
  refine cj_seq ?_
  refine cj_reg ?_
  refine lp rfl (p_fab fl28_0 rfl) ?_
  refine lp rfl (p_lbs ty26 rfl (j := 3) rfl rfl) ?_
  obtain ⟨y6, hy6, hm⟩ := bindS hm
  refine r_callN [] cf57 rfl rfl (ok_slices_Clone_api_Item_api_Item s0_0_ xg0_0_ a0.Items hy6) rfl rfl (.cons (.ro 4 rfl) (.cons (.ro 5 rfl) .nil)) rfl (fun ⟨s7, xg8⟩ => ?_)
  refine r_pure (F := Lk N63 y6 xg8) (.ro 1 rfl) (fun _ h => h.1) (fun hLs7 => ?_)
  refine lp rfl (p_fn (cv := [.pointer (some ⟨b5, 0, none⟩), .pointer (some ⟨b2, 0, none⟩)]) rfl) ?_
  refine r_fzb 2 rfl ?_
  refine r_fzb 3 rfl ?_
  refine r_fzb 5 rfl ?_
  refine r_fzb 5 rfl ?_
  obtain ⟨y9, hy9, hm⟩ := bindS hm
  refine r_callN [4] cf78 rfl rfl (ok_slices_DeleteFunc_api_Item_api_Item__gleeref2_EncoresIn_1__gleeref2_EncoresIn_2 s7 xg8 y6 b5 b4 e3.Key e3.Places e3.Long ge3 e3.Parts b1 s0_0_ xg0_0_ a0.Items a0.Change a0.Clap a0.Break a0.Half b2 a1 hy9) rfl rfl (.cons (.ro 4 rfl) (.cons (.ro 3 rfl) (.cons (.ro 2 rfl) (.cons (.imp (.ro 5 rfl) (fun _ h => (Lk.at_ h (getI_spec he3G).2))) (.cons (.ro 1 rfl) (.cons (.ro 5 rfl) (.cons (.ro 6 rfl) (.cons (.ro 0 rfl) .nil)))))))) rfl (fun ⟨s10, xg11⟩ => ?_)
  refine r_pure (F := Lk N63 y9 xg11) (.ro 1 rfl) (fun _ h => h.1) (fun hLs10 => ?_)
  refine lp rfl (p_as rfl) ?_
  refine lj_seq ?_
  refine cj_seq ?_
  refine cj_reg ?_
  refine lp rfl (p_mv rfl) ?_
  refine lp rfl (p_fn (cv := [.pointer (some ⟨b5, 0, none⟩)]) rfl) ?_
  obtain ⟨y12, hy12, hm⟩ := bindS hm
  refine r_callN [0] cf80 rfl rfl (ok_slices_SortStableFunc_api_Item_api_Item__gleeref2_EncoresIn_1__gleeref2_EncoresIn_3 s10 xg11 y9 b5 b4 e3.Key e3.Places e3.Long ge3 e3.Parts b1 s0_0_ xg0_0_ a0.Items a0.Change a0.Clap a0.Break a0.Half hy12) rfl rfl (.cons (.ro 0 rfl) (.cons (.ro 4 rfl) (.cons (.ro 3 rfl) (.cons (.imp (.ro 6 rfl) (fun _ h => (Lk.at_ h (getI_spec he3G).2))) (.cons (.ro 2 rfl) (.cons (.ro 6 rfl) (.cons (.ro 7 rfl) .nil))))))) rfl (fun xg13 => ?_)
  refine r_pure (F := Lk N63 y12 xg13) (.ro 1 rfl) (fun _ h => h.1) (fun hLxg13 => ?_)
  refine lj_seq ?_
  refine cj_seq ?_
  refine cj_reg ?_
  refine lp rfl (p_mv rfl) ?_
  obtain ⟨y14, hy14, hm⟩ := bindS hm
  refine r_call [] cf67 rfl rfl (ok_gleeref2_keysOf s10 xg13 y12 hy14) rfl rfl (.cons (.ro 1 rfl) (.cons (.row 0 rfl) .nil)) (fun _ => rfl) rfl (fun s15 => ?_)
  refine lp rfl (p_as rfl) ?_
  refine lj_seq ?_
  obtain rfl := Option.some.inj hm
  exact cj_rt s15 [0] Tryd.results39 (.tmp rfl .nil) rfl rfl
theorem ok_slices_Equal_string_string (s0_ : SV) (a0 : (List ByteArray)) (s1_ : SV) (a1 : (List ByteArray)) {r : Bool} (hm : m_slices_Equal_string_string a0 a1 = some r) :
    Ctr Tryd.prog 27 [s0_.v, s1_.v].toArray ([] : List Ent) [RdS R9 (SV.v s0_) a0, RdS R9 (SV.v s1_) a1] (X := Unit) (fun _ => .bool r) (fun _ => []) := by
  unfold m_slices_Equal_string_string at hm
  refine ctr_mk (vs := [(0, s0_.v), (1, s1_.v)]) Tryd.func27 rfl Tryd.ntmps27 rfl ⟨rfl, rfl, trivial⟩ (fun w0 A => ?_)
  refine cj_seq ?_
  refine cj_reg ?_
  refine lp rfl (p_as rfl) ?_
  refine lj_seq ?_
  refine cj_seq ?_
  refine cj_seq ?_
  refine cj_reg ?_
  refine lp rfl (p_mv rfl) ?_
  refine lp rfl (p_len Tryd.underlying49 rfl (.ro 0 rfl)) ?_
  refine lp rfl (p_mv rfl) ?_
  refine lp rfl (p_len Tryd.underlying49 rfl (.ro 1 rfl)) ?_
  refine lp rfl (p_neq rfl rfl) ?_
  refine lj_seq ?_
  refine cj_if (b := (a0.length : Int) != (a1.length : Int)) rfl (fun hb => ?_) (fun hb => ?_)
  · have hm := ifB_t hb hm
    refine cj_seq ?_
    refine cj_reg ?_
    refine lp rfl (p_as rfl) ?_
    refine lj_seq ?_
    obtain rfl := Option.some.inj hm
    exact cj_rt () [] Tryd.results27 (.tmp rfl .nil) rfl rfl
  · have hm := ifB_f hb hm
    refine cj_skip ?_
    refine nj_seq ?_
    refine cj_seq ?_
    refine cj_seq ?_
    refine cj_reg ?_
    refine lp rfl (p_mv rfl) ?_
    refine lp rfl (p_len Tryd.underlying49 rfl (.ro 0 rfl)) ?_
    refine lp rfl (p_mv rfl) ?_
    refine lj_seq ?_
    obtain ⟨f7, hf7, hm⟩ := bindS hm
    refine cj_range (γ := Unit) (m := (a0.length : Int)) hf7 () (fun u4 g5 => [(0, s0_.v), (1, s1_.v), (4, .bool false)]) (fun u4 g5 => Sat w0 (keys ([] : List Ent)) A [.ro (RdS R9 (SV.v s0_) a0), .ro (RdS R9 (SV.v s1_) a1)]) ⟨rfl, rfl, rfl, rfl, rfl, trivial⟩ (fun _ h => h.picks [0, 0] rfl) (nat_lt _) (fun _ h => (FactAt.get (.ro 0 rfl) h).1) (fun _ _ => ⟨rfl, rfl, rfl, rfl⟩) ⟨rfl, rfl, rfl, rfl, rfl⟩ rfl rfl rfl (fun u4 g5 e => ?_) (fun aftk6 i1 x2 u4 g5 k6 hx3 hs J hJk6 hBk6 hX I cnk6 => ?_)
    · have hm := Flow.fin_b e hm
      refine nj_seq ?_
      refine cj_seq ?_
      refine cj_reg ?_
      refine lp rfl (p_as rfl) ?_
      refine lj_seq ?_
      obtain rfl := Option.some.inj hm
      exact cj_rt () [] Tryd.results27 (.tmp rfl .nil) rfl rfl
    · have hRk6 : ∀ t, k6 = .ret t → some t = some r := fun t e => by rw [hX t e] at hm; exact hm
      have hm := hs
      refine cj_seq ?_
      refine cj_reg ?_
      refine lp rfl (p_mv rfl) ?_
      refine lp rfl (p_as rfl) ?_
      refine lj_seq ?_
      refine cj_seq ?_
      refine cj_quiet (by kernel_rfl) (by kernel_rfl) ?_
      refine q_p rfl (p_mv rfl) ?_
      refine q_p rfl (p_mv rfl) ?_
      refine q_p rfl (p_idx Tryd.underlying49 ty9 rfl rfl (.ro 0 rfl) (getI_nat.trans hx3)) ?_
      refine q_p rfl (p_lde (o := 0) ty9 rfl rfl (.ro 0 rfl) hx3 rfl) ?_
      refine q_p rfl (p_mv rfl) ?_
      refine q_p rfl (p_mv rfl) ?_
      obtain ⟨e8, he8, hm⟩ := bindS hm
      refine q_p rfl (p_idx Tryd.underlying49 ty9 rfl rfl (.ro 1 rfl) he8) ?_
      refine q_p rfl (p_lde (o := 0) ty9 rfl rfl (.ro 1 rfl) (getI_spec he8).2 rfl) ?_
      refine q_p rfl (p_nes rfl rfl) ?_
      refine q_nil ?_
      refine nj_seq ?_
      refine cj_if (b := !(x2.toList == e8.toList)) rfl (fun hb => ?_) (fun hb => ?_)
      · have hm := ifB_t hb hm
        refine cj_seq ?_
        refine cj_reg ?_
        refine lp rfl (p_as rfl) ?_
        refine lj_seq ?_
        have hm := hRk6 _ (Option.some.inj hm).symm
        obtain rfl := Option.some.inj hm
        exact cj_rt () [] Tryd.results27 (.tmp rfl .nil) rfl rfl
      · have hm := ifB_f hb hm
        refine cj_skip ?_
        refine nj_blk ?_
        exact cnk6 _ _ () () (hJk6 _ (Option.some.inj hm).symm) ⟨rfl, rfl, rfl, rfl, rfl, trivial⟩ (fun _ h => h.picks [0, 0] rfl)
theorem ok_concert_Long (a0 : TProgram) (s0_0_ : SV) (xg0_0_ : List (TItem × SV)) {r : Int × Int} (hm : m_concert_Long a0 = some r) :
    Ctr Tryd.prog 9 [.agg [s0_0_.v, .int .i64 a0.Change, .int .i64 a0.Clap, .int .i64 a0.Break, .int .i64 a0.Half].toArray].toArray ([] : List Ent) [Lk N63 a0.Items xg0_0_, RdS N63.R (SV.v s0_0_) xg0_0_] (X := Unit) (fun _ => .tuple [.int .i64 r.1, .int .i64 r.2].toArray) (fun _ => []) := by
  unfold m_concert_Long at hm
  refine ctr_mk (vs := [(0, .agg [s0_0_.v, .int .i64 a0.Change, .int .i64 a0.Clap, .int .i64 a0.Break, .int .i64 a0.Half].toArray)]) Tryd.func9 rfl Tryd.ntmps9 rfl ⟨rfl, trivial⟩ (fun w0 A => ?_)
  refine cj_pure (F := Lk N63 a0.Items xg0_0_) (.ro 0 rfl) (fun _ h => h.1) (fun hL0_0_ => ?_)
  refine cj_seq ?_
  refine cj_reg ?_
  refine r_bx (cs := [s0_0_.v, .int .i64 a0.Change, .int .i64 a0.Clap, .int .i64 a0.Break, .int .i64 a0.Half]) rfl rfl rfl (fun b1 => ?_)
  refine lp rfl (p_as rfl) ?_
  refine lp rfl (p_as rfl) ?_
  refine lj_seq ?_
  refine cj_seq ?_
  refine cj_seq ?_
  refine cj_reg ?_
  refine lp rfl (p_lbw ty28 rfl (j := 0) rfl rfl) ?_
  obtain ⟨y2, hy2, hm⟩ := bindS hm
  refine r_call [] cf18 rfl rfl (ok_concert_CheckProgram a0 s0_0_ xg0_0_ hy2) rfl rfl (.cons (.ro 1 rfl) (.cons (.ro 2 rfl) .nil)) (fun _ => rfl) rfl (fun _ => ?_)
  refine lp rfl (p_as rfl) ?_
  refine lj_seq ?_
  refine cj_seq ?_
  refine cj_reg ?_
  refine lp rfl (p_mv rfl) ?_
  refine lp rfl (p_neq rfl rfl) ?_
  refine lj_seq ?_
  refine cj_if (b := y2 != 0) rfl (fun hb => ?_) (fun hb => ?_)
  · have hm := ifB_t hb hm
    refine cj_seq ?_
    refine cj_reg ?_
    refine lp rfl (p_mv rfl) ?_
    refine lp rfl (p_as rfl) ?_
    refine lp rfl (p_as rfl) ?_
    refine lj_seq ?_
    obtain rfl := Option.some.inj hm
    exact cj_rt () [] Tryd.results9 (.tmp rfl (.tmp rfl .nil)) rfl rfl
  · have hm := ifB_f hb hm
    refine cj_skip ?_
    refine nj_seq ?_
    refine cj_seq ?_
    refine cj_reg ?_
    refine lp rfl (p_lbw ty28 rfl (j := 0) rfl rfl) ?_
    obtain ⟨y3, hy3, hm⟩ := bindS hm
    refine r_call [] cf45 rfl rfl (ok_concert_begins a0 s0_0_ xg0_0_ hy3) rfl rfl (.cons (.ro 1 rfl) (.cons (.ro 2 rfl) .nil)) (fun _ => rfl) rfl (fun s4 => ?_)
    refine lp rfl (p_mv rfl) ?_
    refine lp rfl (p_ext rfl rfl) ?_
    refine lp rfl (p_ext rfl rfl) ?_
    refine lp rfl (p_as rfl) ?_
    refine lp rfl (p_as rfl) ?_
    refine lj_seq ?_
    refine cj_seq ?_
    refine cj_reg ?_
    refine lp rfl (p_mv rfl) ?_
    refine lp rfl (p_as rfl) ?_
    refine lp rfl (p_as rfl) ?_
    refine lj_seq ?_
    obtain rfl := Option.some.inj hm
    exact cj_rt () [] Tryd.results9 (.tmp rfl (.tmp rfl .nil)) rfl rfl
theorem ok_gleelaw2_sung  {r : Bool} (hm : m_gleelaw2_sung  = some r) :
    Ctr Tryd.prog 20 [].toArray ([] : List Ent) [] (X := Unit) (fun _ => .bool r) (fun _ => []) := by
  unfold m_gleelaw2_sung at hm
  refine ctr_mk (vs := []) Tryd.func20 rfl Tryd.ntmps20 rfl trivial (fun w0 A => ?_)
  refine cj_seq ?_
  refine cj_reg ?_
  refine lp rfl (p_as rfl) ?_
  refine lj_seq ?_
  refine cj_seq ?_
  refine cj_reg ?_
  refine r_bs R9 [(ByteArray.mk [97, 108, 116, 111].toArray)] rfl rfl rfl (fun _ => by kernel_rfl) rfl (fun s1 => ?_)
  refine lp rfl (p_bld [.string (ByteArray.mk [97].toArray), .string (ByteArray.mk [112].toArray), .int .i64 7, s1.v] rfl (fun _ => by kernel_rfl)) ?_
  refine r_fz 0 rfl ?_
  refine r_fact (F := Lk N63 [(TItem.mk (ByteArray.mk [97].toArray) (ByteArray.mk [112].toArray) 7 [(ByteArray.mk [97, 108, 116, 111].toArray)])] [((TItem.mk (ByteArray.mk [97].toArray) (ByteArray.mk [112].toArray) 7 [(ByteArray.mk [97, 108, 116, 111].toArray)]), s1)]) (.imp (.and (.ro 0 rfl) (.nilL N63)) (fun _ h => Lk.cons h.1 h.2)) ?_
  refine r_bs N63.R [((TItem.mk (ByteArray.mk [97].toArray) (ByteArray.mk [112].toArray) 7 [(ByteArray.mk [97, 108, 116, 111].toArray)]), s1)] rfl rfl rfl (fun _ => by kernel_rfl) rfl (fun s2 => ?_)
  refine lp rfl (p_bld [s2.v, .int .i64 0, .int .i64 0, .int .i64 0, .int .i64 (-1)] rfl (fun _ => by kernel_rfl)) ?_
  obtain ⟨y3, hy3, hm⟩ := bindS hm
  refine r_call [] cf9 rfl rfl (ok_concert_Long (TProgram.mk [(TItem.mk (ByteArray.mk [97].toArray) (ByteArray.mk [112].toArray) 7 [(ByteArray.mk [97, 108, 116, 111].toArray)])] 0 0 0 (-1)) s2 [((TItem.mk (ByteArray.mk [97].toArray) (ByteArray.mk [112].toArray) 7 [(ByteArray.mk [97, 108, 116, 111].toArray)]), s1)] hy3) rfl rfl (.cons (.ro 1 rfl) (.cons (.row 0 rfl) .nil)) (fun _ => rfl) rfl (fun _ => ?_)
  refine lp rfl (p_mv rfl) ?_
  refine lp rfl (p_ext rfl rfl) ?_
  refine lp rfl (p_ext rfl rfl) ?_
  refine lp rfl (p_as rfl) ?_
  refine lp rfl (p_as rfl) ?_
  refine lj_seq ?_
  refine cj_seq ?_
  refine cj_reg ?_
  refine lp rfl (p_mv rfl) ?_
  refine lp rfl (p_eql rfl rfl) ?_
  refine lp rfl (p_mv rfl) ?_
  refine lcase (i := 13) (y3.2 == 0) rfl (fun hb => ?_) (fun hb => ?_)
  · have hm := ifB_t hb hm
    refine lg true rfl rfl rfl ?_
    refine lp rfl (p_mv rfl) ?_
    refine lg true rfl rfl rfl ?_
    refine lp rfl (p_eql rfl rfl) ?_
    refine lp rfl (p_pkt rfl rfl) ?_
    refine lp rfl (p_as rfl) ?_
    refine lj_seq ?_
    obtain rfl := Option.some.inj hm
    exact cj_rt () [] Tryd.results20 (.tmp rfl .nil) rfl rfl
  · have hm := ifB_f hb hm
    refine ls true rfl rfl rfl rfl ?_
    refine ls true rfl rfl rfl rfl ?_
    refine lp rfl (p_pkf rfl rfl) ?_
    refine lp rfl (p_as rfl) ?_
    refine lj_seq ?_
    obtain rfl := Option.some.inj hm
    exact cj_rt () [] Tryd.results20 (.tmp rfl .nil) rfl rfl
theorem ok_gleelaw2_ConcertsFit (s0_ : SV) (a0 : (List Int)) {r : Bool} (hm : m_gleelaw2_ConcertsFit a0 = some r) :
    Ctr Tryd.prog 5 [s0_.v].toArray ([] : List Ent) [RdS R3 (SV.v s0_) a0] (X := Unit) (fun _ => .bool r) (fun _ => []) := by
  unfold m_gleelaw2_ConcertsFit at hm
  refine ctr_mk (vs := [(0, s0_.v)]) Tryd.func5 rfl Tryd.ntmps5 rfl ⟨rfl, trivial⟩ (fun w0 A => ?_)
  refine cj_seq ?_
  refine cj_reg ?_
  refine lp rfl (p_as rfl) ?_
  refine lj_seq ?_
  refine cj_seq ?_
  refine cj_reg ?_
  refine lp rfl (p_mv rfl) ?_
  refine lp rfl (p_bld [s0_.v, .int .i64 0] rfl (fun _ => by kernel_rfl)) ?_
  refine r_bx (cs := [s0_.v, .int .i64 0]) rfl rfl rfl (fun b1 => ?_)
  refine lp rfl (p_as rfl) ?_
  refine lj_seq ?_
  refine cj_seq ?_
  refine cj_reg ?_
  refine lp rfl (p_mv rfl) ?_
  obtain ⟨y2, hy2, hm⟩ := bindS hm
  refine r_callN [0] cf6 rfl rfl (ok_gleemake_Stream_AProgram b1 s0_ a0 0 5 hy2) rfl rfl (.cons (.ro 0 rfl) .nil) rfl (fun ⟨s3, xg4⟩ => ?_)
  refine r_pure (F := Lk N63 y2.1.Items xg4) (.ro 1 rfl) (fun _ h => h.1) (fun hLs3 => ?_)
  refine lp rfl (p_mv rfl) ?_
  refine r_bs R3 [0, 99, 150, 260, 400, 1000, (-1), 5184000001] rfl rfl rfl (fun _ => by kernel_rfl) rfl (fun s5 => ?_)
  obtain ⟨y6, hy6, hm⟩ := bindS hm
  refine r_call [3] cf35 rfl rfl (ok_gleemake_Stream_Pick b1 s0_ a0 y2.2 s5 [0, 99, 150, 260, 400, 1000, (-1), 5184000001] hy6) rfl rfl (.cons (.ro 3 rfl) (.cons (.row 0 rfl) .nil)) (fun _ => rfl) rfl (fun _ => ?_)
  refine lp rfl (p_mv rfl) ?_
  refine r_bs R3 [0, 60, 110, 130, 250, (-1), 86400001] rfl rfl rfl (fun _ => by kernel_rfl) rfl (fun s7 => ?_)
  obtain ⟨y8, hy8, hm⟩ := bindS hm
  refine r_call [1] cf35 rfl rfl (ok_gleemake_Stream_Pick b1 s0_ a0 y6.2 s7 [0, 60, 110, 130, 250, (-1), 86400001] hy8) rfl rfl (.cons (.ro 4 rfl) (.cons (.row 0 rfl) .nil)) (fun _ => rfl) rfl (fun _ => ?_)
  refine r_al ty28 rfl (fun b9 => ?_)
  refine r_sb (vs := [s3.v, .int .i64 y2.1.Change, .int .i64 y2.1.Clap, .int .i64 y2.1.Break, .int .i64 y2.1.Half]) (j := 0) ty28 rfl rfl rfl rfl rfl rfl rfl ?_
  refine lp rfl (p_as rfl) ?_
  refine lp rfl (p_as rfl) ?_
  refine lj_seq ?_
  refine cj_seq ?_
  refine cj_reg ?_
  refine lp rfl (p_lbw ty28 rfl (j := 0) rfl rfl) ?_
  refine lp rfl (p_mv rfl) ?_
  obtain ⟨y10, hy10, hm⟩ := bindS hm
  refine r_call [] cf36 rfl rfl (ok_concert_Fitting y2.1 s3 xg4 y6.1 hy10) rfl rfl (.cons (.ro 5 rfl) (.cons (.row 4 rfl) .nil)) (fun _ => rfl) rfl (fun s11 => ?_)
  refine lp rfl (p_mv rfl) ?_
  refine lp rfl (p_ext rfl rfl) ?_
  refine lp rfl (p_ext rfl rfl) ?_
  refine lp rfl (p_as rfl) ?_
  refine lp rfl (p_as rfl) ?_
  refine lj_seq ?_
  refine cj_seq ?_
  refine cj_reg ?_
  refine lp rfl (p_lbw ty28 rfl (j := 1) rfl rfl) ?_
  refine lp rfl (p_mv rfl) ?_
  obtain ⟨y12, hy12, hm⟩ := bindS hm
  refine r_call [] cf37 rfl rfl (ok_concert_Encores y2.1 s3 xg4 y8.1 hy12) rfl rfl (.cons (.ro 6 rfl) (.cons (.row 5 rfl) .nil)) (fun _ => rfl) rfl (fun s13 => ?_)
  refine lp rfl (p_mv rfl) ?_
  refine lp rfl (p_ext rfl rfl) ?_
  refine lp rfl (p_ext rfl rfl) ?_
  refine lp rfl (p_as rfl) ?_
  refine lp rfl (p_as rfl) ?_
  refine lj_seq ?_
  refine cj_seq ?_
  refine cj_reg ?_
  refine lp rfl (p_lbw ty28 rfl (j := 2) rfl rfl) ?_
  obtain ⟨y14, hy14, hm⟩ := bindS hm
  refine r_call [] cf11 rfl rfl (ok_gleeref2_ProgramFault y2.1 s3 xg4 hy14) rfl rfl (.cons (.ro 7 rfl) (.cons (.row 6 rfl) .nil)) (fun _ => rfl) rfl (fun _ => ?_)
  refine lp rfl (p_as rfl) ?_
  refine lj_seq ?_
  refine cj_seq ?_
  refine cj_reg ?_
  obtain ⟨k17, hk17, hm⟩ := bindS hm
  have hRk17 : ∀ t, k17 = .inr t → some t = some r := fun t e => by rw [e] at hm; exact hm
  refine lj_join (σ := Int) (γ := Unit) (fun u15 => k17 = .inl u15) (fun u15 g16 => [(2, .bool false), (4, .pointer (some ⟨b9, 0, none⟩)), (5, .int .i64 y6.1), (6, .int .i64 y8.1), (7, s11.v), (8, .int .i64 y10.2), (9, s13.v), (10, .int .i64 y12.2), (11, .int .i64 y14), (12, .int .i64 u15)]) (fun u15 g16 => Sat w0 (keys ([] : List Ent)) A [.row R9 (SV.v s13) y12.1, .row R9 (SV.v s11) y10.1, .box b9 28 [s3.v, .int .i64 y2.1.Change, .int .i64 y2.1.Clap, .int .i64 y2.1.Break, .int .i64 y2.1.Half], .row N63.R (SV.v s3) xg4, .ro (Lk N63 y2.1.Items xg4)]) (fun u15 g16 hq => ?_) (fun J cnk17 => ?_)
  · have hm := Sum.fin_l hq hm
    refine cj_seq ?_
    obtain ⟨k26, hk26, hm⟩ := bindS hm
    have hRk26 : ∀ t, k26 = .inr t → some t = some r := fun t e => by rw [e] at hm; exact hm
    refine cj_joinK (σ := Int) (γ := Unit) (fun u24 => k26 = .inl u24) (fun u24 g25 => [(2, .bool false), (4, .pointer (some ⟨b9, 0, none⟩)), (5, .int .i64 y6.1), (6, .int .i64 y8.1), (7, s11.v), (8, .int .i64 y10.2), (9, s13.v), (10, .int .i64 y12.2), (12, .int .i64 u15), (13, .int .i64 u24)]) (fun u24 g25 => Sat w0 (keys ([] : List Ent)) A [.row R9 (SV.v s13) y12.1, .row R9 (SV.v s11) y10.1, .box b9 28 [s3.v, .int .i64 y2.1.Change, .int .i64 y2.1.Clap, .int .i64 y2.1.Break, .int .i64 y2.1.Half], .row N63.R (SV.v s3) xg4, .ro (Lk N63 y2.1.Items xg4)]) (fun u24 g25 hq => ?_) (fun J cnk26 => ?_)
    · have hm := Sum.fin_l hq hm
      refine cj_seq ?_
      refine cj_reg ?_
      refine lp rfl (p_as rfl) ?_
      refine lp rfl (p_as rfl) ?_
      refine lj_seq ?_
      refine cj_seq ?_
      refine cj_seq ?_
      refine cj_reg ?_
      refine lp rfl (p_mv rfl) ?_
      refine lp rfl (p_eql rfl rfl) ?_
      refine lj_seq ?_
      obtain ⟨k41, hk41, hm⟩ := bindS hm
      have hRk41 : ∀ t, k41 = .inr t → some t = some r := fun t e => by rw [e] at hm; exact hm
      refine cj_joinK (σ := (List ByteArray)) (γ := SV) (fun u38 => k41 = .inl u38) (fun u38 g39 => [(2, .bool false), (4, .pointer (some ⟨b9, 0, none⟩)), (6, .int .i64 y8.1), (7, s11.v), (8, .int .i64 y10.2), (9, s13.v), (10, .int .i64 y12.2), (12, .int .i64 u15), (13, .int .i64 u24), (14, g39.v), (15, .slice none 0 0)]) (fun u38 g39 => Sat w0 (keys ([] : List Ent)) A [.row R9 (SV.v s13) y12.1, .row R9 (SV.v s11) y10.1, .box b9 28 [s3.v, .int .i64 y2.1.Change, .int .i64 y2.1.Clap, .int .i64 y2.1.Break, .int .i64 y2.1.Half], .row N63.R (SV.v s3) xg4, .ro (Lk N63 y2.1.Items xg4), .row R9 (SV.v g39) u38]) (fun u38 g39 hq => ?_) (fun J cnk41 => ?_)
      · have hm := Sum.fin_l hq hm
        refine cj_seq ?_
        refine cj_seq ?_
        refine cj_reg ?_
        refine lp rfl (p_mv rfl) ?_
        refine lp rfl (p_eql rfl rfl) ?_
        refine lj_seq ?_
        obtain ⟨k48, hk48, hm⟩ := bindS hm
        have hRk48 : ∀ t, k48 = .inr t → some t = some r := fun t e => by rw [e] at hm; exact hm
        refine cj_joinK (σ := (List ByteArray)) (γ := SV) (fun u45 => k48 = .inl u45) (fun u45 g46 => [(2, .bool false), (7, s11.v), (8, .int .i64 y10.2), (9, s13.v), (10, .int .i64 y12.2), (12, .int .i64 u15), (13, .int .i64 u24), (14, g39.v), (15, g46.v)]) (fun u45 g46 => Sat w0 (keys ([] : List Ent)) A [.row R9 (SV.v s13) y12.1, .row R9 (SV.v s11) y10.1, .row R9 (SV.v g39) u38, .row R9 (SV.v g46) u45]) (fun u45 g46 hq => ?_) (fun J cnk48 => ?_)
        · have hm := Sum.fin_l hq hm
          refine cj_seq ?_
          refine cj_reg ?_
          refine lp rfl (p_mv rfl) ?_
          refine lp rfl (p_mv rfl) ?_
          refine lp rfl (p_eql rfl rfl) ?_
          refine lp rfl (p_mv rfl) ?_
          refine lcase (i := 79) (y10.2 == u15) rfl (fun hb => ?_) (fun hb => ?_)
          · have hm := ifB_t hb hm
            refine lg true rfl rfl rfl ?_
            refine lp rfl (p_mv rfl) ?_
            refine lg true rfl rfl rfl ?_
            refine lp rfl (p_mv rfl) ?_
            refine lg true rfl rfl rfl ?_
            obtain ⟨y52, hy52, hm⟩ := bindS hm
            refine r_call [] cf27 rfl rfl (ok_slices_Equal_string_string s11 y10.1 g39 u38 hy52) rfl rfl (.cons (.row 1 rfl) (.cons (.row 2 rfl) .nil)) (fun _ => rfl) rfl (fun _ => ?_)
            refine lp rfl (p_pkt rfl rfl) ?_
            refine lp rfl (p_mv rfl) ?_
            refine lcase (i := 84) y52 rfl (fun hb => ?_) (fun hb => ?_)
            · have hm := ifB_t hb hm
              refine lg true rfl rfl rfl ?_
              refine lp rfl (p_mv rfl) ?_
              refine lg true rfl rfl rfl ?_
              refine lp rfl (p_mv rfl) ?_
              refine lg true rfl rfl rfl ?_
              refine lp rfl (p_eql rfl rfl) ?_
              refine lp rfl (p_pkt rfl rfl) ?_
              refine lp rfl (p_mv rfl) ?_
              refine lcase (i := 89) (y12.2 == u24) rfl (fun hb => ?_) (fun hb => ?_)
              · have hm := ifB_t hb hm
                refine lg true rfl rfl rfl ?_
                refine lp rfl (p_mv rfl) ?_
                refine lg true rfl rfl rfl ?_
                refine lp rfl (p_mv rfl) ?_
                refine lg true rfl rfl rfl ?_
                obtain ⟨y53, hy53, hm⟩ := bindS hm
                refine r_call [] cf27 rfl rfl (ok_slices_Equal_string_string s13 y12.1 g46 u45 hy53) rfl rfl (.cons (.row 0 rfl) (.cons (.row 3 rfl) .nil)) (fun _ => rfl) rfl (fun _ => ?_)
                refine lp rfl (p_pkt rfl rfl) ?_
                refine lp rfl (p_mv rfl) ?_
                refine lcase (i := 94) y53 rfl (fun hb => ?_) (fun hb => ?_)
                · have hm := ifB_t hb hm
                  refine lg true rfl rfl rfl ?_
                  obtain ⟨y54, hy54, hm⟩ := bindS hm
                  refine r_call [] cf20 rfl rfl (ok_gleelaw2_sung  hy54) rfl rfl .nil (fun _ => rfl) rfl (fun _ => ?_)
                  refine lp rfl (p_pkt rfl rfl) ?_
                  refine lp rfl (p_as rfl) ?_
                  refine lj_seq ?_
                  obtain rfl := Option.some.inj hm
                  exact cj_rt () [] Tryd.results5 (.tmp rfl .nil) rfl rfl
                · have hm := ifB_f hb hm
                  refine ls true rfl rfl rfl rfl ?_
                  refine lp rfl (p_pkf rfl rfl) ?_
                  refine lp rfl (p_as rfl) ?_
                  refine lj_seq ?_
                  obtain rfl := Option.some.inj hm
                  exact cj_rt () [] Tryd.results5 (.tmp rfl .nil) rfl rfl
              · have hm := ifB_f hb hm
                refine ls true rfl rfl rfl rfl ?_
                refine ls true rfl rfl rfl rfl ?_
                refine ls true rfl rfl rfl rfl ?_
                refine lp rfl (p_pkf rfl rfl) ?_
                refine lp rfl (p_mv rfl) ?_
                refine ls true rfl rfl rfl rfl ?_
                refine lp rfl (p_pkf rfl rfl) ?_
                refine lp rfl (p_as rfl) ?_
                refine lj_seq ?_
                obtain rfl := Option.some.inj hm
                exact cj_rt () [] Tryd.results5 (.tmp rfl .nil) rfl rfl
            · have hm := ifB_f hb hm
              refine ls true rfl rfl rfl rfl ?_
              refine ls true rfl rfl rfl rfl ?_
              refine ls true rfl rfl rfl rfl ?_
              refine lp rfl (p_pkf rfl rfl) ?_
              refine lp rfl (p_mv rfl) ?_
              refine ls true rfl rfl rfl rfl ?_
              refine ls true rfl rfl rfl rfl ?_
              refine ls true rfl rfl rfl rfl ?_
              refine lp rfl (p_pkf rfl rfl) ?_
              refine lp rfl (p_mv rfl) ?_
              refine ls true rfl rfl rfl rfl ?_
              refine lp rfl (p_pkf rfl rfl) ?_
              refine lp rfl (p_as rfl) ?_
              refine lj_seq ?_
              obtain rfl := Option.some.inj hm
              exact cj_rt () [] Tryd.results5 (.tmp rfl .nil) rfl rfl
          · have hm := ifB_f hb hm
            refine ls true rfl rfl rfl rfl ?_
            refine ls true rfl rfl rfl rfl ?_
            refine ls true rfl rfl rfl rfl ?_
            refine lp rfl (p_pkf rfl rfl) ?_
            refine lp rfl (p_mv rfl) ?_
            refine ls true rfl rfl rfl rfl ?_
            refine ls true rfl rfl rfl rfl ?_
            refine ls true rfl rfl rfl rfl ?_
            refine lp rfl (p_pkf rfl rfl) ?_
            refine lp rfl (p_mv rfl) ?_
            refine ls true rfl rfl rfl rfl ?_
            refine ls true rfl rfl rfl rfl ?_
            refine ls true rfl rfl rfl rfl ?_
            refine lp rfl (p_pkf rfl rfl) ?_
            refine lp rfl (p_mv rfl) ?_
            refine ls true rfl rfl rfl rfl ?_
            refine lp rfl (p_pkf rfl rfl) ?_
            refine lp rfl (p_as rfl) ?_
            refine lj_seq ?_
            obtain rfl := Option.some.inj hm
            exact cj_rt () [] Tryd.results5 (.tmp rfl .nil) rfl rfl
        · have hm := hk48
          refine cj_if (b := u24 == 0) rfl (fun hb => ?_) (fun hb => ?_)
          · have hm := ifB_t hb hm
            refine cj_reg ?_
            refine lp rfl (p_lbw ty28 rfl (j := 2) rfl rfl) ?_
            refine lp rfl (p_mv rfl) ?_
            obtain ⟨y49, hy49, hm⟩ := bindS hm
            refine r_call [] cf39 rfl rfl (ok_gleeref2_EncoresIn y2.1 s3 xg4 y8.1 hy49) rfl rfl (.cons (.ro 4 rfl) (.cons (.row 3 rfl) .nil)) (fun _ => rfl) rfl (fun s50 => ?_)
            refine lp rfl (p_as rfl) ?_
            refine lj_nil ?_
            exact cnk48 _ _ y49 s50 (Option.some.inj hm).symm ⟨rfl, rfl, rfl, rfl, rfl, rfl, rfl, rfl, rfl, trivial⟩ (fun _ h => h.picks [1, 1, 4, 0] rfl)
          · have hm := ifB_f hb hm
            refine cj_skip ?_
            refine nj_nil R9 ?_
            exact cnk48 _ _ [] nilS (Option.some.inj hm).symm ⟨rfl, rfl, rfl, rfl, rfl, rfl, rfl, rfl, rfl, trivial⟩ (fun _ h => h.picks [1, 1, 4, 0] rfl)
      · have hm := hk41
        refine cj_if (b := u15 == 0) rfl (fun hb => ?_) (fun hb => ?_)
        · have hm := ifB_t hb hm
          refine cj_reg ?_
          refine lp rfl (p_lbw ty28 rfl (j := 2) rfl rfl) ?_
          refine lp rfl (p_mv rfl) ?_
          obtain ⟨y42, hy42, hm⟩ := bindS hm
          refine r_call [] cf38 rfl rfl (ok_gleeref2_FittingIn y2.1 s3 xg4 y6.1 hy42) rfl rfl (.cons (.ro 4 rfl) (.cons (.row 3 rfl) .nil)) (fun _ => rfl) rfl (fun s43 => ?_)
          refine lp rfl (p_as rfl) ?_
          refine lj_nil ?_
          exact cnk41 _ _ y42 s43 (Option.some.inj hm).symm ⟨rfl, rfl, rfl, rfl, rfl, rfl, rfl, rfl, rfl, rfl, rfl, trivial⟩ (fun _ h => h.picks [1, 1, 1, 1, 1, 0] rfl)
        · have hm := ifB_f hb hm
          refine cj_skip ?_
          refine nj_nil R9 ?_
          exact cnk41 _ _ [] nilS (Option.some.inj hm).symm ⟨rfl, rfl, rfl, rfl, rfl, rfl, rfl, rfl, rfl, rfl, rfl, trivial⟩ (fun _ h => h.picks [1, 1, 1, 1, 1, 0] rfl)
    · have hm := hk26
      refine bsplit (decide (y8.1 < 0)) (fun hs27 => ?_) (fun hs27 => ?_)
      · have hm := ifB_t hs27 hm
        obtain ⟨y28, hy28, hm⟩ := bindS hm
        obtain ⟨y29, hy29, hm⟩ := bindS hm
        obtain ⟨y31, hy31, hm⟩ := bindS hm
        refine cj_anyT [0, 1, 2, 3, 8, 9, 10, 11, 15] [] (Sat w0 (keys ([] : List Ent)) A [.row R9 (SV.v s13) y12.1, .row R9 (SV.v s11) y10.1, .box b9 28 [s3.v, .int .i64 y2.1.Change, .int .i64 y2.1.Clap, .int .i64 y2.1.Break, .int .i64 y2.1.Half], .row N63.R (SV.v s3) xg4, .ro (Lk N63 y2.1.Items xg4)]) (Sat w0 (keys ([] : List Ent)) A [.row R9 (SV.v s13) y12.1, .row R9 (SV.v s11) y10.1, .box b9 28 [s3.v, .int .i64 y2.1.Change, .int .i64 y2.1.Clap, .int .i64 y2.1.Break, .int .i64 y2.1.Half], .row N63.R (SV.v s3) xg4, .ro (Lk N63 y2.1.Items xg4)]) (by kernel_rfl) ?_
        refine at_take2 0 rfl (by kernel_rfl) (by kernel_rfl) (by kernel_rfl) (fun _ h => h.picks [0, 0, 0, 0, 0] rfl) rfl rfl (p_mv rfl) (fun _ h => h.picks [0, 0, 0, 0, 0] rfl) ?_
        refine at_take2 1 rfl (by kernel_rfl) (by kernel_rfl) (by kernel_rfl) (fun _ h => h.picks [0, 0, 0, 0, 0] rfl) rfl rfl (p_mv rfl) (fun _ h => h.picks [0, 0, 0, 0, 0] rfl) ?_
        refine at_take2 2 rfl (by kernel_rfl) (by kernel_rfl) (by kernel_rfl) (fun _ h => h.picks [0, 0, 0, 0, 0] rfl) rfl rfl (p_to (congrArg Value.bool hs27) (p_lss rfl rfl)) (fun _ h => h.picks [0, 0, 0, 0, 0] rfl) ?_
        refine at_take2 3 rfl (by kernel_rfl) (by kernel_rfl) (by kernel_rfl) (fun _ h => h.picks [0, 0, 0, 0, 0] rfl) rfl rfl (p_mv rfl) (fun _ h => h.picks [0, 0, 0, 0, 0] rfl) ?_
        refine at_take2 8 rfl (by kernel_rfl) (by kernel_rfl) (by kernel_rfl) (fun _ h => h.picks [0, 0, 0, 0, 0] rfl) rfl rfl (p_fab fl28_0 rfl) (fun _ h => h.picks [0, 0, 0, 0, 0] rfl) ?_
        refine at_take2 9 rfl (by kernel_rfl) (by kernel_rfl) (by kernel_rfl) (fun _ h => h.picks [0, 0, 0, 0, 0] rfl) rfl rfl (p_lbs ty26 rfl (j := 2) rfl rfl) (fun _ h => h.picks [0, 0, 0, 0, 0] rfl) ?_
        refine at_take2 10 rfl (by kernel_rfl) (by kernel_rfl) (by kernel_rfl) (fun _ h => h.picks [0, 0, 0, 0, 0] rfl) rfl rfl (p_lenG hLs3 Tryd.underlying26 rfl (.row 3 rfl)) (fun _ h => h.picks [0, 0, 0, 0, 0] rfl) ?_
        refine at_take2 11 rfl (by kernel_rfl) (by kernel_rfl) (by kernel_rfl) (fun _ h => h.picks [0, 0, 0, 0, 0] rfl) rfl rfl (p_eql rfl rfl) (fun _ h => h.picks [0, 0, 0, 0, 0] rfl) ?_
        refine at_each (rs := [4]) (by kernel_rfl) (by decide) ?_
        refine (.cons rfl (fun I cnI => ?_) .nil)
        · refine ls false rfl rfl rfl rfl ?_
          refine lj_nil ?_
          refine cnI _ _ (sof1 rfl rfl (fun _ h => h.picks [0, 0, 0, 0, 0] rfl)) ?_
          refine at_each (rs := [5]) (by kernel_rfl) (by decide) ?_
          refine (.cons rfl (fun I cnI => ?_) .nil)
          · refine ls false rfl rfl rfl rfl ?_
            refine lj_nil ?_
            refine cnI _ _ (sof1 rfl rfl (fun _ h => h.picks [0, 0, 0, 0, 0] rfl)) ?_
            refine at_each (rs := [6]) (by kernel_rfl) (by decide) ?_
            refine (.cons rfl (fun I cnI => ?_) .nil)
            · refine lp rfl (p_pkt rfl rfl) ?_
              refine lj_nil ?_
              refine cnI _ _ (sof1 rfl rfl (fun _ h => h.picks [0, 0, 0, 0, 0] rfl)) ?_
              refine at_each (rs := [7]) (by kernel_rfl) (by decide) ?_
              refine (.cons rfl (fun I cnI => ?_) .nil)
              · refine r_call [] cf24 rfl rfl (ok_gleelaw2_when true 1 hy28) rfl rfl .nil (fun _ => rfl) rfl (fun _ => ?_)
                refine lj_nil ?_
                refine cnI _ _ (sof1 rfl rfl (fun _ h => h.picks [0, 0, 0, 0, 0] rfl)) ?_
                refine at_each (rs := [12]) (by kernel_rfl) (by decide) ?_
                refine (.cons rfl (fun I cnI => ?_) .nil)
                · refine r_call [] cf24 rfl rfl (ok_gleelaw2_when ((y2.1.Items.length : Int) == 0) 8 hy29) rfl rfl .nil (fun _ => rfl) rfl (fun _ => ?_)
                  refine lj_nil ?_
                  refine cnI _ _ (sof1 rfl rfl (fun _ h => h.picks [0, 0, 0, 0, 0] rfl)) ?_
                  refine at_each (rs := [13]) (by kernel_rfl) (by decide) ?_
                  refine (.cons rfl (fun I cnI => ?_) .nil)
                  · refine r_bs R32 [y14, y28, y29] rfl rfl rfl (fun _ => by kernel_rfl) rfl (fun s32 => ?_)
                    refine lj_nil ?_
                    refine cnI _ _ (sof1 rfl rfl (fun _ h => h.picks [1, 1, 1, 1, 1] rfl)) ?_
                    refine at_each (rs := [14]) (by kernel_rfl) (by decide) ?_
                    refine (.cons rfl (fun I cnI => ?_) .nil)
                    · refine r_call [] cf23 rfl rfl (ok_gleelaw2_errs s32 [y14, y28, y29] hy31) rfl rfl (.cons (.row 0 rfl) .nil) (fun _ => rfl) rfl (fun _ => ?_)
                      refine lj_nil ?_
                      refine cnI _ _ (sof1 rfl rfl (fun _ h => h.picks [1, 1, 1, 1, 1] rfl)) ?_
                      refine at_take2 15 rfl (by kernel_rfl) (by kernel_rfl) (by kernel_rfl) (fun _ h => h.picks [0, 0, 0, 0, 0] rfl) rfl rfl (p_as rfl) (fun _ h => h.picks [1, 1, 1, 1, 1] rfl) ?_
                      refine at_done (by kernel_rfl) ?_
                      exact cnk26 _ _ y31 () (Option.some.inj hm).symm ⟨rfl, rfl, rfl, rfl, rfl, rfl, rfl, rfl, rfl, rfl, trivial⟩ (fun _ h => h.picks [1, 1, 1, 1, 1] rfl)
      · have hm := ifB_f hs27 hm
        obtain ⟨y33, hy33, hm⟩ := bindS hm
        obtain ⟨y34, hy34, hm⟩ := bindS hm
        obtain ⟨y36, hy36, hm⟩ := bindS hm
        refine cj_anyT [0, 1, 2, 3, 8, 9, 10, 11, 15] [] (Sat w0 (keys ([] : List Ent)) A [.row R9 (SV.v s13) y12.1, .row R9 (SV.v s11) y10.1, .box b9 28 [s3.v, .int .i64 y2.1.Change, .int .i64 y2.1.Clap, .int .i64 y2.1.Break, .int .i64 y2.1.Half], .row N63.R (SV.v s3) xg4, .ro (Lk N63 y2.1.Items xg4)]) (Sat w0 (keys ([] : List Ent)) A [.row R9 (SV.v s13) y12.1, .row R9 (SV.v s11) y10.1, .box b9 28 [s3.v, .int .i64 y2.1.Change, .int .i64 y2.1.Clap, .int .i64 y2.1.Break, .int .i64 y2.1.Half], .row N63.R (SV.v s3) xg4, .ro (Lk N63 y2.1.Items xg4)]) (by kernel_rfl) ?_
        refine at_take2 0 rfl (by kernel_rfl) (by kernel_rfl) (by kernel_rfl) (fun _ h => h.picks [0, 0, 0, 0, 0] rfl) rfl rfl (p_mv rfl) (fun _ h => h.picks [0, 0, 0, 0, 0] rfl) ?_
        refine at_take2 1 rfl (by kernel_rfl) (by kernel_rfl) (by kernel_rfl) (fun _ h => h.picks [0, 0, 0, 0, 0] rfl) rfl rfl (p_mv rfl) (fun _ h => h.picks [0, 0, 0, 0, 0] rfl) ?_
        refine at_take2 2 rfl (by kernel_rfl) (by kernel_rfl) (by kernel_rfl) (fun _ h => h.picks [0, 0, 0, 0, 0] rfl) rfl rfl (p_to (congrArg Value.bool hs27) (p_lss rfl rfl)) (fun _ h => h.picks [0, 0, 0, 0, 0] rfl) ?_
        refine at_take2 3 rfl (by kernel_rfl) (by kernel_rfl) (by kernel_rfl) (fun _ h => h.picks [0, 0, 0, 0, 0] rfl) rfl rfl (p_mv rfl) (fun _ h => h.picks [0, 0, 0, 0, 0] rfl) ?_
        refine at_take2 8 rfl (by kernel_rfl) (by kernel_rfl) (by kernel_rfl) (fun _ h => h.picks [0, 0, 0, 0, 0] rfl) rfl rfl (p_fab fl28_0 rfl) (fun _ h => h.picks [0, 0, 0, 0, 0] rfl) ?_
        refine at_take2 9 rfl (by kernel_rfl) (by kernel_rfl) (by kernel_rfl) (fun _ h => h.picks [0, 0, 0, 0, 0] rfl) rfl rfl (p_lbs ty26 rfl (j := 2) rfl rfl) (fun _ h => h.picks [0, 0, 0, 0, 0] rfl) ?_
        refine at_take2 10 rfl (by kernel_rfl) (by kernel_rfl) (by kernel_rfl) (fun _ h => h.picks [0, 0, 0, 0, 0] rfl) rfl rfl (p_lenG hLs3 Tryd.underlying26 rfl (.row 3 rfl)) (fun _ h => h.picks [0, 0, 0, 0, 0] rfl) ?_
        refine at_take2 11 rfl (by kernel_rfl) (by kernel_rfl) (by kernel_rfl) (fun _ h => h.picks [0, 0, 0, 0, 0] rfl) rfl rfl (p_eql rfl rfl) (fun _ h => h.picks [0, 0, 0, 0, 0] rfl) ?_
        refine at_each (rs := [4]) (by kernel_rfl) (by decide) ?_
        refine (.cons rfl (fun I cnI => ?_) .nil)
        · refine lg false rfl rfl rfl ?_
          refine lp rfl (p_mv rfl) ?_
          refine lj_nil ?_
          refine cnI _ _ (sof1 rfl rfl (fun _ h => h.picks [0, 0, 0, 0, 0] rfl)) ?_
          refine at_each (rs := [5]) (by kernel_rfl) (by decide) ?_
          refine (.cons rfl (fun I cnI => ?_) .nil)
          · refine lg false rfl rfl rfl ?_
            refine lp rfl (p_gtr rfl rfl) ?_
            refine lj_nil ?_
            refine cnI _ _ (sof1 rfl rfl (fun _ h => h.picks [0, 0, 0, 0, 0] rfl)) ?_
            refine at_each (rs := [6]) (by kernel_rfl) (by decide) ?_
            refine (.cons rfl (fun I cnI => ?_) .nil)
            · refine lp rfl (p_pkf rfl rfl) ?_
              refine lj_nil ?_
              refine cnI _ _ (sof1 rfl rfl (fun _ h => h.picks [0, 0, 0, 0, 0] rfl)) ?_
              refine at_each (rs := [7]) (by kernel_rfl) (by decide) ?_
              refine (.cons rfl (fun I cnI => ?_) .nil)
              · refine r_call [] cf24 rfl rfl (ok_gleelaw2_when (decide (y8.1 > 86400000)) 1 hy33) rfl rfl .nil (fun _ => rfl) rfl (fun _ => ?_)
                refine lj_nil ?_
                refine cnI _ _ (sof1 rfl rfl (fun _ h => h.picks [0, 0, 0, 0, 0] rfl)) ?_
                refine at_each (rs := [12]) (by kernel_rfl) (by decide) ?_
                refine (.cons rfl (fun I cnI => ?_) .nil)
                · refine r_call [] cf24 rfl rfl (ok_gleelaw2_when ((y2.1.Items.length : Int) == 0) 8 hy34) rfl rfl .nil (fun _ => rfl) rfl (fun _ => ?_)
                  refine lj_nil ?_
                  refine cnI _ _ (sof1 rfl rfl (fun _ h => h.picks [0, 0, 0, 0, 0] rfl)) ?_
                  refine at_each (rs := [13]) (by kernel_rfl) (by decide) ?_
                  refine (.cons rfl (fun I cnI => ?_) .nil)
                  · refine r_bs R32 [y14, y33, y34] rfl rfl rfl (fun _ => by kernel_rfl) rfl (fun s37 => ?_)
                    refine lj_nil ?_
                    refine cnI _ _ (sof1 rfl rfl (fun _ h => h.picks [1, 1, 1, 1, 1] rfl)) ?_
                    refine at_each (rs := [14]) (by kernel_rfl) (by decide) ?_
                    refine (.cons rfl (fun I cnI => ?_) .nil)
                    · refine r_call [] cf23 rfl rfl (ok_gleelaw2_errs s37 [y14, y33, y34] hy36) rfl rfl (.cons (.row 0 rfl) .nil) (fun _ => rfl) rfl (fun _ => ?_)
                      refine lj_nil ?_
                      refine cnI _ _ (sof1 rfl rfl (fun _ h => h.picks [1, 1, 1, 1, 1] rfl)) ?_
                      refine at_take2 15 rfl (by kernel_rfl) (by kernel_rfl) (by kernel_rfl) (fun _ h => h.picks [0, 0, 0, 0, 0] rfl) rfl rfl (p_as rfl) (fun _ h => h.picks [1, 1, 1, 1, 1] rfl) ?_
                      refine at_done (by kernel_rfl) ?_
                      exact cnk26 _ _ y36 () (Option.some.inj hm).symm ⟨rfl, rfl, rfl, rfl, rfl, rfl, rfl, rfl, rfl, rfl, trivial⟩ (fun _ h => h.picks [1, 1, 1, 1, 1] rfl)
  · have hm := hk17
    refine lp rfl (p_mv rfl) ?_
    refine lp rfl (p_mv rfl) ?_
    refine lp rfl (p_lss rfl rfl) ?_
    refine lp rfl (p_mv rfl) ?_
    refine lcase (i := 44) (decide (y6.1 < 0)) rfl (fun hb => ?_) (fun hb => ?_)
    · have hm := ifB_t hb hm
      refine ls false rfl rfl rfl rfl ?_
      refine ls false rfl rfl rfl rfl ?_
      refine lp rfl (p_pkt rfl rfl) ?_
      obtain ⟨y18, hy18, hm⟩ := bindS hm
      refine r_call [] cf24 rfl rfl (ok_gleelaw2_when true 1 hy18) rfl rfl .nil (fun _ => rfl) rfl (fun _ => ?_)
      refine r_bs R32 [y14, y18] rfl rfl rfl (fun _ => by kernel_rfl) rfl (fun s19 => ?_)
      obtain ⟨y20, hy20, hm⟩ := bindS hm
      refine r_call [] cf23 rfl rfl (ok_gleelaw2_errs s19 [y14, y18] hy20) rfl rfl (.cons (.row 0 rfl) .nil) (fun _ => rfl) rfl (fun _ => ?_)
      refine lp rfl (p_as rfl) ?_
      refine lj_nil ?_
      exact cnk17 _ _ y20 () (Option.some.inj hm).symm ⟨rfl, rfl, rfl, rfl, rfl, rfl, rfl, rfl, rfl, rfl, trivial⟩ (fun _ h => h.picks [1, 1, 1, 4, 4] rfl)
    · have hm := ifB_f hb hm
      refine lg false rfl rfl rfl ?_
      refine lp rfl (p_mv rfl) ?_
      refine lg false rfl rfl rfl ?_
      refine lp rfl (p_gtr rfl rfl) ?_
      refine lp rfl (p_pkf rfl rfl) ?_
      obtain ⟨y21, hy21, hm⟩ := bindS hm
      refine r_call [] cf24 rfl rfl (ok_gleelaw2_when (decide (y6.1 > 5184000000)) 1 hy21) rfl rfl .nil (fun _ => rfl) rfl (fun _ => ?_)
      refine r_bs R32 [y14, y21] rfl rfl rfl (fun _ => by kernel_rfl) rfl (fun s22 => ?_)
      obtain ⟨y23, hy23, hm⟩ := bindS hm
      refine r_call [] cf23 rfl rfl (ok_gleelaw2_errs s22 [y14, y21] hy23) rfl rfl (.cons (.row 0 rfl) .nil) (fun _ => rfl) rfl (fun _ => ?_)
      refine lp rfl (p_as rfl) ?_
      refine lj_nil ?_
      exact cnk17 _ _ y23 () (Option.some.inj hm).symm ⟨rfl, rfl, rfl, rfl, rfl, rfl, rfl, rfl, rfl, rfl, trivial⟩ (fun _ h => h.picks [1, 1, 1, 4, 4] rfl)
end Go.Proofs.YtpllnghmnihjhaaDoor
