/- The walks. Written by program. -/
import Derived.Test.YtgjbeigeejhfkaaDoorW
namespace Go.Proofs.YtgjbeigeejhfkaaDoor
open Go Go.J Go.G
set_option maxRecDepth 100000
set_option linter.unusedVariables false
theorem ok_gleeref2_ItemsFault (s0_ : SV) (xg0_ : List (TItem × SV)) (a0 : (List TItem)) {r : Int} (hm : m_gleeref2_ItemsFault a0 = some r) :
    Ctr Tryd.prog 32 [s0_.v].toArray ([] : List Ent) [Lk N46 a0 xg0_, RdS N46.R (SV.v s0_) xg0_] (X := Unit) (fun _ => .int .i64 r) (fun _ => []) := by
  unfold m_gleeref2_ItemsFault at hm
  refine ctr_mk (vs := [(0, s0_.v)]) Tryd.func32 rfl Tryd.ntmps32 rfl ⟨rfl, trivial⟩ (fun w0 A => ?_)
  refine cj_pure (F := Lk N46 a0 xg0_) (.ro 0 rfl) (fun _ h => h.1) (fun hL0_ => ?_)
  refine cj_seq ?_
  refine cj_reg ?_
  refine lp rfl (p_as rfl) ?_
  refine lj_seq ?_
  refine cj_seq ?_
  refine cj_seq ?_
  refine cj_reg ?_
  refine lp rfl (p_mv rfl) ?_
  refine lp rfl (p_lenG hL0_ Tryd.underlying26 rfl (.ro 1 rfl)) ?_
  refine lp rfl (p_gtr rfl rfl) ?_
  refine lj_seq ?_
  refine cj_if (b := decide ((a0.length : Int) > 60)) rfl (fun hb => ?_) (fun hb => ?_)
  · have hm := ifB_t hb hm
    refine cj_seq ?_
    refine cj_reg ?_
    refine lp rfl (p_as rfl) ?_
    refine lj_seq ?_
    obtain rfl := Option.some.inj hm
    exact cj_rt () [] Tryd.results32 (.tmp rfl .nil) rfl rfl
  · have hm := ifB_f hb hm
    refine cj_skip ?_
    refine nj_seq ?_
    refine cj_seq ?_
    refine cj_seq ?_
    refine cj_reg ?_
    refine lp rfl (p_mv rfl) ?_
    refine lp rfl (p_lenG hL0_ Tryd.underlying26 rfl (.ro 1 rfl)) ?_
    refine lp rfl (p_mv rfl) ?_
    refine lj_seq ?_
    obtain ⟨f7, hf7, hm⟩ := bindS hm
    refine cj_range (γ := Unit) (m := (a0.length : Int)) hf7 () (fun u4 g5 => [(0, s0_.v), (2, .int .i64 0), (9, s0_.v)]) (fun u4 g5 => Sat w0 (keys ([] : List Ent)) A [.ro (Lk N46 a0 xg0_), .ro (RdS N46.R (SV.v s0_) xg0_)]) ⟨rfl, rfl, rfl, rfl, rfl, trivial⟩ (fun _ h => h.picks [0, 0] rfl) (nat_lt _) (fun _ h => by have h1 := (FactAt.get (F := RdS N46.R (SV.v s0_) xg0_) (.ro 1 rfl) h).1; rw [lk_len hL0_] at h1; exact h1) (fun _ _ => ⟨rfl, rfl, rfl, rfl⟩) ⟨rfl, rfl, rfl, rfl, rfl⟩ rfl rfl rfl (fun u4 g5 e => ?_) (fun aftk6 i1 x2 u4 g5 k6 hx3 hs J hJk6 hBk6 hX I cnk6 => ?_)
    · have hm := Flow.fin_b e hm
      refine nj_seq ?_
      refine cj_seq ?_
      refine cj_reg ?_
      refine lp rfl (p_as rfl) ?_
      refine lj_seq ?_
      obtain rfl := Option.some.inj hm
      exact cj_rt () [] Tryd.results32 (.tmp rfl .nil) rfl rfl
    · have hRk6 : ∀ t, k6 = .ret t → some t = some r := fun t e => by rw [hX t e] at hm; exact hm
      have hm := hs
      refine cj_seq ?_
      refine cj_reg ?_
      refine lp rfl (p_mv rfl) ?_
      obtain ⟨gx2, hx3G⟩ := lk_get hL0_ hx3
      refine lp rfl (p_idx Tryd.underlying26 ty46 rfl rfl (.ro 1 rfl) (getI_nat.trans hx3G)) ?_
      refine lp rfl (p_leaN (cs := [.string x2.Key, .string x2.Places, .int .i64 x2.Long, gx2.v]) ty46 rfl (.ro 1 rfl) hx3G rfl) ?_
      refine r_al ty46 rfl (fun b8 => ?_)
      refine lp rfl (p_as rfl) ?_
      refine r_sb (vs := [.string x2.Key, .string x2.Places, .int .i64 x2.Long, gx2.v]) (j := 0) ty46 rfl rfl rfl rfl rfl rfl rfl ?_
      refine lj_seq ?_
      refine cj_seq ?_
      refine cj_blk ?_
      refine cj_seq ?_
      refine cj_reg ?_
      obtain ⟨k11, hk11, hm⟩ := bindS hm
      have hRk11 : ∀ t, k11 = .inr t → some t = some k6 := fun t e => by rw [e] at hm; exact hm
      refine lj_join (σ := Bool) (γ := Unit) (fun u9 => k11 = .inl u9) (fun u9 g10 => [(0, s0_.v), (2, .int .i64 0), (3, .int .i64 (i1 : Int)), (4, .pointer (some ⟨b8, 0, none⟩)), (9, s0_.v), (10, .int .i64 (a0.length : Int)), (11, .int .i64 (i1 : Int)), (16, .bool u9)]) (fun u9 g10 => Sat w0 (keys ([] : List Ent)) A [.box b8 46 [.string x2.Key, .string x2.Places, .int .i64 x2.Long, gx2.v], .ro (Lk N46 a0 xg0_), .ro (RdS N46.R (SV.v s0_) xg0_)]) (fun u9 g10 hq => ?_) (fun J cnk11 => ?_)
      · have hm := Sum.fin_l hq hm
        refine cj_if (b := u9) rfl (fun hb => ?_) (fun hb => ?_)
        · have hm := ifB_t hb hm
          refine cj_seq ?_
          refine cj_reg ?_
          refine lp rfl (p_as rfl) ?_
          refine lj_seq ?_
          have hm := hRk6 _ (Option.some.inj hm).symm
          obtain rfl := Option.some.inj hm
          exact cj_rt () [] Tryd.results32 (.tmp rfl .nil) rfl rfl
        · have hm := ifB_f hb hm
          refine cj_seq ?_
          refine cj_quiet (by kernel_rfl) (by kernel_rfl) ?_
          refine q_p rfl (p_mv rfl) ?_
          refine q_p rfl (p_mv rfl) ?_
          obtain ⟨q14, hq14, hm⟩ := bindS hm
          obtain ⟨q14G, hq14G, hLq14, hsq14⟩ := lk_cut hL0_ hq14
          refine q_p rfl (p_cut Tryd.underlying26 ty46 rfl rfl rfl rfl rfl (.ro 2 rfl) rfl rfl hq14G) ?_
          refine q_p rfl (p_fab fl46_0 rfl) ?_
          refine q_p rfl (p_lbs ty9 rfl (j := 0) rfl rfl) ?_
          obtain ⟨y15, hy15, hm⟩ := bindS hm
          refine q_call (.int .i64 y15) cf41 rfl rfl (ok_gleeref2_ItemAt (s0_.sub N46.R.sz (0 : Int).toNat (i1 : Int).toNat) q14G q14 x2.Key hy15) (.cons (.imp (.ro 1 rfl) (fun _ h => Lk.sub h hLq14 hsq14)) (.cons (.imp (.ro 2 rfl) (fun _ h => h.cut hq14G)) .nil)) (fun _ => rfl) (fun _ => rfl) rfl ?_
          refine q_p rfl (p_geq rfl rfl) ?_
          refine q_p rfl (p_as rfl) ?_
          refine q_nil ?_
          refine nj_seq ?_
          refine cj_if (b := decide (y15 ≥ 0)) rfl (fun hb => ?_) (fun hb => ?_)
          · have hm := ifB_t hb hm
            refine cj_seq ?_
            refine cj_reg ?_
            refine lp rfl (p_as rfl) ?_
            refine lj_seq ?_
            have hm := hRk6 _ (Option.some.inj hm).symm
            obtain rfl := Option.some.inj hm
            exact cj_rt () [] Tryd.results32 (.tmp rfl .nil) rfl rfl
          · have hm := ifB_f hb hm
            refine cj_seq ?_
            refine cj_reg ?_
            refine lp rfl (p_fab fl46_2 rfl) ?_
            refine lp rfl (p_lbs ty3 rfl (j := 0) rfl rfl) ?_
            obtain ⟨y16, hy16, hm⟩ := bindS hm
            refine r_call [] cf33 rfl rfl (ok_gleeref2_in x2.Long 1 86400000 hy16) rfl rfl .nil (fun _ => rfl) rfl (fun _ => ?_)
            refine lp rfl (p_not rfl) ?_
            refine lp rfl (p_as rfl) ?_
            refine lj_seq ?_
            refine cj_if (b := !y16) rfl (fun hb => ?_) (fun hb => ?_)
            · have hm := ifB_t hb hm
              refine cj_seq ?_
              refine cj_reg ?_
              refine lp rfl (p_as rfl) ?_
              refine lj_seq ?_
              have hm := hRk6 _ (Option.some.inj hm).symm
              obtain rfl := Option.some.inj hm
              exact cj_rt () [] Tryd.results32 (.tmp rfl .nil) rfl rfl
            · have hm := ifB_f hb hm
              refine cj_seq ?_
              refine cj_reg ?_
              refine lp rfl (p_fab fl46_3 rfl) ?_
              refine lp rfl (p_lbs ty30 rfl (j := 0) rfl rfl) ?_
              refine lp rfl (p_len Tryd.underlying30 rfl (.imp (.ro 1 rfl) (fun _ h => (Lk.at_ h hx3G)))) ?_
              refine lp rfl (p_eql rfl rfl) ?_
              refine lp rfl (p_as rfl) ?_
              refine lj_seq ?_
              refine cj_if (b := (x2.Parts.length : Int) == 0) rfl (fun hb => ?_) (fun hb => ?_)
              · have hm := ifB_t hb hm
                refine cj_seq ?_
                refine cj_reg ?_
                refine lp rfl (p_as rfl) ?_
                refine lj_seq ?_
                have hm := hRk6 _ (Option.some.inj hm).symm
                obtain rfl := Option.some.inj hm
                exact cj_rt () [] Tryd.results32 (.tmp rfl .nil) rfl rfl
              · have hm := ifB_f hb hm
                refine cj_seq ?_
                refine cj_reg ?_
                refine lp rfl (p_fab fl46_3 rfl) ?_
                refine lp rfl (p_lbs ty30 rfl (j := 0) rfl rfl) ?_
                refine lp rfl (p_len Tryd.underlying30 rfl (.imp (.ro 1 rfl) (fun _ h => (Lk.at_ h hx3G)))) ?_
                refine lp rfl (p_gtr rfl rfl) ?_
                refine lp rfl (p_as rfl) ?_
                refine lj_seq ?_
                refine cj_if (b := decide ((x2.Parts.length : Int) > 12)) rfl (fun hb => ?_) (fun hb => ?_)
                · have hm := ifB_t hb hm
                  refine cj_seq ?_
                  refine cj_reg ?_
                  refine lp rfl (p_as rfl) ?_
                  refine lj_seq ?_
                  have hm := hRk6 _ (Option.some.inj hm).symm
                  obtain rfl := Option.some.inj hm
                  exact cj_rt () [] Tryd.results32 (.tmp rfl .nil) rfl rfl
                · have hm := ifB_f hb hm
                  refine cj_skip ?_
                  refine nj_blk ?_
                  refine nj_seq ?_
                  refine cj_seq ?_
                  refine cj_reg ?_
                  refine lp rfl (p_fab fl46_3 rfl) ?_
                  refine lp rfl (p_lbs ty30 rfl (j := 0) rfl rfl) ?_
                  obtain ⟨y17, hy17, hm⟩ := bindS hm
                  refine r_call [] cf55 rfl rfl (ok_gleeref2_Rising gx2 x2.Parts hy17) rfl rfl (.cons (.imp (.ro 1 rfl) (fun _ h => (Lk.at_ h hx3G))) .nil) (fun _ => rfl) rfl (fun _ => ?_)
                  refine lp rfl (p_as rfl) ?_
                  refine lj_seq ?_
                  refine cj_seq ?_
                  refine cj_reg ?_
                  refine lp rfl (p_mv rfl) ?_
                  refine lp rfl (p_neq rfl rfl) ?_
                  refine lj_seq ?_
                  refine cj_if (b := y17 != 0) rfl (fun hb => ?_) (fun hb => ?_)
                  · have hm := ifB_t hb hm
                    refine cj_seq ?_
                    refine cj_reg ?_
                    refine lp rfl (p_mv rfl) ?_
                    refine lp rfl (p_as rfl) ?_
                    refine lj_seq ?_
                    have hm := hRk6 _ (Option.some.inj hm).symm
                    obtain rfl := Option.some.inj hm
                    exact cj_rt () [] Tryd.results32 (.tmp rfl .nil) rfl rfl
                  · have hm := ifB_f hb hm
                    refine cj_skip ?_
                    refine nj_blk ?_
                    exact cnk6 _ _ () () (hJk6 _ (Option.some.inj hm).symm) ⟨rfl, rfl, rfl, rfl, rfl, trivial⟩ (fun _ h => h.picks [1, 1] rfl)
      · have hm := hk11
        refine lp rfl (p_fab fl46_0 rfl) ?_
        refine lp rfl (p_lbs ty9 rfl (j := 0) rfl rfl) ?_
        obtain ⟨y12, hy12, hm⟩ := bindS hm
        refine r_call [] cf54 rfl rfl (ok_gleeref2_Key x2.Key hy12) rfl rfl .nil (fun _ => rfl) rfl (fun _ => ?_)
        refine lp rfl (p_not rfl) ?_
        refine lp rfl (p_mv rfl) ?_
        refine lcase (i := 21) (!y12) rfl (fun hb => ?_) (fun hb => ?_)
        · have hm := ifB_t hb hm
          refine ls false rfl rfl rfl rfl ?_
          refine ls false rfl rfl rfl rfl ?_
          refine ls false rfl rfl rfl rfl ?_
          refine ls false rfl rfl rfl rfl ?_
          refine lp rfl (p_pkt rfl rfl) ?_
          refine lp rfl (p_as rfl) ?_
          refine lj_nil ?_
          exact cnk11 _ _ true () (Option.some.inj hm).symm ⟨rfl, rfl, rfl, rfl, rfl, rfl, rfl, rfl, trivial⟩ (fun _ h => h.picks [0, 0, 0] rfl)
        · have hm := ifB_f hb hm
          refine lg false rfl rfl rfl ?_
          refine lp rfl (p_fab fl46_1 rfl) ?_
          refine lg false rfl rfl rfl ?_
          refine lp rfl (p_lbs ty9 rfl (j := 0) rfl rfl) ?_
          refine lg false rfl rfl rfl ?_
          obtain ⟨y13, hy13, hm⟩ := bindS hm
          refine r_call [] cf54 rfl rfl (ok_gleeref2_Key x2.Places hy13) rfl rfl .nil (fun _ => rfl) rfl (fun _ => ?_)
          refine lg false rfl rfl rfl ?_
          refine lp rfl (p_not rfl) ?_
          refine lp rfl (p_pkf rfl rfl) ?_
          refine lp rfl (p_as rfl) ?_
          refine lj_nil ?_
          exact cnk11 _ _ (!y13) () (Option.some.inj hm).symm ⟨rfl, rfl, rfl, rfl, rfl, rfl, rfl, rfl, trivial⟩ (fun _ h => h.picks [0, 0, 0] rfl)
theorem ok_gleeref2_ProgramFault (a0 : TProgram) (s0_0_ : SV) (xg0_0_ : List (TItem × SV)) {r : Int} (hm : m_gleeref2_ProgramFault a0 = some r) :
    Ctr Tryd.prog 7 [.agg [s0_0_.v, .int .i64 a0.Change, .int .i64 a0.Clap, .int .i64 a0.Break, .int .i64 a0.Half].toArray].toArray ([] : List Ent) [Lk N46 a0.Items xg0_0_, RdS N46.R (SV.v s0_0_) xg0_0_] (X := Unit) (fun _ => .int .i64 r) (fun _ => []) := by
  unfold m_gleeref2_ProgramFault at hm
  refine ctr_mk (vs := [(0, .agg [s0_0_.v, .int .i64 a0.Change, .int .i64 a0.Clap, .int .i64 a0.Break, .int .i64 a0.Half].toArray)]) Tryd.func7 rfl Tryd.ntmps7 rfl ⟨rfl, trivial⟩ (fun w0 A => ?_)
  refine cj_pure (F := Lk N46 a0.Items xg0_0_) (.ro 0 rfl) (fun _ h => h.1) (fun hL0_0_ => ?_)
  refine cj_seq ?_
  refine cj_reg ?_
  refine r_bx (cs := [s0_0_.v, .int .i64 a0.Change, .int .i64 a0.Clap, .int .i64 a0.Break, .int .i64 a0.Half]) rfl rfl rfl (fun b1 => ?_)
  refine lp rfl (p_as rfl) ?_
  refine lj_seq ?_
  refine cj_seq ?_
  refine cj_seq ?_
  refine cj_reg ?_
  refine lp rfl (p_fab fl28_0 rfl) ?_
  refine lp rfl (p_lbs ty26 rfl (j := 0) rfl rfl) ?_
  obtain ⟨y2, hy2, hm⟩ := bindS hm
  refine r_call [] cf32 rfl rfl (ok_gleeref2_ItemsFault s0_0_ xg0_0_ a0.Items hy2) rfl rfl (.cons (.ro 1 rfl) (.cons (.ro 2 rfl) .nil)) (fun _ => rfl) rfl (fun _ => ?_)
  refine lp rfl (p_as rfl) ?_
  refine lj_seq ?_
  refine cj_seq ?_
  refine cj_reg ?_
  refine lp rfl (p_mv rfl) ?_
  refine lp rfl (p_neq rfl rfl) ?_
  refine lj_seq ?_
  refine cj_if (b := y2 != 0) rfl (fun hb => ?_) (fun hb => ?_)
  · have hm := ifB_t hb hm
    refine cj_seq ?_
    refine cj_reg ?_
    refine lp rfl (p_mv rfl) ?_
    refine lp rfl (p_as rfl) ?_
    refine lj_seq ?_
    obtain rfl := Option.some.inj hm
    exact cj_rt () [] Tryd.results7 (.tmp rfl .nil) rfl rfl
  · have hm := ifB_f hb hm
    refine cj_skip ?_
    refine nj_seq ?_
    refine cj_seq ?_
    refine cj_seq ?_
    refine cj_reg ?_
    obtain ⟨k5, hk5, hm⟩ := bindS hm
    have hRk5 : ∀ t, k5 = .inr t → some t = some r := fun t e => by rw [e] at hm; exact hm
    refine lj_join (σ := Bool) (γ := Unit) (fun u3 => k5 = .inl u3) (fun u3 g4 => [(2, .int .i64 0), (36, .bool u3)]) (fun u3 g4 => Sat w0 (keys ([] : List Ent)) A []) (fun u3 g4 hq => ?_) (fun J cnk5 => ?_)
    · have hm := Sum.fin_l hq hm
      refine cj_if (b := u3) rfl (fun hb => ?_) (fun hb => ?_)
      · have hm := ifB_t hb hm
        refine cj_seq ?_
        refine cj_reg ?_
        refine lp rfl (p_as rfl) ?_
        refine lj_seq ?_
        obtain rfl := Option.some.inj hm
        exact cj_rt () [] Tryd.results7 (.tmp rfl .nil) rfl rfl
      · have hm := ifB_f hb hm
        refine cj_skip ?_
        refine nj_seq ?_
        refine cj_seq ?_
        refine cj_reg ?_
        refine lp rfl (p_as rfl) ?_
        refine lj_seq ?_
        obtain rfl := Option.some.inj hm
        exact cj_rt () [] Tryd.results7 (.tmp rfl .nil) rfl rfl
    · have hm := hk5
      refine lp rfl (p_fab fl28_1 rfl) ?_
      refine lp rfl (p_lbs ty3 rfl (j := 0) rfl rfl) ?_
      obtain ⟨y6, hy6, hm⟩ := bindS hm
      refine r_call [] cf33 rfl rfl (ok_gleeref2_in a0.Change 0 86400000 hy6) rfl rfl .nil (fun _ => rfl) rfl (fun _ => ?_)
      refine lp rfl (p_not rfl) ?_
      refine lp rfl (p_mv rfl) ?_
      refine lcase (i := 14) (!y6) rfl (fun hb => ?_) (fun hb => ?_)
      · have hm := ifB_t hb hm
        refine ls false rfl rfl rfl rfl ?_
        refine ls false rfl rfl rfl rfl ?_
        refine ls false rfl rfl rfl rfl ?_
        refine ls false rfl rfl rfl rfl ?_
        refine lp rfl (p_pkt rfl rfl) ?_
        refine lp rfl (p_mv rfl) ?_
        refine ls false rfl rfl rfl rfl ?_
        refine ls false rfl rfl rfl rfl ?_
        refine ls false rfl rfl rfl rfl ?_
        refine ls false rfl rfl rfl rfl ?_
        refine lp rfl (p_pkt rfl rfl) ?_
        refine lp rfl (p_mv rfl) ?_
        refine ls false rfl rfl rfl rfl ?_
        refine ls false rfl rfl rfl rfl ?_
        refine ls false rfl rfl rfl rfl ?_
        refine ls false rfl rfl rfl rfl ?_
        refine ls false rfl rfl rfl rfl ?_
        refine ls false rfl rfl rfl rfl ?_
        refine ls false rfl rfl rfl rfl ?_
        refine ls false rfl rfl rfl rfl ?_
        refine ls false rfl rfl rfl rfl ?_
        refine lp rfl (p_pkt rfl rfl) ?_
        refine lj_nil ?_
        exact cnk5 _ _ true () (Option.some.inj hm).symm ⟨rfl, rfl, trivial⟩ (fun _ h => h.picks [] rfl)
      · have hm := ifB_f hb hm
        refine lg false rfl rfl rfl ?_
        refine lp rfl (p_fab fl28_2 rfl) ?_
        refine lg false rfl rfl rfl ?_
        refine lp rfl (p_lbs ty3 rfl (j := 0) rfl rfl) ?_
        refine lg false rfl rfl rfl ?_
        obtain ⟨y7, hy7, hm⟩ := bindS hm
        refine r_call [] cf33 rfl rfl (ok_gleeref2_in a0.Clap 0 86400000 hy7) rfl rfl .nil (fun _ => rfl) rfl (fun _ => ?_)
        refine lg false rfl rfl rfl ?_
        refine lp rfl (p_not rfl) ?_
        refine lp rfl (p_pkf rfl rfl) ?_
        refine lp rfl (p_mv rfl) ?_
        refine lcase (i := 20) (!y7) rfl (fun hb => ?_) (fun hb => ?_)
        · have hm := ifB_t hb hm
          refine ls false rfl rfl rfl rfl ?_
          refine ls false rfl rfl rfl rfl ?_
          refine ls false rfl rfl rfl rfl ?_
          refine ls false rfl rfl rfl rfl ?_
          refine lp rfl (p_pkt rfl rfl) ?_
          refine lp rfl (p_mv rfl) ?_
          refine ls false rfl rfl rfl rfl ?_
          refine ls false rfl rfl rfl rfl ?_
          refine ls false rfl rfl rfl rfl ?_
          refine ls false rfl rfl rfl rfl ?_
          refine ls false rfl rfl rfl rfl ?_
          refine ls false rfl rfl rfl rfl ?_
          refine ls false rfl rfl rfl rfl ?_
          refine ls false rfl rfl rfl rfl ?_
          refine ls false rfl rfl rfl rfl ?_
          refine lp rfl (p_pkt rfl rfl) ?_
          refine lj_nil ?_
          exact cnk5 _ _ true () (Option.some.inj hm).symm ⟨rfl, rfl, trivial⟩ (fun _ h => h.picks [] rfl)
        · have hm := ifB_f hb hm
          refine lg false rfl rfl rfl ?_
          refine lp rfl (p_fab fl28_3 rfl) ?_
          refine lg false rfl rfl rfl ?_
          refine lp rfl (p_lbs ty3 rfl (j := 0) rfl rfl) ?_
          refine lg false rfl rfl rfl ?_
          obtain ⟨y8, hy8, hm⟩ := bindS hm
          refine r_call [] cf33 rfl rfl (ok_gleeref2_in a0.Break 0 86400000 hy8) rfl rfl .nil (fun _ => rfl) rfl (fun _ => ?_)
          refine lg false rfl rfl rfl ?_
          refine lp rfl (p_not rfl) ?_
          refine lp rfl (p_pkf rfl rfl) ?_
          refine lp rfl (p_mv rfl) ?_
          refine lcase (i := 26) (!y8) rfl (fun hb => ?_) (fun hb => ?_)
          · have hm := ifB_t hb hm
            refine ls false rfl rfl rfl rfl ?_
            refine ls false rfl rfl rfl rfl ?_
            refine ls false rfl rfl rfl rfl ?_
            refine ls false rfl rfl rfl rfl ?_
            refine ls false rfl rfl rfl rfl ?_
            refine ls false rfl rfl rfl rfl ?_
            refine ls false rfl rfl rfl rfl ?_
            refine ls false rfl rfl rfl rfl ?_
            refine ls false rfl rfl rfl rfl ?_
            refine lp rfl (p_pkt rfl rfl) ?_
            refine lj_nil ?_
            exact cnk5 _ _ true () (Option.some.inj hm).symm ⟨rfl, rfl, trivial⟩ (fun _ h => h.picks [] rfl)
          · have hm := ifB_f hb hm
            refine lg false rfl rfl rfl ?_
            refine lp rfl (p_fab fl28_4 rfl) ?_
            refine lg false rfl rfl rfl ?_
            refine lp rfl (p_lbs ty3 rfl (j := 0) rfl rfl) ?_
            refine lg false rfl rfl rfl ?_
            refine lp rfl (p_fab fl28_0 rfl) ?_
            refine lg false rfl rfl rfl ?_
            refine lp rfl (p_lbs ty26 rfl (j := 0) rfl rfl) ?_
            refine lg false rfl rfl rfl ?_
            refine lp rfl (p_lenG hL0_0_ Tryd.underlying26 rfl (.ro 2 rfl)) ?_
            refine lg false rfl rfl rfl ?_
            refine lp rfl (p_sub rfl rfl) ?_
            refine lg false rfl rfl rfl ?_
            refine lp rfl (p_max rfl rfl) ?_
            refine lg false rfl rfl rfl ?_
            obtain ⟨y9, hy9, hm⟩ := bindS hm
            refine r_call [] cf33 rfl rfl (ok_gleeref2_in a0.Half (-1) (max (-1) (w64 ((a0.Items.length : Int) - 2))) hy9) rfl rfl .nil (fun _ => rfl) rfl (fun _ => ?_)
            refine lg false rfl rfl rfl ?_
            refine lp rfl (p_not rfl) ?_
            refine lp rfl (p_pkf rfl rfl) ?_
            refine lj_nil ?_
            exact cnk5 _ _ (!y9) () (Option.some.inj hm).symm ⟨rfl, rfl, trivial⟩ (fun _ h => h.picks [] rfl)
theorem ok_gleelaw2_when (a0 : Bool) (a1 : Int) {r : Int} (hm : m_gleelaw2_when a0 a1 = some r) :
    Ctr Tryd.prog 9 [.bool a0, .int .i64 a1].toArray ([] : List Ent) [] (X := Unit) (fun _ => .int .i64 r) (fun _ => []) := by
  unfold m_gleelaw2_when at hm
  refine ctr_mk (vs := [(0, .bool a0), (1, .int .i64 a1)]) Tryd.func9 rfl Tryd.ntmps9 rfl ⟨rfl, rfl, trivial⟩ (fun w0 A => ?_)
  refine cj_seq ?_
  refine cj_reg ?_
  refine lp rfl (p_as rfl) ?_
  refine lj_seq ?_
  refine cj_seq ?_
  refine cj_seq ?_
  refine cj_reg ?_
  refine lp rfl (p_mv rfl) ?_
  refine lj_seq ?_
  refine cj_if (b := a0) rfl (fun hb => ?_) (fun hb => ?_)
  · have hm := ifB_t hb hm
    refine cj_seq ?_
    refine cj_reg ?_
    refine lp rfl (p_mv rfl) ?_
    refine lp rfl (p_as rfl) ?_
    refine lj_seq ?_
    obtain rfl := Option.some.inj hm
    exact cj_rt () [] Tryd.results9 (.tmp rfl .nil) rfl rfl
  · have hm := ifB_f hb hm
    refine cj_skip ?_
    refine nj_seq ?_
    refine cj_seq ?_
    refine cj_reg ?_
    refine lp rfl (p_as rfl) ?_
    refine lj_seq ?_
    obtain rfl := Option.some.inj hm
    exact cj_rt () [] Tryd.results9 (.tmp rfl .nil) rfl rfl
theorem ok_gleelaw2_errs (s0_ : SV) (a0 : (List Int)) {r : Int} (hm : m_gleelaw2_errs a0 = some r) :
    Ctr Tryd.prog 8 [s0_.v].toArray ([] : List Ent) [RdS R31 (SV.v s0_) a0] (X := Unit) (fun _ => .int .i64 r) (fun _ => []) := by
  unfold m_gleelaw2_errs at hm
  refine ctr_mk (vs := [(0, s0_.v)]) Tryd.func8 rfl Tryd.ntmps8 rfl ⟨rfl, trivial⟩ (fun w0 A => ?_)
  refine cj_seq ?_
  refine cj_reg ?_
  refine lp rfl (p_as rfl) ?_
  refine lj_seq ?_
  refine cj_seq ?_
  refine cj_seq ?_
  refine cj_reg ?_
  refine lp rfl (p_mv rfl) ?_
  refine lp rfl (p_len Tryd.underlying67 rfl (.ro 0 rfl)) ?_
  refine lp rfl (p_mv rfl) ?_
  refine lj_seq ?_
  obtain ⟨f7, hf7, hm⟩ := bindS hm
  refine cj_range (γ := Unit) (m := (a0.length : Int)) hf7 () (fun u4 g5 => [(2, .int .i64 0), (5, s0_.v)]) (fun u4 g5 => Sat w0 (keys ([] : List Ent)) A [.ro (RdS R31 (SV.v s0_) a0)]) ⟨rfl, rfl, rfl, rfl, trivial⟩ (fun _ h => h.picks [0] rfl) (nat_lt _) (fun _ h => (FactAt.get (F := RdS R31 (SV.v s0_) a0) (.ro 0 rfl) h).1) (fun _ _ => ⟨rfl, rfl, rfl, rfl⟩) ⟨rfl, rfl, rfl, rfl, rfl⟩ rfl rfl rfl (fun u4 g5 e => ?_) (fun aftk6 i1 x2 u4 g5 k6 hx3 hs J hJk6 hBk6 hX I cnk6 => ?_)
  · have hm := Flow.fin_b e hm
    refine nj_seq ?_
    refine cj_seq ?_
    refine cj_reg ?_
    refine lp rfl (p_as rfl) ?_
    refine lj_seq ?_
    obtain rfl := Option.some.inj hm
    exact cj_rt () [] Tryd.results8 (.tmp rfl .nil) rfl rfl
  · have hRk6 : ∀ t, k6 = .ret t → some t = some r := fun t e => by rw [hX t e] at hm; exact hm
    have hm := hs
    refine cj_seq ?_
    refine cj_reg ?_
    refine lp rfl (p_idx Tryd.underlying67 ty31 rfl rfl (.ro 0 rfl) (getI_nat.trans hx3)) ?_
    refine lp rfl (p_lde (o := 0) ty31 rfl rfl (.ro 0 rfl) hx3 rfl) ?_
    refine lp rfl (p_as rfl) ?_
    refine lj_seq ?_
    refine cj_seq ?_
    refine cj_reg ?_
    refine lp rfl (p_mv rfl) ?_
    refine lp rfl (p_neq rfl rfl) ?_
    refine lj_seq ?_
    refine cj_if (b := x2 != 0) rfl (fun hb => ?_) (fun hb => ?_)
    · have hm := ifB_t hb hm
      refine cj_seq ?_
      refine cj_reg ?_
      refine lp rfl (p_mv rfl) ?_
      refine lp rfl (p_as rfl) ?_
      refine lj_seq ?_
      have hm := hRk6 _ (Option.some.inj hm).symm
      obtain rfl := Option.some.inj hm
      exact cj_rt () [] Tryd.results8 (.tmp rfl .nil) rfl rfl
    · have hm := ifB_f hb hm
      refine cj_skip ?_
      refine nj_blk ?_
      exact cnk6 _ _ () () (hJk6 _ (Option.some.inj hm).symm) ⟨rfl, rfl, rfl, rfl, trivial⟩ (fun _ h => h.picks [0] rfl)
theorem ok_gleeref2_between (a0 : TProgram) (s0_0_ : SV) (xg0_0_ : List (TItem × SV)) (a1 : Int) {r : Int} (hm : m_gleeref2_between a0 a1 = some r) :
    Ctr Tryd.prog 73 [.agg [s0_0_.v, .int .i64 a0.Change, .int .i64 a0.Clap, .int .i64 a0.Break, .int .i64 a0.Half].toArray, .int .i64 a1].toArray ([] : List Ent) [Lk N46 a0.Items xg0_0_, RdS N46.R (SV.v s0_0_) xg0_0_] (X := Unit) (fun _ => .int .i64 r) (fun _ => []) := by
  unfold m_gleeref2_between at hm
  refine ctr_mk (vs := [(0, .agg [s0_0_.v, .int .i64 a0.Change, .int .i64 a0.Clap, .int .i64 a0.Break, .int .i64 a0.Half].toArray), (1, .int .i64 a1)]) Tryd.func73 rfl Tryd.ntmps73 rfl ⟨rfl, rfl, trivial⟩ (fun w0 A => ?_)
  refine cj_pure (F := Lk N46 a0.Items xg0_0_) (.ro 0 rfl) (fun _ h => h.1) (fun hL0_0_ => ?_)
  refine cj_seq ?_
  refine cj_reg ?_
  refine r_bx (cs := [s0_0_.v, .int .i64 a0.Change, .int .i64 a0.Clap, .int .i64 a0.Break, .int .i64 a0.Half]) rfl rfl rfl (fun b1 => ?_)
  refine lp rfl (p_as rfl) ?_
  refine lj_seq ?_
  refine cj_seq ?_
  refine cj_blk ?_
  refine cj_seq ?_
  refine cj_reg ?_
  refine lp rfl (p_mv rfl) ?_
  refine lp rfl (p_fab fl28_4 rfl) ?_
  refine lp rfl (p_lbs ty3 rfl (j := 0) rfl rfl) ?_
  refine lp rfl (p_eql rfl rfl) ?_
  refine lp rfl (p_as rfl) ?_
  refine lj_seq ?_
  refine cj_if (b := a1 == a0.Half) rfl (fun hb => ?_) (fun hb => ?_)
  · have hm := ifB_t hb hm
    refine cj_seq ?_
    refine cj_reg ?_
    refine lp rfl (p_fab fl28_3 rfl) ?_
    refine lp rfl (p_lbs ty3 rfl (j := 0) rfl rfl) ?_
    refine lp rfl (p_as rfl) ?_
    refine lj_seq ?_
    obtain rfl := Option.some.inj hm
    exact cj_rt () [] Tryd.results73 (.tmp rfl .nil) rfl rfl
  · have hm := ifB_f hb hm
    refine cj_seq ?_
    refine cj_quiet (by kernel_rfl) (by kernel_rfl) ?_
    refine q_p rfl (p_fab fl28_0 rfl) ?_
    refine q_p rfl (p_lbs ty26 rfl (j := 0) rfl rfl) ?_
    refine q_p rfl (p_mv rfl) ?_
    obtain ⟨e2, he2, hm⟩ := bindS hm
    obtain ⟨ge2, he2G⟩ := lk_getI hL0_0_ he2
    refine q_p rfl (p_idx Tryd.underlying26 ty46 rfl rfl (.ro 2 rfl) he2G) ?_
    refine q_p rfl (p_fae fl46_1 rfl (.ro 2 rfl) (getI_spec he2G).2) ?_
    refine q_p rfl (p_lde (o := 1) ty9 rfl rfl (.ro 2 rfl) (getI_spec he2G).2 rfl) ?_
    refine q_p rfl (p_fab fl28_0 rfl) ?_
    refine q_p rfl (p_lbs ty26 rfl (j := 0) rfl rfl) ?_
    refine q_p rfl (p_mv rfl) ?_
    refine q_p rfl (p_add rfl rfl) ?_
    obtain ⟨e3, he3, hm⟩ := bindS hm
    obtain ⟨ge3, he3G⟩ := lk_getI hL0_0_ he3
    refine q_p rfl (p_idx Tryd.underlying26 ty46 rfl rfl (.ro 2 rfl) he3G) ?_
    refine q_p rfl (p_fae fl46_1 rfl (.ro 2 rfl) (getI_spec he3G).2) ?_
    refine q_p rfl (p_lde (o := 1) ty9 rfl rfl (.ro 2 rfl) (getI_spec he3G).2 rfl) ?_
    refine q_p rfl (p_nes rfl rfl) ?_
    refine q_p rfl (p_as rfl) ?_
    refine q_nil ?_
    refine nj_seq ?_
    refine cj_if (b := !(e2.Places.toList == e3.Places.toList)) rfl (fun hb => ?_) (fun hb => ?_)
    · have hm := ifB_t hb hm
      refine cj_seq ?_
      refine cj_reg ?_
      refine lp rfl (p_fab fl28_1 rfl) ?_
      refine lp rfl (p_lbs ty3 rfl (j := 0) rfl rfl) ?_
      refine lp rfl (p_as rfl) ?_
      refine lj_seq ?_
      obtain rfl := Option.some.inj hm
      exact cj_rt () [] Tryd.results73 (.tmp rfl .nil) rfl rfl
    · have hm := ifB_f hb hm
      refine cj_skip ?_
      refine nj_blk ?_
      refine nj_seq ?_
      refine cj_seq ?_
      refine cj_reg ?_
      refine lp rfl (p_fab fl28_2 rfl) ?_
      refine lp rfl (p_lbs ty3 rfl (j := 0) rfl rfl) ?_
      refine lp rfl (p_as rfl) ?_
      refine lj_seq ?_
      obtain rfl := Option.some.inj hm
      exact cj_rt () [] Tryd.results73 (.tmp rfl .nil) rfl rfl
theorem ok_gleeref2_TimedOf (a0 : TProgram) (s0_0_ : SV) (xg0_0_ : List (TItem × SV)) (a1 : Int) {r : (List TTimed)} (hm : m_gleeref2_TimedOf a0 a1 = some r) :
    Ctr Tryd.prog 57 [.agg [s0_0_.v, .int .i64 a0.Change, .int .i64 a0.Clap, .int .i64 a0.Break, .int .i64 a0.Half].toArray, .int .i64 a1].toArray ([] : List Ent) [Lk N46 a0.Items xg0_0_, RdS N46.R (SV.v s0_0_) xg0_0_] (X := SV) (fun s => s.v) (fun s => [.row R91 (SV.v s) r]) := by
  unfold m_gleeref2_TimedOf at hm
  refine ctr_mk (vs := [(0, .agg [s0_0_.v, .int .i64 a0.Change, .int .i64 a0.Clap, .int .i64 a0.Break, .int .i64 a0.Half].toArray), (1, .int .i64 a1)]) Tryd.func57 rfl Tryd.ntmps57 rfl ⟨rfl, rfl, trivial⟩ (fun w0 A => ?_)
  refine cj_pure (F := Lk N46 a0.Items xg0_0_) (.ro 0 rfl) (fun _ h => h.1) (fun hL0_0_ => ?_)
  refine cj_seq ?_
  refine cj_reg ?_
  refine r_bx (cs := [s0_0_.v, .int .i64 a0.Change, .int .i64 a0.Clap, .int .i64 a0.Break, .int .i64 a0.Half]) rfl rfl rfl (fun b1 => ?_)
  refine lp rfl (p_as rfl) ?_
  refine lj_seq ?_
  refine cj_seq ?_
  refine cj_reg ?_
  refine lp rfl (p_as rfl) ?_
  refine lj_seq ?_
  refine cj_seq ?_
  refine cj_seq ?_
  refine cj_reg ?_
  refine lp rfl (p_fab fl28_0 rfl) ?_
  refine lp rfl (p_lbs ty26 rfl (j := 0) rfl rfl) ?_
  refine lp rfl (p_lenG hL0_0_ Tryd.underlying26 rfl (.ro 2 rfl)) ?_
  refine lp rfl (p_mv rfl) ?_
  refine lj_seq ?_
  refine cj_nil R91 ?_
  obtain ⟨f9, hf9, hm⟩ := bindS hm
  refine cj_range (γ := SV) (m := (a0.Items.length : Int)) hf9 nilS (fun u6 g7 => [(1, .int .i64 u6.1), (2, .pointer (some ⟨b1, 0, none⟩)), (4, .slice none 0 0), (5, g7.v), (9, s0_0_.v)]) (fun u6 g7 => Sat w0 (keys ([] : List Ent)) A [.box b1 28 [s0_0_.v, .int .i64 a0.Change, .int .i64 a0.Clap, .int .i64 a0.Break, .int .i64 a0.Half], .ro (Lk N46 a0.Items xg0_0_), .ro (RdS N46.R (SV.v s0_0_) xg0_0_), .row R91 (SV.v g7) u6.2]) ⟨rfl, rfl, rfl, rfl, rfl, rfl, rfl, trivial⟩ (fun _ h => h.picks [1, 1, 1, 0] rfl) (nat_lt _) (fun _ h => by have h1 := (FactAt.get (F := RdS N46.R (SV.v s0_0_) xg0_0_) (.ro 3 rfl) h).1; rw [lk_len hL0_0_] at h1; exact h1) (fun _ _ => ⟨rfl, rfl, rfl, rfl⟩) ⟨rfl, rfl, rfl, rfl, rfl⟩ rfl rfl rfl (fun u6 g7 e => ?_) (fun aftk8 i2 x3 u6 g7 k8 hx4 hs J hJk8 hBk8 hX I cnk8 => ?_)
  · have hm := Flow.fin_b e hm
    refine nj_seq ?_
    refine cj_seq ?_
    refine cj_reg ?_
    refine lp rfl (p_mv rfl) ?_
    refine lp rfl (p_as rfl) ?_
    refine lj_seq ?_
    obtain rfl := Option.some.inj hm
    exact cj_rt g7 [3] Tryd.results57 (.tmp rfl .nil) rfl rfl
  · have hRk8 : ∀ t, k8 = .ret t → some t = some r := fun t e => by rw [hX t e] at hm; exact hm
    have hm := hs
    refine cj_seq ?_
    refine cj_reg ?_
    refine lp rfl (p_mv rfl) ?_
    obtain ⟨gx3, hx4G⟩ := lk_get hL0_0_ hx4
    refine lp rfl (p_idx Tryd.underlying26 ty46 rfl rfl (.ro 2 rfl) (getI_nat.trans hx4G)) ?_
    refine lp rfl (p_leaN (cs := [.string x3.Key, .string x3.Places, .int .i64 x3.Long, gx3.v]) ty46 rfl (.ro 2 rfl) hx4G rfl) ?_
    refine r_al ty46 rfl (fun b11 => ?_)
    refine lp rfl (p_as rfl) ?_
    refine r_sb (vs := [.string x3.Key, .string x3.Places, .int .i64 x3.Long, gx3.v]) (j := 0) ty46 rfl rfl rfl rfl rfl rfl rfl ?_
    refine lj_seq ?_
    refine cj_seq ?_
    refine cj_reg ?_
    refine lp rfl (p_mv rfl) ?_
    refine lp rfl (p_fab fl46_0 rfl) ?_
    refine lp rfl (p_lbs ty9 rfl (j := 0) rfl rfl) ?_
    refine lp rfl (p_mv rfl) ?_
    refine lp rfl (p_mv rfl) ?_
    refine lp rfl (p_fab fl46_2 rfl) ?_
    refine lp rfl (p_lbs ty3 rfl (j := 0) rfl rfl) ?_
    refine lp rfl (p_add rfl rfl) ?_
    refine lp rfl (p_bld [.int .i64 u6.1, .int .i64 (w64 (u6.1 + x3.Long))] rfl (fun _ => by kernel_rfl)) ?_
    refine lp rfl (p_bld [.string x3.Key, .int .i64 u6.1, .int .i64 (w64 (u6.1 + x3.Long))] rfl (fun _ => by kernel_rfl)) ?_
    refine r_bs R91 [(TTimed.mk x3.Key (TWindow.mk u6.1 (w64 (u6.1 + x3.Long))))] rfl rfl rfl (fun _ => by kernel_rfl) rfl (fun s12 => ?_)
    obtain ⟨q13, hq13, hm⟩ := bindS hm
    refine r_app (k := 5) Tryd.underlying86 ty91 rfl rfl rfl rfl (.row 0 rfl) hq13 rfl (fun s14 => ?_)
    refine lp rfl (p_as rfl) ?_
    refine lj_seq ?_
    refine cj_seq ?_
    refine cj_reg ?_
    refine lp rfl (p_mv rfl) ?_
    refine lp rfl (p_fab fl46_2 rfl) ?_
    refine lp rfl (p_lbs ty3 rfl (j := 1) rfl rfl) ?_
    refine lp rfl (p_add rfl rfl) ?_
    refine lp rfl (p_as rfl) ?_
    refine lj_seq ?_
    refine cj_seq ?_
    refine cj_reg ?_
    refine lp rfl (p_mv rfl) ?_
    refine lp rfl (p_add rfl rfl) ?_
    refine lp rfl (p_fab fl28_0 rfl) ?_
    refine lp rfl (p_lbs ty26 rfl (j := 2) rfl rfl) ?_
    refine lp rfl (p_lenG hL0_0_ Tryd.underlying26 rfl (.ro 4 rfl)) ?_
    refine lp rfl (p_lss rfl rfl) ?_
    refine lj_seq ?_
    refine cj_if (b := decide ((w64 ((i2 : Int) + 1)) < (a0.Items.length : Int))) rfl (fun hb => ?_) (fun hb => ?_)
    · have hm := ifB_t hb hm
      refine cj_reg ?_
      refine lp rfl (p_mv rfl) ?_
      refine lp rfl (p_lbw ty28 rfl (j := 2) rfl rfl) ?_
      refine lp rfl (p_mv rfl) ?_
      obtain ⟨y15, hy15, hm⟩ := bindS hm
      refine r_call [] cf73 rfl rfl (ok_gleeref2_between a0 s0_0_ xg0_0_ (i2 : Int) hy15) rfl rfl (.cons (.ro 3 rfl) (.cons (.ro 4 rfl) .nil)) (fun _ => rfl) rfl (fun _ => ?_)
      refine lp rfl (p_add rfl rfl) ?_
      refine lp rfl (p_as rfl) ?_
      refine lj_nil ?_
      refine nj_blk ?_
      exact cnk8 _ _ (w64 ((w64 (u6.1 + x3.Long)) + y15), q13) s14 (hJk8 _ (Option.some.inj hm).symm) ⟨rfl, rfl, rfl, rfl, rfl, rfl, rfl, trivial⟩ (fun _ h => h.picks [2, 2, 2, 2] rfl)
    · have hm := ifB_f hb hm
      refine cj_skip ?_
      refine nj_blk ?_
      exact cnk8 _ _ (w64 (u6.1 + x3.Long), q13) s14 (hJk8 _ (Option.some.inj hm).symm) ⟨rfl, rfl, rfl, rfl, rfl, rfl, rfl, trivial⟩ (fun _ h => h.picks [2, 2, 2, 2] rfl)
theorem ok_gleeref2_LongOfProgram (a0 : TProgram) (s0_0_ : SV) (xg0_0_ : List (TItem × SV)) {r : Int} (hm : m_gleeref2_LongOfProgram a0 = some r) :
    Ctr Tryd.prog 36 [.agg [s0_0_.v, .int .i64 a0.Change, .int .i64 a0.Clap, .int .i64 a0.Break, .int .i64 a0.Half].toArray].toArray ([] : List Ent) [Lk N46 a0.Items xg0_0_, RdS N46.R (SV.v s0_0_) xg0_0_] (X := Unit) (fun _ => .int .i64 r) (fun _ => []) := by
  unfold m_gleeref2_LongOfProgram at hm
  refine ctr_mk (vs := [(0, .agg [s0_0_.v, .int .i64 a0.Change, .int .i64 a0.Clap, .int .i64 a0.Break, .int .i64 a0.Half].toArray)]) Tryd.func36 rfl Tryd.ntmps36 rfl ⟨rfl, trivial⟩ (fun w0 A => ?_)
  refine cj_pure (F := Lk N46 a0.Items xg0_0_) (.ro 0 rfl) (fun _ h => h.1) (fun hL0_0_ => ?_)
  refine cj_seq ?_
  refine cj_reg ?_
  refine r_bx (cs := [s0_0_.v, .int .i64 a0.Change, .int .i64 a0.Clap, .int .i64 a0.Break, .int .i64 a0.Half]) rfl rfl rfl (fun b1 => ?_)
  refine lp rfl (p_as rfl) ?_
  refine lj_seq ?_
  refine cj_seq ?_
  refine cj_reg ?_
  refine lp rfl (p_lbw ty28 rfl (j := 0) rfl rfl) ?_
  obtain ⟨y2, hy2, hm⟩ := bindS hm
  refine r_call [] cf57 rfl rfl (ok_gleeref2_TimedOf a0 s0_0_ xg0_0_ 0 hy2) rfl rfl (.cons (.ro 1 rfl) (.cons (.ro 2 rfl) .nil)) (fun _ => rfl) rfl (fun s3 => ?_)
  refine lp rfl (p_as rfl) ?_
  refine lj_seq ?_
  refine cj_seq ?_
  refine cj_seq ?_
  refine cj_reg ?_
  refine lp rfl (p_mv rfl) ?_
  refine lp rfl (p_len Tryd.underlying86 rfl (.row 0 rfl)) ?_
  refine lp rfl (p_eql rfl rfl) ?_
  refine lj_seq ?_
  refine cj_if (b := (y2.length : Int) == 0) rfl (fun hb => ?_) (fun hb => ?_)
  · have hm := ifB_t hb hm
    refine cj_seq ?_
    refine cj_reg ?_
    refine lp rfl (p_as rfl) ?_
    refine lj_seq ?_
    obtain rfl := Option.some.inj hm
    exact cj_rt () [] Tryd.results36 (.tmp rfl .nil) rfl rfl
  · have hm := ifB_f hb hm
    refine cj_skip ?_
    refine nj_seq ?_
    refine cj_seq ?_
    refine cj_reg ?_
    refine lp rfl (p_mv rfl) ?_
    refine lp rfl (p_mv rfl) ?_
    refine lp rfl (p_len Tryd.underlying86 rfl (.row 0 rfl)) ?_
    refine lp rfl (p_sub rfl rfl) ?_
    obtain ⟨e4, he4, hm⟩ := bindS hm
    refine lp rfl (p_idx Tryd.underlying86 ty91 rfl rfl (.row 0 rfl) he4) ?_
    refine lp rfl (p_fae fl91_1 rfl (.row 0 rfl) (getI_spec he4).2) ?_
    refine lp rfl (p_fae fl89_1 rfl (.row 0 rfl) (getI_spec he4).2) ?_
    refine lp rfl (p_lde (o := 2) ty3 rfl rfl (.row 0 rfl) (getI_spec he4).2 rfl) ?_
    refine lp rfl (p_as rfl) ?_
    refine lj_seq ?_
    obtain rfl := Option.some.inj hm
    exact cj_rt () [] Tryd.results36 (.tmp rfl .nil) rfl rfl
theorem ok_gleeref2_shared_1 (a0 : ByteArray) (b1_ : Nat) (s1_0_ : SV) (xg1_0_ : List (TItem × SV)) (a1_0 : (List TItem)) (a1_1 : Int) (a1_2 : Int) (a1_3 : Int) (a1_4 : Int) (b2_ : Nat) (a2_0 : Int) {r : Bool} (hm : m_gleeref2_shared_1 a0 a1_0 a1_1 a1_2 a1_3 a1_4 a2_0 = some r) :
    Ctr Tryd.prog 59 [.string a0, .pointer (some ⟨b1_, 0, none⟩), .pointer (some ⟨b2_, 0, none⟩)].toArray ([] : List Ent) [BoxS b1_ 28 [s1_0_.v, .int .i64 a1_1, .int .i64 a1_2, .int .i64 a1_3, .int .i64 a1_4], Lk N46 a1_0 xg1_0_, RdS N46.R (SV.v s1_0_) xg1_0_, BoxS b2_ 3 [.int .i64 a2_0]] (X := Unit) (fun _ => .bool r) (fun _ => []) := by
  unfold m_gleeref2_shared_1 at hm
  refine ctr_mk (vs := [(0, .string a0), (1, .pointer (some ⟨b1_, 0, none⟩)), (2, .pointer (some ⟨b2_, 0, none⟩))]) Tryd.func59 rfl Tryd.ntmps59 rfl ⟨rfl, rfl, rfl, trivial⟩ (fun w0 A => ?_)
  refine cj_pure (F := Lk N46 a1_0 xg1_0_) (.ro 1 rfl) (fun _ h => h.1) (fun hL1_0_ => ?_)
  refine cj_seq ?_
  refine cj_reg ?_
  refine lp rfl (p_as rfl) ?_
  refine lj_seq ?_
  refine cj_seq ?_
  refine cj_reg ?_
  refine lp rfl (p_fab fl28_0 rfl) ?_
  refine lp rfl (p_rbs ty26 rfl (.ro 0 rfl) rfl) ?_
  refine lp rfl (p_rbs ty3 rfl (.ro 3 rfl) rfl) ?_
  refine lp rfl (p_add rfl rfl) ?_
  obtain ⟨e1, he1, hm⟩ := bindS hm
  obtain ⟨ge1, he1G⟩ := lk_getI hL1_0_ he1
  refine lp rfl (p_idx Tryd.underlying26 ty46 rfl rfl (.ro 2 rfl) he1G) ?_
  refine lp rfl (p_fae fl46_3 rfl (.ro 2 rfl) (getI_spec he1G).2) ?_
  refine lp rfl (p_lde (o := 3) ty30 rfl rfl (.ro 2 rfl) (getI_spec he1G).2 rfl) ?_
  refine lp rfl (p_mv rfl) ?_
  obtain ⟨y2, hy2, hm⟩ := bindS hm
  refine r_call [] cf43 rfl rfl (ok_slices_Contains_string_string ge1 e1.Parts a0 hy2) rfl rfl (.cons (.imp (.ro 1 rfl) (fun _ h => (Lk.at_ h (getI_spec he1G).2))) .nil) (fun _ => rfl) rfl (fun _ => ?_)
  refine lp rfl (p_as rfl) ?_
  refine lj_seq ?_
  obtain rfl := Option.some.inj hm
  exact cj_rt () [] Tryd.results59 (.tmp rfl .nil) rfl rfl
theorem ok_slices_IndexFunc_string_string__gleeref2_shared_1 (s0_ : SV) (a0 : (List ByteArray)) (b1_c0_ : Nat) (s1_c0_0_ : SV) (xg1_c0_0_ : List (TItem × SV)) (a1_c0_0 : (List TItem)) (a1_c0_1 : Int) (a1_c0_2 : Int) (a1_c0_3 : Int) (a1_c0_4 : Int) (b1_c1_ : Nat) (a1_c1_0 : Int) {r : Int} (hm : m_slices_IndexFunc_string_string__gleeref2_shared_1 a0 a1_c0_0 a1_c0_1 a1_c0_2 a1_c0_3 a1_c0_4 a1_c1_0 = some r) :
    Ctr Tryd.prog 74 [s0_.v, .func (.func 59) #[] [.pointer (some ⟨b1_c0_, 0, none⟩), .pointer (some ⟨b1_c1_, 0, none⟩)].toArray].toArray ([] : List Ent) [RdS R9 (SV.v s0_) a0, BoxS b1_c0_ 28 [s1_c0_0_.v, .int .i64 a1_c0_1, .int .i64 a1_c0_2, .int .i64 a1_c0_3, .int .i64 a1_c0_4], Lk N46 a1_c0_0 xg1_c0_0_, RdS N46.R (SV.v s1_c0_0_) xg1_c0_0_, BoxS b1_c1_ 3 [.int .i64 a1_c1_0]] (X := Unit) (fun _ => .int .i64 r) (fun _ => []) := by
  unfold m_slices_IndexFunc_string_string__gleeref2_shared_1 at hm
  refine ctr_mk (vs := [(0, s0_.v), (1, .func (.func 59) #[] [.pointer (some ⟨b1_c0_, 0, none⟩), .pointer (some ⟨b1_c1_, 0, none⟩)].toArray)]) Tryd.func74 rfl Tryd.ntmps74 rfl ⟨rfl, rfl, trivial⟩ (fun w0 A => ?_)
  refine cj_pure (F := Lk N46 a1_c0_0 xg1_c0_0_) (.ro 2 rfl) (fun _ h => h.1) (fun hL1_c0_0_ => ?_)
  refine cj_seq ?_
  refine cj_reg ?_
  refine lp rfl (p_as rfl) ?_
  refine lj_seq ?_
  refine cj_seq ?_
  refine cj_seq ?_
  refine cj_reg ?_
  refine lp rfl (p_mv rfl) ?_
  refine lp rfl (p_len Tryd.underlying30 rfl (.ro 0 rfl)) ?_
  refine lp rfl (p_mv rfl) ?_
  refine lj_seq ?_
  obtain ⟨f7, hf7, hm⟩ := bindS hm
  refine cj_range (γ := Unit) (m := (a0.length : Int)) hf7 () (fun u4 g5 => [(0, s0_.v), (1, .func (.func 59) #[] [.pointer (some ⟨b1_c0_, 0, none⟩), .pointer (some ⟨b1_c1_, 0, none⟩)].toArray), (4, .int .i64 0)]) (fun u4 g5 => Sat w0 (keys ([] : List Ent)) A [.ro (RdS R9 (SV.v s0_) a0), .ro (BoxS b1_c0_ 28 [s1_c0_0_.v, .int .i64 a1_c0_1, .int .i64 a1_c0_2, .int .i64 a1_c0_3, .int .i64 a1_c0_4]), .ro (Lk N46 a1_c0_0 xg1_c0_0_), .ro (RdS N46.R (SV.v s1_c0_0_) xg1_c0_0_), .ro (BoxS b1_c1_ 3 [.int .i64 a1_c1_0])]) ⟨rfl, rfl, rfl, rfl, rfl, trivial⟩ (fun _ h => h.picks [0, 0, 0, 0, 0] rfl) (nat_lt _) (fun _ h => (FactAt.get (F := RdS R9 (SV.v s0_) a0) (.ro 0 rfl) h).1) (fun _ _ => ⟨rfl, rfl, rfl, rfl⟩) ⟨rfl, rfl, rfl, rfl, rfl⟩ rfl rfl rfl (fun u4 g5 e => ?_) (fun aftk6 i1 x2 u4 g5 k6 hx3 hs J hJk6 hBk6 hX I cnk6 => ?_)
  · have hm := Flow.fin_b e hm
    refine nj_seq ?_
    refine cj_seq ?_
    refine cj_reg ?_
    refine lp rfl (p_as rfl) ?_
    refine lj_seq ?_
    obtain rfl := Option.some.inj hm
    exact cj_rt () [] Tryd.results74 (.tmp rfl .nil) rfl rfl
  · have hRk6 : ∀ t, k6 = .ret t → some t = some r := fun t e => by rw [hX t e] at hm; exact hm
    have hm := hs
    refine cj_seq ?_
    refine cj_reg ?_
    refine lp rfl (p_mv rfl) ?_
    refine lp rfl (p_as rfl) ?_
    refine lj_seq ?_
    refine cj_seq ?_
    refine cj_reg ?_
    refine lp rfl (p_mv rfl) ?_
    refine lp rfl (p_mv rfl) ?_
    refine lp rfl (p_mv rfl) ?_
    refine lp rfl (p_idx Tryd.underlying30 ty9 rfl rfl (.ro 0 rfl) (getI_nat.trans hx3)) ?_
    refine lp rfl (p_lde (o := 0) ty9 rfl rfl (.ro 0 rfl) hx3 rfl) ?_
    obtain ⟨y8, hy8, hm⟩ := bindS hm
    refine r_call [] cf59 rfl rfl (ok_gleeref2_shared_1 x2 b1_c0_ s1_c0_0_ xg1_c0_0_ a1_c0_0 a1_c0_1 a1_c0_2 a1_c0_3 a1_c0_4 b1_c1_ a1_c1_0 hy8) rfl rfl (.cons (.ro 1 rfl) (.cons (.ro 2 rfl) (.cons (.ro 3 rfl) (.cons (.ro 4 rfl) .nil)))) (fun _ => rfl) rfl (fun _ => ?_)
    refine lj_seq ?_
    refine cj_if (b := y8) rfl (fun hb => ?_) (fun hb => ?_)
    · have hm := ifB_t hb hm
      refine cj_seq ?_
      refine cj_reg ?_
      refine lp rfl (p_mv rfl) ?_
      refine lp rfl (p_as rfl) ?_
      refine lj_seq ?_
      have hm := hRk6 _ (Option.some.inj hm).symm
      obtain rfl := Option.some.inj hm
      exact cj_rt () [] Tryd.results74 (.tmp rfl .nil) rfl rfl
    · have hm := ifB_f hb hm
      refine cj_skip ?_
      refine nj_blk ?_
      exact cnk6 _ _ () () (hJk6 _ (Option.some.inj hm).symm) ⟨rfl, rfl, rfl, rfl, rfl, trivial⟩ (fun _ h => h.picks [0, 0, 0, 0, 0] rfl)
theorem ok_slices_ContainsFunc_string_string__gleeref2_shared_1 (s0_ : SV) (a0 : (List ByteArray)) (b1_c0_ : Nat) (s1_c0_0_ : SV) (xg1_c0_0_ : List (TItem × SV)) (a1_c0_0 : (List TItem)) (a1_c0_1 : Int) (a1_c0_2 : Int) (a1_c0_3 : Int) (a1_c0_4 : Int) (b1_c1_ : Nat) (a1_c1_0 : Int) {r : Bool} (hm : m_slices_ContainsFunc_string_string__gleeref2_shared_1 a0 a1_c0_0 a1_c0_1 a1_c0_2 a1_c0_3 a1_c0_4 a1_c1_0 = some r) :
    Ctr Tryd.prog 58 [s0_.v, .func (.func 59) #[] [.pointer (some ⟨b1_c0_, 0, none⟩), .pointer (some ⟨b1_c1_, 0, none⟩)].toArray].toArray ([] : List Ent) [RdS R9 (SV.v s0_) a0, BoxS b1_c0_ 28 [s1_c0_0_.v, .int .i64 a1_c0_1, .int .i64 a1_c0_2, .int .i64 a1_c0_3, .int .i64 a1_c0_4], Lk N46 a1_c0_0 xg1_c0_0_, RdS N46.R (SV.v s1_c0_0_) xg1_c0_0_, BoxS b1_c1_ 3 [.int .i64 a1_c1_0]] (X := Unit) (fun _ => .bool r) (fun _ => []) := by
  unfold m_slices_ContainsFunc_string_string__gleeref2_shared_1 at hm
  refine ctr_mk (vs := [(0, s0_.v), (1, .func (.func 59) #[] [.pointer (some ⟨b1_c0_, 0, none⟩), .pointer (some ⟨b1_c1_, 0, none⟩)].toArray)]) Tryd.func58 rfl Tryd.ntmps58 rfl ⟨rfl, rfl, trivial⟩ (fun w0 A => ?_)
  refine cj_pure (F := Lk N46 a1_c0_0 xg1_c0_0_) (.ro 2 rfl) (fun _ h => h.1) (fun hL1_c0_0_ => ?_)
  refine cj_seq ?_
  refine cj_reg ?_
  refine lp rfl (p_as rfl) ?_
  refine lj_seq ?_
  refine cj_seq ?_
  refine cj_reg ?_
  refine lp rfl (p_mv rfl) ?_
  refine lp rfl (p_mv rfl) ?_
  obtain ⟨y1, hy1, hm⟩ := bindS hm
  refine r_call [] cf74 rfl rfl (ok_slices_IndexFunc_string_string__gleeref2_shared_1 s0_ a0 b1_c0_ s1_c0_0_ xg1_c0_0_ a1_c0_0 a1_c0_1 a1_c0_2 a1_c0_3 a1_c0_4 b1_c1_ a1_c1_0 hy1) rfl rfl (.cons (.ro 0 rfl) (.cons (.ro 1 rfl) (.cons (.ro 2 rfl) (.cons (.ro 3 rfl) (.cons (.ro 4 rfl) .nil))))) (fun _ => rfl) rfl (fun _ => ?_)
  refine lp rfl (p_geq rfl rfl) ?_
  refine lp rfl (p_as rfl) ?_
  refine lj_seq ?_
  obtain rfl := Option.some.inj hm
  exact cj_rt () [] Tryd.results58 (.tmp rfl .nil) rfl rfl
theorem ok_gleeref2_shared (a0 : TProgram) (s0_0_ : SV) (xg0_0_ : List (TItem × SV)) {r : Int} (hm : m_gleeref2_shared a0 = some r) :
    Ctr Tryd.prog 37 [.agg [s0_0_.v, .int .i64 a0.Change, .int .i64 a0.Clap, .int .i64 a0.Break, .int .i64 a0.Half].toArray].toArray ([] : List Ent) [Lk N46 a0.Items xg0_0_, RdS N46.R (SV.v s0_0_) xg0_0_] (X := Unit) (fun _ => .int .i64 r) (fun _ => []) := by
  unfold m_gleeref2_shared at hm
  refine ctr_mk (vs := [(0, .agg [s0_0_.v, .int .i64 a0.Change, .int .i64 a0.Clap, .int .i64 a0.Break, .int .i64 a0.Half].toArray)]) Tryd.func37 rfl Tryd.ntmps37 rfl ⟨rfl, trivial⟩ (fun w0 A => ?_)
  refine cj_pure (F := Lk N46 a0.Items xg0_0_) (.ro 0 rfl) (fun _ h => h.1) (fun hL0_0_ => ?_)
  refine cj_seq ?_
  refine cj_reg ?_
  refine r_bx (cs := [s0_0_.v, .int .i64 a0.Change, .int .i64 a0.Clap, .int .i64 a0.Break, .int .i64 a0.Half]) rfl rfl rfl (fun b1 => ?_)
  refine lp rfl (p_as rfl) ?_
  refine lj_seq ?_
  refine cj_seq ?_
  refine cj_reg ?_
  refine lp rfl (p_as rfl) ?_
  refine lj_seq ?_
  refine cj_seq ?_
  refine cj_seq ?_
  refine cj_reg ?_
  refine r_al ty3 rfl (fun b2 => ?_)
  refine r_sb (vs := [.int .i64 0]) (j := 0) ty3 rfl rfl rfl rfl rfl rfl rfl ?_
  refine lj_seq ?_
  obtain ⟨f6, hf6, hm⟩ := bindS hm
  refine cj_whileA (γ := Nat) hf6 b2 (fun u3 g4 => [(1, .pointer (some ⟨b1, 0, none⟩)), (2, .int .i64 0), (3, .int .i64 u3.1), (4, .pointer (some ⟨g4, 0, none⟩))]) (fun u3 g4 => Sat w0 (keys ([] : List Ent)) A [.box b1 28 [s0_0_.v, .int .i64 a0.Change, .int .i64 a0.Clap, .int .i64 a0.Break, .int .i64 a0.Half], .ro (Lk N46 a0.Items xg0_0_), .ro (RdS N46.R (SV.v s0_0_) xg0_0_), .box g4 3 [.int .i64 u3.2]]) ⟨rfl, rfl, rfl, rfl, trivial⟩ (fun _ h => h.picks [1, 1, 1, 0] rfl) (fun u3 g4 e => ?_) (fun aftk5 u3 g4 k5 hs J hJk5 hBk5 hX I cnk5 => ?_)
  · have hm := Flow.fin_b e hm
    refine nj_seq ?_
    refine cj_seq ?_
    refine cj_reg ?_
    refine lp rfl (p_mv rfl) ?_
    refine lp rfl (p_as rfl) ?_
    refine lj_seq ?_
    obtain rfl := Option.some.inj hm
    exact cj_rt () [] Tryd.results37 (.tmp rfl .nil) rfl rfl
  · have hRk5 : ∀ t, k5 = .ret t → some t = some r := fun t e => by rw [hX t e] at hm; exact hm
    have hm := hs
    refine cj_seq ?_
    refine cj_seq ?_
    refine cj_reg ?_
    refine lp rfl (p_lbs ty3 rfl (j := 3) rfl rfl) ?_
    refine lp rfl (p_add rfl rfl) ?_
    refine lp rfl (p_fab fl28_0 rfl) ?_
    refine lp rfl (p_lbs ty26 rfl (j := 0) rfl rfl) ?_
    refine lp rfl (p_lenG hL0_0_ Tryd.underlying26 rfl (.ro 2 rfl)) ?_
    refine lp rfl (p_lss rfl rfl) ?_
    refine lj_seq ?_
    refine cj_if (b := decide ((w64 (u3.2 + 1)) < (a0.Items.length : Int))) rfl (fun hb => ?_) (fun hb => ?_)
    · have hm := ifB_t hb hm
      refine cj_skip ?_
      refine nj_seq ?_
      refine cj_seq ?_
      refine cj_blk ?_
      refine cj_seq ?_
      refine cj_reg ?_
      obtain ⟨k10, hk10, hm⟩ := bindS hm
      have hRk10 : ∀ t, k10 = .inr t → some t = some k5 := fun t e => by rw [e] at hm; exact hm
      refine lj_join (σ := Bool) (γ := Unit) (fun u8 => k10 = .inl u8) (fun u8 g9 => [(1, .pointer (some ⟨b1, 0, none⟩)), (2, .int .i64 0), (3, .int .i64 u3.1), (4, .pointer (some ⟨g4, 0, none⟩)), (26, .bool u8)]) (fun u8 g9 => Sat w0 (keys ([] : List Ent)) A [.box b1 28 [s0_0_.v, .int .i64 a0.Change, .int .i64 a0.Clap, .int .i64 a0.Break, .int .i64 a0.Half], .ro (Lk N46 a0.Items xg0_0_), .ro (RdS N46.R (SV.v s0_0_) xg0_0_), .box g4 3 [.int .i64 u3.2]]) (fun u8 g9 hq => ?_) (fun J cnk10 => ?_)
      · have hm := Sum.fin_l hq hm
        refine cj_if (b := u8) rfl (fun hb => ?_) (fun hb => ?_)
        · have hm := ifB_t hb hm
          refine cj_reg ?_
          refine lp rfl (p_mv rfl) ?_
          refine lp rfl (p_add rfl rfl) ?_
          refine lp rfl (p_as rfl) ?_
          refine lj_nil ?_
          refine nj_blk ?_
          refine nj_seq ?_
          refine cj_seq ?_
          refine cj_seq ?_
          refine cj_reg ?_
          refine lp rfl (p_lbs ty3 rfl (j := 3) rfl rfl) ?_
          refine lj_seq ?_
          refine cj_reg ?_
          refine r_al ty3 rfl (fun b13 => ?_)
          refine r_sb (vs := [.int .i64 u3.2]) (j := 0) ty3 rfl rfl rfl rfl rfl rfl rfl ?_
          refine lj_seq ?_
          refine cj_reg ?_
          refine lp rfl (p_lbs ty3 rfl (j := 0) rfl rfl) ?_
          refine lp rfl (p_add rfl rfl) ?_
          refine r_sb (vs := [.int .i64 (w64 (u3.2 + 1))]) (j := 0) ty3 rfl rfl rfl rfl rfl rfl rfl ?_
          refine lj_nil ?_
          exact cnk5 _ _ (w64 (u3.1 + 1), w64 (u3.2 + 1)) b13 (hJk5 _ (Option.some.inj hm).symm) ⟨rfl, rfl, rfl, rfl, trivial⟩ (fun _ h => h.picks [1, 1, 1, 0] rfl)
        · have hm := ifB_f hb hm
          refine cj_skip ?_
          refine nj_blk ?_
          refine nj_seq ?_
          refine cj_seq ?_
          refine cj_seq ?_
          refine cj_reg ?_
          refine lp rfl (p_lbs ty3 rfl (j := 3) rfl rfl) ?_
          refine lj_seq ?_
          refine cj_reg ?_
          refine r_al ty3 rfl (fun b14 => ?_)
          refine r_sb (vs := [.int .i64 u3.2]) (j := 0) ty3 rfl rfl rfl rfl rfl rfl rfl ?_
          refine lj_seq ?_
          refine cj_reg ?_
          refine lp rfl (p_lbs ty3 rfl (j := 0) rfl rfl) ?_
          refine lp rfl (p_add rfl rfl) ?_
          refine r_sb (vs := [.int .i64 (w64 (u3.2 + 1))]) (j := 0) ty3 rfl rfl rfl rfl rfl rfl rfl ?_
          refine lj_nil ?_
          exact cnk5 _ _ (u3.1, w64 (u3.2 + 1)) b14 (hJk5 _ (Option.some.inj hm).symm) ⟨rfl, rfl, rfl, rfl, trivial⟩ (fun _ h => h.picks [1, 1, 1, 0] rfl)
      · have hm := hk10
        refine lp rfl (p_lbs ty3 rfl (j := 3) rfl rfl) ?_
        refine lp rfl (p_fab fl28_4 rfl) ?_
        refine lp rfl (p_lbs ty3 rfl (j := 0) rfl rfl) ?_
        refine lp rfl (p_neq rfl rfl) ?_
        refine lp rfl (p_mv rfl) ?_
        refine lcase (i := 17) (u3.2 != a0.Half) rfl (fun hb => ?_) (fun hb => ?_)
        · have hm := ifB_t hb hm
          refine lg true rfl rfl rfl ?_
          refine lp rfl (p_fab fl28_0 rfl) ?_
          refine lg true rfl rfl rfl ?_
          refine lp rfl (p_lbs ty26 rfl (j := 0) rfl rfl) ?_
          refine lg true rfl rfl rfl ?_
          refine lp rfl (p_lbs ty3 rfl (j := 3) rfl rfl) ?_
          refine lg true rfl rfl rfl ?_
          obtain ⟨e11, he11, hm⟩ := bindS hm
          obtain ⟨ge11, he11G⟩ := lk_getI hL0_0_ he11
          refine lp rfl (p_idx Tryd.underlying26 ty46 rfl rfl (.ro 2 rfl) he11G) ?_
          refine lg true rfl rfl rfl ?_
          refine lp rfl (p_fae fl46_3 rfl (.ro 2 rfl) (getI_spec he11G).2) ?_
          refine lg true rfl rfl rfl ?_
          refine lp rfl (p_lde (o := 3) ty30 rfl rfl (.ro 2 rfl) (getI_spec he11G).2 rfl) ?_
          refine lg true rfl rfl rfl ?_
          refine lp rfl (p_fn (cv := [.pointer (some ⟨b1, 0, none⟩), .pointer (some ⟨g4, 0, none⟩)]) rfl) ?_
          refine lg true rfl rfl rfl ?_
          obtain ⟨y12, hy12, hm⟩ := bindS hm
          refine r_call [] cf58 rfl rfl (ok_slices_ContainsFunc_string_string__gleeref2_shared_1 ge11 e11.Parts b1 s0_0_ xg0_0_ a0.Items a0.Change a0.Clap a0.Break a0.Half g4 u3.2 hy12) rfl rfl (.cons (.imp (.ro 1 rfl) (fun _ h => (Lk.at_ h (getI_spec he11G).2))) (.cons (.imp (.box 0 rfl) (fun _ h => h)) (.cons (.ro 1 rfl) (.cons (.ro 2 rfl) (.cons (.imp (.box 3 rfl) (fun _ h => h)) .nil))))) (fun _ => rfl) rfl (fun _ => ?_)
          refine lp rfl (p_pkt rfl rfl) ?_
          refine lj_nil ?_
          exact cnk10 _ _ y12 () (Option.some.inj hm).symm ⟨rfl, rfl, rfl, rfl, rfl, trivial⟩ (fun _ h => h.picks [0, 0, 0, 0] rfl)
        · have hm := ifB_f hb hm
          refine ls true rfl rfl rfl rfl ?_
          refine ls true rfl rfl rfl rfl ?_
          refine ls true rfl rfl rfl rfl ?_
          refine ls true rfl rfl rfl rfl ?_
          refine ls true rfl rfl rfl rfl ?_
          refine ls true rfl rfl rfl rfl ?_
          refine ls true rfl rfl rfl rfl ?_
          refine ls true rfl rfl rfl rfl ?_
          refine lp rfl (p_pkf rfl rfl) ?_
          refine lj_nil ?_
          exact cnk10 _ _ false () (Option.some.inj hm).symm ⟨rfl, rfl, rfl, rfl, rfl, trivial⟩ (fun _ h => h.picks [0, 0, 0, 0] rfl)
    · have hm := ifB_f hb hm
      refine cj_exit rfl ?_
      exact (aftk5 (u3.1, u3.2) g4 (hBk5 _ (Option.some.inj hm).symm)).sub ⟨rfl, rfl, rfl, rfl, trivial⟩ (fun _ h => h.picks [0, 0, 0, 0] rfl)
theorem ok_cmp_isNaN_int (a0 : Int) {r : Bool} (hm : m_cmp_isNaN_int a0 = some r) :
    Ctr Tryd.prog 72 [.int .i64 a0].toArray ([] : List Ent) [] (X := Unit) (fun _ => .bool r) (fun _ => []) := by
  unfold m_cmp_isNaN_int at hm
  refine ctr_mk (vs := [(0, .int .i64 a0)]) Tryd.func72 rfl Tryd.ntmps72 rfl ⟨rfl, trivial⟩ (fun w0 A => ?_)
  refine cj_seq ?_
  refine cj_reg ?_
  refine lp rfl (p_as rfl) ?_
  refine lj_seq ?_
  refine cj_seq ?_
  refine cj_reg ?_
  refine lp rfl (p_mv rfl) ?_
  refine lp rfl (p_mv rfl) ?_
  refine lp rfl (p_neq rfl rfl) ?_
  refine lp rfl (p_as rfl) ?_
  refine lj_seq ?_
  obtain rfl := Option.some.inj hm
  exact cj_rt () [] Tryd.results72 (.tmp rfl .nil) rfl rfl
theorem ok_cmp_Compare_int (a0 : Int) (a1 : Int) {r : Int} (hm : m_cmp_Compare_int a0 a1 = some r) :
    Ctr Tryd.prog 56 [.int .i64 a0, .int .i64 a1].toArray ([] : List Ent) [] (X := Unit) (fun _ => .int .i64 r) (fun _ => []) := by
  unfold m_cmp_Compare_int at hm
  refine ctr_mk (vs := [(0, .int .i64 a0), (1, .int .i64 a1)]) Tryd.func56 rfl Tryd.ntmps56 rfl ⟨rfl, rfl, trivial⟩ (fun w0 A => ?_)
  refine cj_seq ?_
  refine cj_reg ?_
  refine lp rfl (p_as rfl) ?_
  refine lj_seq ?_
  refine cj_seq ?_
  refine cj_reg ?_
  refine lp rfl (p_mv rfl) ?_
  obtain ⟨y1, hy1, hm⟩ := bindS hm
  refine r_call [] cf72 rfl rfl (ok_cmp_isNaN_int a0 hy1) rfl rfl .nil (fun _ => rfl) rfl (fun _ => ?_)
  refine lp rfl (p_as rfl) ?_
  refine lj_seq ?_
  refine cj_seq ?_
  refine cj_reg ?_
  refine lp rfl (p_mv rfl) ?_
  obtain ⟨y2, hy2, hm⟩ := bindS hm
  refine r_call [] cf72 rfl rfl (ok_cmp_isNaN_int a1 hy2) rfl rfl .nil (fun _ => rfl) rfl (fun _ => ?_)
  refine lp rfl (p_as rfl) ?_
  refine lj_seq ?_
  refine cj_seq ?_
  refine cj_seq ?_
  refine cj_reg ?_
  refine lp rfl (p_mv rfl) ?_
  refine lj_seq ?_
  refine cj_if (b := y1) rfl (fun hb => ?_) (fun hb => ?_)
  · have hm := ifB_t hb hm
    refine cj_seq ?_
    refine cj_seq ?_
    refine cj_reg ?_
    refine lp rfl (p_mv rfl) ?_
    refine lj_seq ?_
    refine cj_if (b := y2) rfl (fun hb => ?_) (fun hb => ?_)
    · have hm := ifB_t hb hm
      refine cj_seq ?_
      refine cj_reg ?_
      refine lp rfl (p_as rfl) ?_
      refine lj_seq ?_
      obtain rfl := Option.some.inj hm
      exact cj_rt () [] Tryd.results56 (.tmp rfl .nil) rfl rfl
    · have hm := ifB_f hb hm
      refine cj_skip ?_
      refine nj_seq ?_
      refine cj_seq ?_
      refine cj_reg ?_
      refine lp rfl (p_as rfl) ?_
      refine lj_seq ?_
      obtain rfl := Option.some.inj hm
      exact cj_rt () [] Tryd.results56 (.tmp rfl .nil) rfl rfl
  · have hm := ifB_f hb hm
    refine cj_skip ?_
    refine nj_seq ?_
    refine cj_seq ?_
    refine cj_seq ?_
    refine cj_reg ?_
    refine lp rfl (p_mv rfl) ?_
    refine lj_seq ?_
    refine cj_if (b := y2) rfl (fun hb => ?_) (fun hb => ?_)
    · have hm := ifB_t hb hm
      refine cj_seq ?_
      refine cj_reg ?_
      refine lp rfl (p_as rfl) ?_
      refine lj_seq ?_
      obtain rfl := Option.some.inj hm
      exact cj_rt () [] Tryd.results56 (.tmp rfl .nil) rfl rfl
    · have hm := ifB_f hb hm
      refine cj_skip ?_
      refine nj_seq ?_
      refine cj_seq ?_
      refine cj_seq ?_
      refine cj_reg ?_
      refine lp rfl (p_mv rfl) ?_
      refine lp rfl (p_mv rfl) ?_
      refine lp rfl (p_lss rfl rfl) ?_
      refine lj_seq ?_
      refine cj_if (b := decide (a0 < a1)) rfl (fun hb => ?_) (fun hb => ?_)
      · have hm := ifB_t hb hm
        refine cj_seq ?_
        refine cj_reg ?_
        refine lp rfl (p_as rfl) ?_
        refine lj_seq ?_
        obtain rfl := Option.some.inj hm
        exact cj_rt () [] Tryd.results56 (.tmp rfl .nil) rfl rfl
      · have hm := ifB_f hb hm
        refine cj_skip ?_
        refine nj_seq ?_
        refine cj_seq ?_
        refine cj_seq ?_
        refine cj_reg ?_
        refine lp rfl (p_mv rfl) ?_
        refine lp rfl (p_mv rfl) ?_
        refine lp rfl (p_gtr rfl rfl) ?_
        refine lj_seq ?_
        refine cj_if (b := decide (a0 > a1)) rfl (fun hb => ?_) (fun hb => ?_)
        · have hm := ifB_t hb hm
          refine cj_seq ?_
          refine cj_reg ?_
          refine lp rfl (p_as rfl) ?_
          refine lj_seq ?_
          obtain rfl := Option.some.inj hm
          exact cj_rt () [] Tryd.results56 (.tmp rfl .nil) rfl rfl
        · have hm := ifB_f hb hm
          refine cj_skip ?_
          refine nj_seq ?_
          refine cj_seq ?_
          refine cj_reg ?_
          refine lp rfl (p_as rfl) ?_
          refine lj_seq ?_
          obtain rfl := Option.some.inj hm
          exact cj_rt () [] Tryd.results56 (.tmp rfl .nil) rfl rfl
theorem ok_slices_Compare_int_int (s0_ : SV) (a0 : (List Int)) (s1_ : SV) (a1 : (List Int)) {r : Int} (hm : m_slices_Compare_int_int a0 a1 = some r) :
    Ctr Tryd.prog 35 [s0_.v, s1_.v].toArray ([] : List Ent) [RdS R3 (SV.v s0_) a0, RdS R3 (SV.v s1_) a1] (X := Unit) (fun _ => .int .i64 r) (fun _ => []) := by
  unfold m_slices_Compare_int_int at hm
  refine ctr_mk (vs := [(0, s0_.v), (1, s1_.v)]) Tryd.func35 rfl Tryd.ntmps35 rfl ⟨rfl, rfl, trivial⟩ (fun w0 A => ?_)
  refine cj_seq ?_
  refine cj_reg ?_
  refine lp rfl (p_as rfl) ?_
  refine lj_seq ?_
  refine cj_seq ?_
  refine cj_seq ?_
  refine cj_reg ?_
  refine lp rfl (p_mv rfl) ?_
  refine lp rfl (p_len Tryd.underlying22 rfl (.ro 0 rfl)) ?_
  refine lp rfl (p_mv rfl) ?_
  refine lj_seq ?_
  obtain ⟨f7, hf7, hm⟩ := bindS hm
  refine cj_range (γ := Unit) (m := (a0.length : Int)) hf7 () (fun u4 g5 => [(0, s0_.v), (1, s1_.v), (4, .int .i64 0), (9, s0_.v)]) (fun u4 g5 => Sat w0 (keys ([] : List Ent)) A [.ro (RdS R3 (SV.v s0_) a0), .ro (RdS R3 (SV.v s1_) a1)]) ⟨rfl, rfl, rfl, rfl, rfl, rfl, trivial⟩ (fun _ h => h.picks [0, 0] rfl) (nat_lt _) (fun _ h => (FactAt.get (F := RdS R3 (SV.v s0_) a0) (.ro 0 rfl) h).1) (fun _ _ => ⟨rfl, rfl, rfl, rfl⟩) ⟨rfl, rfl, rfl, rfl, rfl⟩ rfl rfl rfl (fun u4 g5 e => ?_) (fun aftk6 i1 x2 u4 g5 k6 hx3 hs J hJk6 hBk6 hX I cnk6 => ?_)
  · have hm := Flow.fin_b e hm
    refine nj_seq ?_
    refine cj_seq ?_
    refine cj_seq ?_
    refine cj_reg ?_
    refine lp rfl (p_mv rfl) ?_
    refine lp rfl (p_len Tryd.underlying22 rfl (.ro 0 rfl)) ?_
    refine lp rfl (p_mv rfl) ?_
    refine lp rfl (p_len Tryd.underlying22 rfl (.ro 1 rfl)) ?_
    refine lp rfl (p_lss rfl rfl) ?_
    refine lj_seq ?_
    refine cj_if (b := decide ((a0.length : Int) < (a1.length : Int))) rfl (fun hb => ?_) (fun hb => ?_)
    · have hm := ifB_t hb hm
      refine cj_seq ?_
      refine cj_reg ?_
      refine lp rfl (p_as rfl) ?_
      refine lj_seq ?_
      obtain rfl := Option.some.inj hm
      exact cj_rt () [] Tryd.results35 (.tmp rfl .nil) rfl rfl
    · have hm := ifB_f hb hm
      refine cj_skip ?_
      refine nj_seq ?_
      refine cj_seq ?_
      refine cj_reg ?_
      refine lp rfl (p_as rfl) ?_
      refine lj_seq ?_
      obtain rfl := Option.some.inj hm
      exact cj_rt () [] Tryd.results35 (.tmp rfl .nil) rfl rfl
  · have hRk6 : ∀ t, k6 = .ret t → some t = some r := fun t e => by rw [hX t e] at hm; exact hm
    have hm := hs
    refine cj_seq ?_
    refine cj_reg ?_
    refine lp rfl (p_mv rfl) ?_
    refine lp rfl (p_idx Tryd.underlying22 ty3 rfl rfl (.ro 0 rfl) (getI_nat.trans hx3)) ?_
    refine lp rfl (p_lde (o := 0) ty3 rfl rfl (.ro 0 rfl) hx3 rfl) ?_
    refine lp rfl (p_as rfl) ?_
    refine lp rfl (p_as rfl) ?_
    refine lj_seq ?_
    refine cj_seq ?_
    refine cj_seq ?_
    refine cj_reg ?_
    refine lp rfl (p_mv rfl) ?_
    refine lp rfl (p_mv rfl) ?_
    refine lp rfl (p_len Tryd.underlying22 rfl (.ro 1 rfl)) ?_
    refine lp rfl (p_geq rfl rfl) ?_
    refine lj_seq ?_
    refine cj_if (b := decide ((i1 : Int) ≥ (a1.length : Int))) rfl (fun hb => ?_) (fun hb => ?_)
    · have hm := ifB_t hb hm
      refine cj_seq ?_
      refine cj_reg ?_
      refine lp rfl (p_as rfl) ?_
      refine lj_seq ?_
      have hm := hRk6 _ (Option.some.inj hm).symm
      obtain rfl := Option.some.inj hm
      exact cj_rt () [] Tryd.results35 (.tmp rfl .nil) rfl rfl
    · have hm := ifB_f hb hm
      refine cj_skip ?_
      refine nj_seq ?_
      refine cj_seq ?_
      refine cj_reg ?_
      refine lp rfl (p_mv rfl) ?_
      refine lp rfl (p_mv rfl) ?_
      obtain ⟨e8, he8, hm⟩ := bindS hm
      refine lp rfl (p_idx Tryd.underlying22 ty3 rfl rfl (.ro 1 rfl) he8) ?_
      refine lp rfl (p_lde (o := 0) ty3 rfl rfl (.ro 1 rfl) (getI_spec he8).2 rfl) ?_
      refine lp rfl (p_as rfl) ?_
      refine lj_seq ?_
      refine cj_seq ?_
      refine cj_reg ?_
      refine lp rfl (p_mv rfl) ?_
      refine lp rfl (p_mv rfl) ?_
      obtain ⟨y9, hy9, hm⟩ := bindS hm
      refine r_call [] cf56 rfl rfl (ok_cmp_Compare_int x2 e8 hy9) rfl rfl .nil (fun _ => rfl) rfl (fun _ => ?_)
      refine lp rfl (p_as rfl) ?_
      refine lj_seq ?_
      refine cj_seq ?_
      refine cj_reg ?_
      refine lp rfl (p_mv rfl) ?_
      refine lp rfl (p_neq rfl rfl) ?_
      refine lj_seq ?_
      refine cj_if (b := y9 != 0) rfl (fun hb => ?_) (fun hb => ?_)
      · have hm := ifB_t hb hm
        refine cj_seq ?_
        refine cj_reg ?_
        refine lp rfl (p_mv rfl) ?_
        refine lp rfl (p_as rfl) ?_
        refine lj_seq ?_
        have hm := hRk6 _ (Option.some.inj hm).symm
        obtain rfl := Option.some.inj hm
        exact cj_rt () [] Tryd.results35 (.tmp rfl .nil) rfl rfl
      · have hm := ifB_f hb hm
        refine cj_skip ?_
        refine nj_blk ?_
        exact cnk6 _ _ () () (hJk6 _ (Option.some.inj hm).symm) ⟨rfl, rfl, rfl, rfl, rfl, rfl, trivial⟩ (fun _ h => h.picks [0, 0] rfl)
theorem ok_gleeref2_keysOf (s0_ : SV) (xg0_ : List (TItem × SV)) (a0 : (List TItem)) {r : (List ByteArray)} (hm : m_gleeref2_keysOf a0 = some r) :
    Ctr Tryd.prog 39 [s0_.v].toArray ([] : List Ent) [Lk N46 a0 xg0_, RdS N46.R (SV.v s0_) xg0_] (X := SV) (fun s => s.v) (fun s => [.row R9 (SV.v s) r]) := by
  unfold m_gleeref2_keysOf at hm
  refine ctr_mk (vs := [(0, s0_.v)]) Tryd.func39 rfl Tryd.ntmps39 rfl ⟨rfl, trivial⟩ (fun w0 A => ?_)
  refine cj_pure (F := Lk N46 a0 xg0_) (.ro 0 rfl) (fun _ h => h.1) (fun hL0_ => ?_)
  refine cj_seq ?_
  refine cj_reg ?_
  refine lp rfl (p_as rfl) ?_
  refine lj_seq ?_
  refine cj_seq ?_
  refine cj_reg ?_
  refine lp rfl (p_as rfl) ?_
  refine lj_seq ?_
  refine cj_seq ?_
  refine cj_seq ?_
  refine cj_reg ?_
  refine lp rfl (p_mv rfl) ?_
  refine lp rfl (p_lenG hL0_ Tryd.underlying26 rfl (.ro 1 rfl)) ?_
  refine lp rfl (p_mv rfl) ?_
  refine lj_seq ?_
  refine cj_nil R9 ?_
  obtain ⟨f8, hf8, hm⟩ := bindS hm
  refine cj_range (γ := SV) (m := (a0.length : Int)) hf8 nilS (fun u5 g6 => [(2, .slice none 0 0), (3, g6.v), (6, s0_.v)]) (fun u5 g6 => Sat w0 (keys ([] : List Ent)) A [.ro (Lk N46 a0 xg0_), .ro (RdS N46.R (SV.v s0_) xg0_), .row R9 (SV.v g6) u5]) ⟨rfl, rfl, rfl, rfl, rfl, trivial⟩ (fun _ h => h.picks [1, 1, 0] rfl) (nat_lt _) (fun _ h => by have h1 := (FactAt.get (F := RdS N46.R (SV.v s0_) xg0_) (.ro 2 rfl) h).1; rw [lk_len hL0_] at h1; exact h1) (fun _ _ => ⟨rfl, rfl, rfl, rfl⟩) ⟨rfl, rfl, rfl, rfl, rfl⟩ rfl rfl rfl (fun u5 g6 e => ?_) (fun aftk7 i1 x2 u5 g6 k7 hx3 hs J hJk7 hBk7 hX I cnk7 => ?_)
  · have hm := Flow.fin_b e hm
    refine nj_seq ?_
    refine cj_seq ?_
    refine cj_reg ?_
    refine lp rfl (p_mv rfl) ?_
    refine lp rfl (p_as rfl) ?_
    refine lj_seq ?_
    obtain rfl := Option.some.inj hm
    exact cj_rt g6 [2] Tryd.results39 (.tmp rfl .nil) rfl rfl
  · have hRk7 : ∀ t, k7 = .ret t → some t = some r := fun t e => by rw [hX t e] at hm; exact hm
    have hm := hs
    refine cj_seq ?_
    refine cj_reg ?_
    obtain ⟨gx2, hx3G⟩ := lk_get hL0_ hx3
    refine lp rfl (p_idx Tryd.underlying26 ty46 rfl rfl (.ro 1 rfl) (getI_nat.trans hx3G)) ?_
    refine lp rfl (p_leaN (cs := [.string x2.Key, .string x2.Places, .int .i64 x2.Long, gx2.v]) ty46 rfl (.ro 1 rfl) hx3G rfl) ?_
    refine r_al ty46 rfl (fun b10 => ?_)
    refine r_sb (vs := [.string x2.Key, .string x2.Places, .int .i64 x2.Long, gx2.v]) (j := 0) ty46 rfl rfl rfl rfl rfl rfl rfl ?_
    refine lj_seq ?_
    refine cj_reg ?_
    refine lp rfl (p_mv rfl) ?_
    refine lp rfl (p_fab fl46_0 rfl) ?_
    refine lp rfl (p_lbs ty9 rfl (j := 0) rfl rfl) ?_
    refine r_bs R9 [x2.Key] rfl rfl rfl (fun _ => by kernel_rfl) rfl (fun s11 => ?_)
    obtain ⟨q12, hq12, hm⟩ := bindS hm
    refine r_app (k := 4) Tryd.underlying30 ty9 rfl rfl rfl rfl (.row 0 rfl) hq12 rfl (fun s13 => ?_)
    refine lp rfl (p_as rfl) ?_
    refine lj_nil ?_
    refine nj_blk ?_
    exact cnk7 _ _ q12 s13 (hJk7 _ (Option.some.inj hm).symm) ⟨rfl, rfl, rfl, rfl, rfl, trivial⟩ (fun _ h => h.picks [2, 2, 2] rfl)
theorem ok_gleeref2_BestOrder_1 (a0 : TProgram) (s0_0_ : SV) (xg0_0_ : List (TItem × SV)) (a1 : TProgram) (s1_0_ : SV) (xg1_0_ : List (TItem × SV)) {r : Bool} (hm : m_gleeref2_BestOrder_1 a0 a1 = some r) :
    Ctr Tryd.prog 34 [.agg [s0_0_.v, .int .i64 a0.Change, .int .i64 a0.Clap, .int .i64 a0.Break, .int .i64 a0.Half].toArray, .agg [s1_0_.v, .int .i64 a1.Change, .int .i64 a1.Clap, .int .i64 a1.Break, .int .i64 a1.Half].toArray].toArray ([] : List Ent) [Lk N46 a0.Items xg0_0_, RdS N46.R (SV.v s0_0_) xg0_0_, Lk N46 a1.Items xg1_0_, RdS N46.R (SV.v s1_0_) xg1_0_] (X := Unit) (fun _ => .bool r) (fun _ => []) := by
  unfold m_gleeref2_BestOrder_1 at hm
  refine ctr_mk (vs := [(0, .agg [s0_0_.v, .int .i64 a0.Change, .int .i64 a0.Clap, .int .i64 a0.Break, .int .i64 a0.Half].toArray), (1, .agg [s1_0_.v, .int .i64 a1.Change, .int .i64 a1.Clap, .int .i64 a1.Break, .int .i64 a1.Half].toArray)]) Tryd.func34 rfl Tryd.ntmps34 rfl ⟨rfl, rfl, trivial⟩ (fun w0 A => ?_)
  refine cj_pure (F := Lk N46 a0.Items xg0_0_) (.ro 0 rfl) (fun _ h => h.1) (fun hL0_0_ => ?_)
  refine cj_pure (F := Lk N46 a1.Items xg1_0_) (.ro 2 rfl) (fun _ h => h.1) (fun hL1_0_ => ?_)
  refine cj_seq ?_
  refine cj_reg ?_
  refine r_bx (cs := [s0_0_.v, .int .i64 a0.Change, .int .i64 a0.Clap, .int .i64 a0.Break, .int .i64 a0.Half]) rfl rfl rfl (fun b1 => ?_)
  refine r_bx (cs := [s1_0_.v, .int .i64 a1.Change, .int .i64 a1.Clap, .int .i64 a1.Break, .int .i64 a1.Half]) rfl rfl rfl (fun b2 => ?_)
  refine lp rfl (p_as rfl) ?_
  refine lj_seq ?_
  refine cj_seq ?_
  refine cj_seq ?_
  obtain ⟨k5, hk5, hm⟩ := bindS hm
  have hRk5 : ∀ t, k5 = .inr t → some t = some r := fun t e => by rw [e] at hm; exact hm
  refine cj_joinK (σ := Int) (γ := Unit) (fun u3 => k5 = .inl u3) (fun u3 g4 => [(2, .pointer (some ⟨b1, 0, none⟩)), (3, .pointer (some ⟨b2, 0, none⟩)), (4, .bool false), (5, .int .i64 u3)]) (fun u3 g4 => Sat w0 (keys ([] : List Ent)) A [.box b2 28 [s1_0_.v, .int .i64 a1.Change, .int .i64 a1.Clap, .int .i64 a1.Break, .int .i64 a1.Half], .box b1 28 [s0_0_.v, .int .i64 a0.Change, .int .i64 a0.Clap, .int .i64 a0.Break, .int .i64 a0.Half], .ro (Lk N46 a0.Items xg0_0_), .ro (RdS N46.R (SV.v s0_0_) xg0_0_), .ro (Lk N46 a1.Items xg1_0_), .ro (RdS N46.R (SV.v s1_0_) xg1_0_)]) (fun u3 g4 hq => ?_) (fun J cnk5 => ?_)
  · have hm := Sum.fin_l hq hm
    refine cj_seq ?_
    refine cj_reg ?_
    refine lp rfl (p_mv rfl) ?_
    refine lp rfl (p_neq rfl rfl) ?_
    refine lj_seq ?_
    refine cj_if (b := u3 != 0) rfl (fun hb => ?_) (fun hb => ?_)
    · have hm := ifB_t hb hm
      refine cj_seq ?_
      refine cj_reg ?_
      refine lp rfl (p_mv rfl) ?_
      refine lp rfl (p_lss rfl rfl) ?_
      refine lp rfl (p_as rfl) ?_
      refine lj_seq ?_
      obtain rfl := Option.some.inj hm
      exact cj_rt () [] Tryd.results34 (.tmp rfl .nil) rfl rfl
    · have hm := ifB_f hb hm
      refine cj_skip ?_
      refine nj_seq ?_
      refine cj_seq ?_
      obtain ⟨y21, hy21, hm⟩ := bindS hm
      obtain ⟨y23, hy23, hm⟩ := bindS hm
      obtain ⟨y25, hy25, hm⟩ := bindS hm
      refine cj_anyT [0, 1, 3, 4, 7, 8] [] (Sat w0 (keys ([] : List Ent)) A [.box b2 28 [s1_0_.v, .int .i64 a1.Change, .int .i64 a1.Clap, .int .i64 a1.Break, .int .i64 a1.Half], .box b1 28 [s0_0_.v, .int .i64 a0.Change, .int .i64 a0.Clap, .int .i64 a0.Break, .int .i64 a0.Half], .ro (Lk N46 a0.Items xg0_0_), .ro (RdS N46.R (SV.v s0_0_) xg0_0_), .ro (Lk N46 a1.Items xg1_0_), .ro (RdS N46.R (SV.v s1_0_) xg1_0_)]) (Sat w0 (keys ([] : List Ent)) A [.box b2 28 [s1_0_.v, .int .i64 a1.Change, .int .i64 a1.Clap, .int .i64 a1.Break, .int .i64 a1.Half], .box b1 28 [s0_0_.v, .int .i64 a0.Change, .int .i64 a0.Clap, .int .i64 a0.Break, .int .i64 a0.Half], .ro (Lk N46 a0.Items xg0_0_), .ro (RdS N46.R (SV.v s0_0_) xg0_0_), .ro (Lk N46 a1.Items xg1_0_), .ro (RdS N46.R (SV.v s1_0_) xg1_0_)]) (by kernel_rfl) ?_
      refine at_take2 0 rfl (by kernel_rfl) (by kernel_rfl) (by kernel_rfl) (fun _ h => h.picks [0, 0, 0, 0, 0, 0] rfl) rfl rfl (p_fab fl28_0 rfl) (fun _ h => h.picks [0, 0, 0, 0, 0, 0] rfl) ?_
      refine at_take2 1 rfl (by kernel_rfl) (by kernel_rfl) (by kernel_rfl) (fun _ h => h.picks [0, 0, 0, 0, 0, 0] rfl) rfl rfl (p_lbs ty26 rfl (j := 1) rfl rfl) (fun _ h => h.picks [0, 0, 0, 0, 0, 0] rfl) ?_
      refine at_take2 3 rfl (by kernel_rfl) (by kernel_rfl) (by kernel_rfl) (fun _ h => h.picks [0, 0, 0, 0, 0, 0] rfl) rfl rfl (p_fab fl28_0 rfl) (fun _ h => h.picks [0, 0, 0, 0, 0, 0] rfl) ?_
      refine at_take2 4 rfl (by kernel_rfl) (by kernel_rfl) (by kernel_rfl) (fun _ h => h.picks [0, 0, 0, 0, 0, 0] rfl) rfl rfl (p_lbs ty26 rfl (j := 0) rfl rfl) (fun _ h => h.picks [0, 0, 0, 0, 0, 0] rfl) ?_
      refine at_each (rs := [2]) (by kernel_rfl) (by decide) ?_
      refine (.cons rfl (fun I cnI => ?_) .nil)
      · refine r_call [] cf39 rfl rfl (ok_gleeref2_keysOf s0_0_ xg0_0_ a0.Items hy21) rfl rfl (.cons (.ro 2 rfl) (.cons (.ro 3 rfl) .nil)) (fun _ => rfl) rfl (fun s26 => ?_)
        refine lj_nil ?_
        refine cnI _ _ (sof1 rfl rfl (fun _ h => h.picks [1, 1, 1, 1, 1, 1] rfl)) ?_
        refine at_each (rs := [5]) (by kernel_rfl) (by decide) ?_
        refine (.cons rfl (fun I cnI => ?_) .nil)
        · refine r_call [] cf39 rfl rfl (ok_gleeref2_keysOf s1_0_ xg1_0_ a1.Items hy23) rfl rfl (.cons (.ro 5 rfl) (.cons (.ro 6 rfl) .nil)) (fun _ => rfl) rfl (fun s27 => ?_)
          refine lj_nil ?_
          refine cnI _ _ (sof1 rfl rfl (fun _ h => h.picks [2, 2, 2, 2, 2, 2] rfl)) ?_
          refine at_each (rs := [6]) (by kernel_rfl) (by decide) ?_
          refine (.cons rfl (fun I cnI => ?_) .nil)
          · refine r_call [] cf38 rfl rfl (ok_slices_Compare_string_string s26 y21 s27 y23 hy25) rfl rfl (.cons (.row 1 rfl) (.cons (.row 0 rfl) .nil)) (fun _ => rfl) rfl (fun _ => ?_)
            refine lj_nil ?_
            refine cnI _ _ (sof1 rfl rfl (fun _ h => h.picks [2, 2, 2, 2, 2, 2] rfl)) ?_
            refine at_take2 7 rfl (by kernel_rfl) (by kernel_rfl) (by kernel_rfl) (fun _ h => h.picks [0, 0, 0, 0, 0, 0] rfl) rfl rfl (p_lss rfl rfl) (fun _ h => h.picks [2, 2, 2, 2, 2, 2] rfl) ?_
            refine at_take2 8 rfl (by kernel_rfl) (by kernel_rfl) (by kernel_rfl) (fun _ h => h.picks [0, 0, 0, 0, 0, 0] rfl) rfl rfl (p_as rfl) (fun _ h => h.picks [2, 2, 2, 2, 2, 2] rfl) ?_
            refine at_done (by kernel_rfl) ?_
            refine nj_seq ?_
            obtain rfl := Option.some.inj hm
            exact cj_rt () [] Tryd.results34 (.tmp rfl .nil) rfl rfl
  · have hm := hk5
    obtain ⟨y6, hy6, hm⟩ := bindS hm
    obtain ⟨y7, hy7, hm⟩ := bindS hm
    obtain ⟨y9, hy9, hm⟩ := bindS hm
    obtain ⟨y10, hy10, hm⟩ := bindS hm
    obtain ⟨y12, hy12, hm⟩ := bindS hm
    refine cj_anyT [0, 2, 5, 7, 11] [] (Sat w0 (keys ([] : List Ent)) A [.box b2 28 [s1_0_.v, .int .i64 a1.Change, .int .i64 a1.Clap, .int .i64 a1.Break, .int .i64 a1.Half], .box b1 28 [s0_0_.v, .int .i64 a0.Change, .int .i64 a0.Clap, .int .i64 a0.Break, .int .i64 a0.Half], .ro (Lk N46 a0.Items xg0_0_), .ro (RdS N46.R (SV.v s0_0_) xg0_0_), .ro (Lk N46 a1.Items xg1_0_), .ro (RdS N46.R (SV.v s1_0_) xg1_0_)]) (Sat w0 (keys ([] : List Ent)) A [.box b2 28 [s1_0_.v, .int .i64 a1.Change, .int .i64 a1.Clap, .int .i64 a1.Break, .int .i64 a1.Half], .box b1 28 [s0_0_.v, .int .i64 a0.Change, .int .i64 a0.Clap, .int .i64 a0.Break, .int .i64 a0.Half], .ro (Lk N46 a0.Items xg0_0_), .ro (RdS N46.R (SV.v s0_0_) xg0_0_), .ro (Lk N46 a1.Items xg1_0_), .ro (RdS N46.R (SV.v s1_0_) xg1_0_)]) (by kernel_rfl) ?_
    refine at_take2 0 rfl (by kernel_rfl) (by kernel_rfl) (by kernel_rfl) (fun _ h => h.picks [0, 0, 0, 0, 0, 0] rfl) rfl rfl (p_lbw ty28 rfl (j := 1) rfl rfl) (fun _ h => h.picks [0, 0, 0, 0, 0, 0] rfl) ?_
    refine at_take2 2 rfl (by kernel_rfl) (by kernel_rfl) (by kernel_rfl) (fun _ h => h.picks [0, 0, 0, 0, 0, 0] rfl) rfl rfl (p_lbw ty28 rfl (j := 1) rfl rfl) (fun _ h => h.picks [0, 0, 0, 0, 0, 0] rfl) ?_
    refine at_take2 5 rfl (by kernel_rfl) (by kernel_rfl) (by kernel_rfl) (fun _ h => h.picks [0, 0, 0, 0, 0, 0] rfl) rfl rfl (p_lbw ty28 rfl (j := 0) rfl rfl) (fun _ h => h.picks [0, 0, 0, 0, 0, 0] rfl) ?_
    refine at_take2 7 rfl (by kernel_rfl) (by kernel_rfl) (by kernel_rfl) (fun _ h => h.picks [0, 0, 0, 0, 0, 0] rfl) rfl rfl (p_lbw ty28 rfl (j := 0) rfl rfl) (fun _ h => h.picks [0, 0, 0, 0, 0, 0] rfl) ?_
    refine at_each (rs := [1]) (by kernel_rfl) (by decide) ?_
    refine (.cons rfl (fun I cnI => ?_) .nil)
    · refine r_call [] cf36 rfl rfl (ok_gleeref2_LongOfProgram a0 s0_0_ xg0_0_ hy6) rfl rfl (.cons (.ro 2 rfl) (.cons (.ro 3 rfl) .nil)) (fun _ => rfl) rfl (fun _ => ?_)
      refine lj_nil ?_
      refine cnI _ _ (sof1 rfl rfl (fun _ h => h.picks [0, 0, 0, 0, 0, 0] rfl)) ?_
      refine at_each (rs := [3]) (by kernel_rfl) (by decide) ?_
      refine (.cons rfl (fun I cnI => ?_) .nil)
      · refine r_call [] cf37 rfl rfl (ok_gleeref2_shared a0 s0_0_ xg0_0_ hy7) rfl rfl (.cons (.ro 2 rfl) (.cons (.ro 3 rfl) .nil)) (fun _ => rfl) rfl (fun _ => ?_)
        refine lj_nil ?_
        refine cnI _ _ (sof1 rfl rfl (fun _ h => h.picks [0, 0, 0, 0, 0, 0] rfl)) ?_
        refine at_each (rs := [4, 6]) (by kernel_rfl) (by decide) ?_
        refine (.cons rfl (fun I cnI => ?_) (.cons rfl (fun I cnI => ?_) .nil))
        · refine r_bs R3 [y6, y7] rfl rfl rfl (fun _ => by kernel_rfl) rfl (fun s13 => ?_)
          refine lj_nil ?_
          refine cnI _ _ (sof1 rfl rfl (fun _ h => h.picks [1, 1, 1, 1, 1, 1] rfl)) ?_
          refine at_each (rs := [6]) (by kernel_rfl) (by decide) ?_
          refine (.cons rfl (fun I cnI => ?_) .nil)
          · refine r_call [] cf36 rfl rfl (ok_gleeref2_LongOfProgram a1 s1_0_ xg1_0_ hy9) rfl rfl (.cons (.ro 5 rfl) (.cons (.ro 6 rfl) .nil)) (fun _ => rfl) rfl (fun _ => ?_)
            refine lj_nil ?_
            refine cnI _ _ (sof1 rfl rfl (fun _ h => h.picks [1, 1, 1, 1, 1, 1] rfl)) ?_
            refine at_each (rs := [8]) (by kernel_rfl) (by decide) ?_
            refine (.cons rfl (fun I cnI => ?_) .nil)
            · refine r_call [] cf37 rfl rfl (ok_gleeref2_shared a1 s1_0_ xg1_0_ hy10) rfl rfl (.cons (.ro 5 rfl) (.cons (.ro 6 rfl) .nil)) (fun _ => rfl) rfl (fun _ => ?_)
              refine lj_nil ?_
              refine cnI _ _ (sof1 rfl rfl (fun _ h => h.picks [1, 1, 1, 1, 1, 1] rfl)) ?_
              refine at_each (rs := [9]) (by kernel_rfl) (by decide) ?_
              refine (.cons rfl (fun I cnI => ?_) .nil)
              · refine r_bs R3 [y9, y10] rfl rfl rfl (fun _ => by kernel_rfl) rfl (fun s14 => ?_)
                refine lj_nil ?_
                refine cnI _ _ (sof1 rfl rfl (fun _ h => h.picks [2, 2, 2, 2, 2, 2] rfl)) ?_
                refine at_each (rs := [10]) (by kernel_rfl) (by decide) ?_
                refine (.cons rfl (fun I cnI => ?_) .nil)
                · refine r_call [] cf35 rfl rfl (ok_slices_Compare_int_int s13 [y6, y7] s14 [y9, y10] hy12) rfl rfl (.cons (.row 1 rfl) (.cons (.row 0 rfl) .nil)) (fun _ => rfl) rfl (fun _ => ?_)
                  refine lj_nil ?_
                  refine cnI _ _ (sof1 rfl rfl (fun _ h => h.picks [2, 2, 2, 2, 2, 2] rfl)) ?_
                  refine at_take2 11 rfl (by kernel_rfl) (by kernel_rfl) (by kernel_rfl) (fun _ h => h.picks [0, 0, 0, 0, 0, 0] rfl) rfl rfl (p_as rfl) (fun _ h => h.picks [2, 2, 2, 2, 2, 2] rfl) ?_
                  refine at_done (by kernel_rfl) ?_
                  exact cnk5 _ _ y12 () (Option.some.inj hm).symm ⟨rfl, rfl, rfl, rfl, trivial⟩ (fun _ h => h.picks [2, 2, 2, 2, 2, 2] rfl)
        · refine r_call [] cf36 rfl rfl (ok_gleeref2_LongOfProgram a1 s1_0_ xg1_0_ hy9) rfl rfl (.cons (.ro 4 rfl) (.cons (.ro 5 rfl) .nil)) (fun _ => rfl) rfl (fun _ => ?_)
          refine lj_nil ?_
          refine cnI _ _ (sof1 rfl rfl (fun _ h => h.picks [0, 0, 0, 0, 0, 0] rfl)) ?_
          refine at_each (rs := [4, 8]) (by kernel_rfl) (by decide) ?_
          refine (.cons rfl (fun I cnI => ?_) (.cons rfl (fun I cnI => ?_) .nil))
          · refine r_bs R3 [y6, y7] rfl rfl rfl (fun _ => by kernel_rfl) rfl (fun s15 => ?_)
            refine lj_nil ?_
            refine cnI _ _ (sof1 rfl rfl (fun _ h => h.picks [1, 1, 1, 1, 1, 1] rfl)) ?_
            refine at_each (rs := [8]) (by kernel_rfl) (by decide) ?_
            refine (.cons rfl (fun I cnI => ?_) .nil)
            · refine r_call [] cf37 rfl rfl (ok_gleeref2_shared a1 s1_0_ xg1_0_ hy10) rfl rfl (.cons (.ro 5 rfl) (.cons (.ro 6 rfl) .nil)) (fun _ => rfl) rfl (fun _ => ?_)
              refine lj_nil ?_
              refine cnI _ _ (sof1 rfl rfl (fun _ h => h.picks [1, 1, 1, 1, 1, 1] rfl)) ?_
              refine at_each (rs := [9]) (by kernel_rfl) (by decide) ?_
              refine (.cons rfl (fun I cnI => ?_) .nil)
              · refine r_bs R3 [y9, y10] rfl rfl rfl (fun _ => by kernel_rfl) rfl (fun s16 => ?_)
                refine lj_nil ?_
                refine cnI _ _ (sof1 rfl rfl (fun _ h => h.picks [2, 2, 2, 2, 2, 2] rfl)) ?_
                refine at_each (rs := [10]) (by kernel_rfl) (by decide) ?_
                refine (.cons rfl (fun I cnI => ?_) .nil)
                · refine r_call [] cf35 rfl rfl (ok_slices_Compare_int_int s15 [y6, y7] s16 [y9, y10] hy12) rfl rfl (.cons (.row 1 rfl) (.cons (.row 0 rfl) .nil)) (fun _ => rfl) rfl (fun _ => ?_)
                  refine lj_nil ?_
                  refine cnI _ _ (sof1 rfl rfl (fun _ h => h.picks [2, 2, 2, 2, 2, 2] rfl)) ?_
                  refine at_take2 11 rfl (by kernel_rfl) (by kernel_rfl) (by kernel_rfl) (fun _ h => h.picks [0, 0, 0, 0, 0, 0] rfl) rfl rfl (p_as rfl) (fun _ h => h.picks [2, 2, 2, 2, 2, 2] rfl) ?_
                  refine at_done (by kernel_rfl) ?_
                  exact cnk5 _ _ y12 () (Option.some.inj hm).symm ⟨rfl, rfl, rfl, rfl, trivial⟩ (fun _ h => h.picks [2, 2, 2, 2, 2, 2] rfl)
          · refine r_call [] cf37 rfl rfl (ok_gleeref2_shared a1 s1_0_ xg1_0_ hy10) rfl rfl (.cons (.ro 4 rfl) (.cons (.ro 5 rfl) .nil)) (fun _ => rfl) rfl (fun _ => ?_)
            refine lj_nil ?_
            refine cnI _ _ (sof1 rfl rfl (fun _ h => h.picks [0, 0, 0, 0, 0, 0] rfl)) ?_
            refine at_each (rs := [4, 9]) (by kernel_rfl) (by decide) ?_
            refine (.cons rfl (fun I cnI => ?_) (.cons rfl (fun I cnI => ?_) .nil))
            · refine r_bs R3 [y6, y7] rfl rfl rfl (fun _ => by kernel_rfl) rfl (fun s17 => ?_)
              refine lj_nil ?_
              refine cnI _ _ (sof1 rfl rfl (fun _ h => h.picks [1, 1, 1, 1, 1, 1] rfl)) ?_
              refine at_each (rs := [9]) (by kernel_rfl) (by decide) ?_
              refine (.cons rfl (fun I cnI => ?_) .nil)
              · refine r_bs R3 [y9, y10] rfl rfl rfl (fun _ => by kernel_rfl) rfl (fun s18 => ?_)
                refine lj_nil ?_
                refine cnI _ _ (sof1 rfl rfl (fun _ h => h.picks [2, 2, 2, 2, 2, 2] rfl)) ?_
                refine at_each (rs := [10]) (by kernel_rfl) (by decide) ?_
                refine (.cons rfl (fun I cnI => ?_) .nil)
                · refine r_call [] cf35 rfl rfl (ok_slices_Compare_int_int s17 [y6, y7] s18 [y9, y10] hy12) rfl rfl (.cons (.row 1 rfl) (.cons (.row 0 rfl) .nil)) (fun _ => rfl) rfl (fun _ => ?_)
                  refine lj_nil ?_
                  refine cnI _ _ (sof1 rfl rfl (fun _ h => h.picks [2, 2, 2, 2, 2, 2] rfl)) ?_
                  refine at_take2 11 rfl (by kernel_rfl) (by kernel_rfl) (by kernel_rfl) (fun _ h => h.picks [0, 0, 0, 0, 0, 0] rfl) rfl rfl (p_as rfl) (fun _ h => h.picks [2, 2, 2, 2, 2, 2] rfl) ?_
                  refine at_done (by kernel_rfl) ?_
                  exact cnk5 _ _ y12 () (Option.some.inj hm).symm ⟨rfl, rfl, rfl, rfl, trivial⟩ (fun _ h => h.picks [2, 2, 2, 2, 2, 2] rfl)
            · refine r_bs R3 [y9, y10] rfl rfl rfl (fun _ => by kernel_rfl) rfl (fun s19 => ?_)
              refine lj_nil ?_
              refine cnI _ _ (sof1 rfl rfl (fun _ h => h.picks [1, 1, 1, 1, 1, 1] rfl)) ?_
              refine at_each (rs := [4]) (by kernel_rfl) (by decide) ?_
              refine (.cons rfl (fun I cnI => ?_) .nil)
              · refine r_bs R3 [y6, y7] rfl rfl rfl (fun _ => by kernel_rfl) rfl (fun s20 => ?_)
                refine lj_nil ?_
                refine cnI _ _ (sof1 rfl rfl (fun _ h => h.picks [2, 2, 2, 2, 2, 2] rfl)) ?_
                refine at_each (rs := [10]) (by kernel_rfl) (by decide) ?_
                refine (.cons rfl (fun I cnI => ?_) .nil)
                · refine r_call [] cf35 rfl rfl (ok_slices_Compare_int_int s20 [y6, y7] s19 [y9, y10] hy12) rfl rfl (.cons (.row 0 rfl) (.cons (.row 1 rfl) .nil)) (fun _ => rfl) rfl (fun _ => ?_)
                  refine lj_nil ?_
                  refine cnI _ _ (sof1 rfl rfl (fun _ h => h.picks [2, 2, 2, 2, 2, 2] rfl)) ?_
                  refine at_take2 11 rfl (by kernel_rfl) (by kernel_rfl) (by kernel_rfl) (fun _ h => h.picks [0, 0, 0, 0, 0, 0] rfl) rfl rfl (p_as rfl) (fun _ h => h.picks [2, 2, 2, 2, 2, 2] rfl) ?_
                  refine at_done (by kernel_rfl) ?_
                  exact cnk5 _ _ y12 () (Option.some.inj hm).symm ⟨rfl, rfl, rfl, rfl, trivial⟩ (fun _ h => h.picks [2, 2, 2, 2, 2, 2] rfl)
theorem ok_gleeref2_BestOrder_2__gleeref2_BestOrder_1__self_b (self_ : ((List TItem) → (List TItem) → Int → Int → Int → Int → Bool → (List TItem) → Int → Int → Int → Int → Option (Bool × (List TItem) × Int × Int × Int × Int))) (ih_ : ∀ (s0_ : SV) (xg0_ : List (TItem × SV)) (a0 : (List TItem)) (b1_ : Nat) (s1_0_ : SV) (xg1_0_ : List (TItem × SV)) (a1_0 : (List TItem)) (a1_1 : Int) (a1_2 : Int) (a1_3 : Int) (a1_4 : Int) (b2_ : Nat) (a2_0 : Bool) (b3_ : Nat) (b4_ : Nat) (s4_0_ : SV) (xg4_0_ : List (TItem × SV)) (a4_0 : (List TItem)) (a4_1 : Int) (a4_2 : Int) (a4_3 : Int) (a4_4 : Int) (b5_ : Nat) {r : Bool × (List TItem) × Int × Int × Int × Int} (hm : self_ a0 a1_0 a1_1 a1_2 a1_3 a1_4 a2_0 a4_0 a4_1 a4_2 a4_3 a4_4 = some r),
    Ctr Tryd.prog 40 [s0_.v, .pointer (some ⟨b1_, 0, none⟩), .pointer (some ⟨b2_, 0, none⟩), .pointer (some ⟨b3_, 0, none⟩), .pointer (some ⟨b4_, 0, none⟩), .pointer (some ⟨b5_, 0, none⟩)].toArray [.box b2_ 4 [.bool a2_0], .box b4_ 28 [s4_0_.v, .int .i64 a4_1, .int .i64 a4_2, .int .i64 a4_3, .int .i64 a4_4]] [Lk N46 a0 xg0_, RdS N46.R (SV.v s0_) xg0_, BoxS b1_ 28 [s1_0_.v, .int .i64 a1_1, .int .i64 a1_2, .int .i64 a1_3, .int .i64 a1_4], Lk N46 a1_0 xg1_0_, RdS N46.R (SV.v s1_0_) xg1_0_, BoxS b3_ 52 [.func (.func 34) #[] [].toArray], Lk N46 a4_0 xg4_0_, RdS N46.R (SV.v s4_0_) xg4_0_, BoxS b5_ 72 [.func (.func 40) #[] [.pointer (some ⟨b1_, 0, none⟩), .pointer (some ⟨b2_, 0, none⟩), .pointer (some ⟨b3_, 0, none⟩), .pointer (some ⟨b4_, 0, none⟩), .pointer (some ⟨b5_, 0, none⟩)].toArray]] (X := (SV × List (TItem × SV))) (fun s => .tuple [].toArray) (fun s => [.ro (RdS N46.R (SV.v s.1) s.2), .ro (Lk N46 r.2.1 s.2), .box b2_ 4 [.bool r.1], .box b4_ 28 [s.1.v, .int .i64 r.2.2.1, .int .i64 r.2.2.2.1, .int .i64 r.2.2.2.2.1, .int .i64 r.2.2.2.2.2]])) (s0_ : SV) (xg0_ : List (TItem × SV)) (a0 : (List TItem)) (b1_ : Nat) (s1_0_ : SV) (xg1_0_ : List (TItem × SV)) (a1_0 : (List TItem)) (a1_1 : Int) (a1_2 : Int) (a1_3 : Int) (a1_4 : Int) (b2_ : Nat) (a2_0 : Bool) (b3_ : Nat) (b4_ : Nat) (s4_0_ : SV) (xg4_0_ : List (TItem × SV)) (a4_0 : (List TItem)) (a4_1 : Int) (a4_2 : Int) (a4_3 : Int) (a4_4 : Int) (b5_ : Nat) {r : Bool × (List TItem) × Int × Int × Int × Int} (hm : m_gleeref2_BestOrder_2__gleeref2_BestOrder_1__self_b self_ a0 a1_0 a1_1 a1_2 a1_3 a1_4 a2_0 a4_0 a4_1 a4_2 a4_3 a4_4 = some r) :
    Ctr Tryd.prog 40 [s0_.v, .pointer (some ⟨b1_, 0, none⟩), .pointer (some ⟨b2_, 0, none⟩), .pointer (some ⟨b3_, 0, none⟩), .pointer (some ⟨b4_, 0, none⟩), .pointer (some ⟨b5_, 0, none⟩)].toArray [.box b2_ 4 [.bool a2_0], .box b4_ 28 [s4_0_.v, .int .i64 a4_1, .int .i64 a4_2, .int .i64 a4_3, .int .i64 a4_4]] [Lk N46 a0 xg0_, RdS N46.R (SV.v s0_) xg0_, BoxS b1_ 28 [s1_0_.v, .int .i64 a1_1, .int .i64 a1_2, .int .i64 a1_3, .int .i64 a1_4], Lk N46 a1_0 xg1_0_, RdS N46.R (SV.v s1_0_) xg1_0_, BoxS b3_ 52 [.func (.func 34) #[] [].toArray], Lk N46 a4_0 xg4_0_, RdS N46.R (SV.v s4_0_) xg4_0_, BoxS b5_ 72 [.func (.func 40) #[] [.pointer (some ⟨b1_, 0, none⟩), .pointer (some ⟨b2_, 0, none⟩), .pointer (some ⟨b3_, 0, none⟩), .pointer (some ⟨b4_, 0, none⟩), .pointer (some ⟨b5_, 0, none⟩)].toArray]] (X := (SV × List (TItem × SV))) (fun s => .tuple [].toArray) (fun s => [.ro (RdS N46.R (SV.v s.1) s.2), .ro (Lk N46 r.2.1 s.2), .box b2_ 4 [.bool r.1], .box b4_ 28 [s.1.v, .int .i64 r.2.2.1, .int .i64 r.2.2.2.1, .int .i64 r.2.2.2.2.1, .int .i64 r.2.2.2.2.2]]) := by
  unfold m_gleeref2_BestOrder_2__gleeref2_BestOrder_1__self_b at hm
  refine ctr_mk (vs := [(0, s0_.v), (1, .pointer (some ⟨b1_, 0, none⟩)), (2, .pointer (some ⟨b2_, 0, none⟩)), (3, .pointer (some ⟨b3_, 0, none⟩)), (4, .pointer (some ⟨b4_, 0, none⟩)), (5, .pointer (some ⟨b5_, 0, none⟩))]) Tryd.func40 rfl Tryd.ntmps40 rfl ⟨rfl, rfl, rfl, rfl, rfl, rfl, trivial⟩ (fun w0 A => ?_)
  refine cj_pure (F := Lk N46 a0 xg0_) (.ro 2 rfl) (fun _ h => h.1) (fun hL0_ => ?_)
  refine cj_pure (F := Lk N46 a1_0 xg1_0_) (.ro 5 rfl) (fun _ h => h.1) (fun hL1_0_ => ?_)
  refine cj_pure (F := Lk N46 a4_0 xg4_0_) (.ro 8 rfl) (fun _ h => h.1) (fun hL4_0_ => ?_)
  refine cj_seq ?_
  refine cj_seq ?_
  refine cj_reg ?_
  refine lp rfl (p_mv rfl) ?_
  refine lp rfl (p_lenG hL0_ Tryd.underlying26 rfl (.ro 3 rfl)) ?_
  refine lp rfl (p_fab fl28_0 rfl) ?_
  refine lp rfl (p_rbs ty26 rfl (.ro 4 rfl) rfl) ?_
  refine lp rfl (p_lenG hL1_0_ Tryd.underlying26 rfl (.ro 6 rfl)) ?_
  refine lp rfl (p_eql rfl rfl) ?_
  refine lj_seq ?_
  refine cj_if (b := (a0.length : Int) == (a1_0.length : Int)) rfl (fun hb => ?_) (fun hb => ?_)
  · have hm := ifB_t hb hm
    refine cj_seq ?_
    refine cj_reg ?_
    refine lp rfl (p_rba ty28 rfl (.ro 4 rfl) rfl) ?_
    refine r_al ty28 rfl (fun b1 => ?_)
    refine r_sb (vs := [s1_0_.v, .int .i64 a1_1, .int .i64 a1_2, .int .i64 a1_3, .int .i64 a1_4]) (j := 0) ty28 rfl rfl rfl rfl rfl rfl rfl ?_
    refine lj_seq ?_
    refine cj_seq ?_
    refine cj_seq ?_
    refine cj_reg ?_
    refine lp rfl (p_mv rfl) ?_
    refine lp rfl (p_fab fl28_0 rfl) ?_
    refine r_sb (vs := [s0_.v]) (j := 0) ty26 rfl rfl rfl rfl rfl rfl rfl ?_
    refine lj_seq ?_
    refine cj_seq ?_
    refine cj_reg ?_
    obtain ⟨k4, hk4, hm⟩ := bindS hm
    have hRk4 : ∀ t, k4 = .inr t → some t = some r := fun t e => by rw [e] at hm; exact hm
    refine lj_join (σ := Bool) (γ := Unit) (fun u2 => k4 = .inl u2) (fun u2 g3 => [(0, s0_.v), (1, .pointer (some ⟨b1_, 0, none⟩)), (2, .pointer (some ⟨b2_, 0, none⟩)), (4, .pointer (some ⟨b4_, 0, none⟩)), (5, .pointer (some ⟨b5_, 0, none⟩)), (7, .pointer (some ⟨b1, 0, none⟩)), (26, .bool u2)]) (fun u2 g3 => Sat w0 (keys [.box b2_ 4 [.bool a2_0], .box b4_ 28 [s4_0_.v, .int .i64 a4_1, .int .i64 a4_2, .int .i64 a4_3, .int .i64 a4_4]]) A [.box b1 28 [s0_.v, .int .i64 a1_1, .int .i64 a1_2, .int .i64 a1_3, .int .i64 a1_4], .box b2_ 4 [.bool a2_0], .box b4_ 28 [s4_0_.v, .int .i64 a4_1, .int .i64 a4_2, .int .i64 a4_3, .int .i64 a4_4], .ro (Lk N46 a0 xg0_), .ro (RdS N46.R (SV.v s0_) xg0_), .ro (BoxS b1_ 28 [s1_0_.v, .int .i64 a1_1, .int .i64 a1_2, .int .i64 a1_3, .int .i64 a1_4]), .ro (Lk N46 a1_0 xg1_0_), .ro (RdS N46.R (SV.v s1_0_) xg1_0_), .ro (BoxS b3_ 52 [.func (.func 34) #[] [].toArray]), .ro (Lk N46 a4_0 xg4_0_), .ro (RdS N46.R (SV.v s4_0_) xg4_0_), .ro (BoxS b5_ 72 [.func (.func 40) #[] [.pointer (some ⟨b1_, 0, none⟩), .pointer (some ⟨b2_, 0, none⟩), .pointer (some ⟨b3_, 0, none⟩), .pointer (some ⟨b4_, 0, none⟩), .pointer (some ⟨b5_, 0, none⟩)].toArray])]) (fun u2 g3 hq => ?_) (fun J cnk4 => ?_)
    · have hm := Sum.fin_l hq hm
      obtain ⟨k9, hk9, hm⟩ := bindS hm
      have hRk9 : ∀ t, k9 = .inr t → some t = some r := fun t e => by rw [e] at hm; exact hm
      refine cj_joinK (σ := (Bool × Int × Int × Int × Int × (List TItem))) (γ := (SV × List (TItem × SV))) (fun u6 => k9 = .inl u6) (fun u6 g7 => [(0, s0_.v), (1, .pointer (some ⟨b1_, 0, none⟩)), (5, .pointer (some ⟨b5_, 0, none⟩))]) (fun u6 g7 => Sat w0 (keys [.box b2_ 4 [.bool a2_0], .box b4_ 28 [s4_0_.v, .int .i64 a4_1, .int .i64 a4_2, .int .i64 a4_3, .int .i64 a4_4]]) A [.box b2_ 4 [.bool u6.1], .box b4_ 28 [g7.1.v, .int .i64 u6.2.1, .int .i64 u6.2.2.1, .int .i64 u6.2.2.2.1, .int .i64 u6.2.2.2.2.1], .ro (Lk N46 a0 xg0_), .ro (RdS N46.R (SV.v s0_) xg0_), .ro (BoxS b1_ 28 [s1_0_.v, .int .i64 a1_1, .int .i64 a1_2, .int .i64 a1_3, .int .i64 a1_4]), .ro (Lk N46 a1_0 xg1_0_), .ro (RdS N46.R (SV.v s1_0_) xg1_0_), .ro (BoxS b3_ 52 [.func (.func 34) #[] [].toArray]), .ro (BoxS b5_ 72 [.func (.func 40) #[] [.pointer (some ⟨b1_, 0, none⟩), .pointer (some ⟨b2_, 0, none⟩), .pointer (some ⟨b3_, 0, none⟩), .pointer (some ⟨b4_, 0, none⟩), .pointer (some ⟨b5_, 0, none⟩)].toArray]), .ro (RdS N46.R (SV.v g7.1) g7.2), .ro (Lk N46 u6.2.2.2.2.2 g7.2)]) (fun u6 g7 hq => ?_) (fun J cnk9 => ?_)
      · have hm := Sum.fin_l hq hm
        refine cj_pure (F := Lk N46 u6.2.2.2.2.2 g7.2) (.ro 10 rfl) (fun _ h => h.1) (fun hLu6_K8 => ?_)
        obtain rfl := Option.some.inj hm
        exact cj_rt (g7.1, g7.2) [9, 9, 0, 0] Tryd.results40 .nil rfl rfl
      · have hm := hk9
        refine cj_if (b := u2) rfl (fun hb => ?_) (fun hb => ?_)
        · have hm := ifB_t hb hm
          refine cj_reg ?_
          refine lp rfl (p_lbw ty28 rfl (j := 0) rfl rfl) ?_
          refine r_sb (vs := [s0_.v, .int .i64 a1_1, .int .i64 a1_2, .int .i64 a1_3, .int .i64 a1_4]) (j := 2) ty28 rfl rfl rfl rfl rfl rfl rfl ?_
          refine r_sb (vs := [.bool true]) (j := 1) ty4 rfl rfl rfl rfl rfl rfl rfl ?_
          refine lj_nil ?_
          refine nj_fact (F := Lk N46 a0 xg0_) (.ro 3 rfl) ?_
          refine nj_fact (F := RdS N46.R (SV.v s0_) xg0_) (.ro 5 rfl) ?_
          exact cnk9 _ _ (true, a1_1, a1_2, a1_3, a1_4, a0) (s0_, xg0_) (Option.some.inj hm).symm ⟨rfl, rfl, rfl, trivial⟩ (fun _ h => h.picks [3, 3, 3, 3, 3, 3, 3, 3, 5, 0, 0] rfl)
        · have hm := ifB_f hb hm
          refine cj_skip ?_
          exact cnk9 _ _ (a2_0, a4_1, a4_2, a4_3, a4_4, a4_0) (s4_0_, xg4_0_) (Option.some.inj hm).symm ⟨rfl, rfl, rfl, trivial⟩ (fun _ h => h.picks [1, 1, 1, 1, 1, 1, 1, 1, 3, 2, 1] rfl)
    · have hm := hk4
      refine lp rfl (p_lbs ty4 rfl (j := 1) rfl rfl) ?_
      refine lp rfl (p_not rfl) ?_
      refine lp rfl (p_mv rfl) ?_
      refine lcase (i := 21) (!a2_0) rfl (fun hb => ?_) (fun hb => ?_)
      · have hm := ifB_t hb hm
        refine ls false rfl rfl rfl rfl ?_
        refine ls false rfl rfl rfl rfl ?_
        refine ls false rfl rfl rfl rfl ?_
        refine ls false rfl rfl rfl rfl ?_
        refine lp rfl (p_pkt rfl rfl) ?_
        refine lj_nil ?_
        exact cnk4 _ _ true () (Option.some.inj hm).symm ⟨rfl, rfl, rfl, rfl, rfl, rfl, rfl, trivial⟩ (fun _ h => h.picks [0, 0, 0, 0, 0, 0, 0, 0, 0, 0, 0, 0] rfl)
      · have hm := ifB_f hb hm
        refine lg false rfl rfl rfl ?_
        refine lp rfl (p_rbs ty52 rfl (.ro 8 rfl) rfl) ?_
        refine lg false rfl rfl rfl ?_
        refine lp rfl (p_lbw ty28 rfl (j := 0) rfl rfl) ?_
        refine lg false rfl rfl rfl ?_
        refine lp rfl (p_lbw ty28 rfl (j := 2) rfl rfl) ?_
        refine lg false rfl rfl rfl ?_
        obtain ⟨y5, hy5, hm⟩ := bindS hm
        refine r_call [] cf34 rfl rfl (ok_gleeref2_BestOrder_1 (TProgram.mk a0 a1_1 a1_2 a1_3 a1_4) s0_ xg0_ (TProgram.mk a4_0 a4_1 a4_2 a4_3 a4_4) s4_0_ xg4_0_ hy5) rfl rfl (.cons (.ro 3 rfl) (.cons (.ro 4 rfl) (.cons (.ro 9 rfl) (.cons (.ro 10 rfl) .nil)))) (fun _ => rfl) rfl (fun _ => ?_)
        refine lp rfl (p_pkf rfl rfl) ?_
        refine lj_nil ?_
        exact cnk4 _ _ y5 () (Option.some.inj hm).symm ⟨rfl, rfl, rfl, rfl, rfl, rfl, rfl, trivial⟩ (fun _ h => h.picks [0, 0, 0, 0, 0, 0, 0, 0, 0, 0, 0, 0] rfl)
  · have hm := ifB_f hb hm
    refine cj_skip ?_
    refine nj_seq ?_
    refine cj_seq ?_
    refine cj_reg ?_
    refine lp rfl (p_fab fl28_0 rfl) ?_
    refine lp rfl (p_rbs ty26 rfl (.ro 4 rfl) rfl) ?_
    refine lp rfl (p_lenG hL1_0_ Tryd.underlying26 rfl (.ro 6 rfl)) ?_
    refine lp rfl (p_mv rfl) ?_
    refine lj_seq ?_
    obtain ⟨f17, hf17, hm⟩ := bindS hm
    refine cj_range (γ := (SV × List (TItem × SV))) (m := (a1_0.length : Int)) hf17 (s4_0_, xg4_0_) (fun u14 g15 => [(0, s0_.v), (5, .pointer (some ⟨b5_, 0, none⟩)), (29, s1_0_.v)]) (fun u14 g15 => Sat w0 (keys [.box b2_ 4 [.bool a2_0], .box b4_ 28 [s4_0_.v, .int .i64 a4_1, .int .i64 a4_2, .int .i64 a4_3, .int .i64 a4_4]]) A [.box b2_ 4 [.bool u14.1], .box b4_ 28 [g15.1.v, .int .i64 u14.2.1, .int .i64 u14.2.2.1, .int .i64 u14.2.2.2.1, .int .i64 u14.2.2.2.2.1], .ro (Lk N46 a0 xg0_), .ro (RdS N46.R (SV.v s0_) xg0_), .ro (BoxS b1_ 28 [s1_0_.v, .int .i64 a1_1, .int .i64 a1_2, .int .i64 a1_3, .int .i64 a1_4]), .ro (Lk N46 a1_0 xg1_0_), .ro (RdS N46.R (SV.v s1_0_) xg1_0_), .ro (BoxS b3_ 52 [.func (.func 34) #[] [].toArray]), .ro (BoxS b5_ 72 [.func (.func 40) #[] [.pointer (some ⟨b1_, 0, none⟩), .pointer (some ⟨b2_, 0, none⟩), .pointer (some ⟨b3_, 0, none⟩), .pointer (some ⟨b4_, 0, none⟩), .pointer (some ⟨b5_, 0, none⟩)].toArray]), .ro (RdS N46.R (SV.v g15.1) g15.2), .ro (Lk N46 u14.2.2.2.2.2 g15.2)]) ⟨rfl, rfl, rfl, rfl, rfl, trivial⟩ (fun _ h => h.picks [0, 0, 0, 0, 0, 0, 0, 0, 2, 1, 0] rfl) (nat_lt _) (fun _ h => by have h1 := (FactAt.get (F := RdS N46.R (SV.v s1_0_) xg1_0_) (.ro 6 rfl) h).1; rw [lk_len hL1_0_] at h1; exact h1) (fun _ _ => ⟨rfl, rfl, rfl, rfl⟩) ⟨rfl, rfl, rfl, rfl, rfl⟩ rfl rfl rfl (fun u14 g15 e => ?_) (fun aftk16 i11 x12 u14 g15 k16 hx13 hs J hJk16 hBk16 hX I cnk16 => ?_)
    · have hm := Flow.fin_b e hm
      refine nj_pure (F := Lk N46 u14.2.2.2.2.2 g15.2) (.ro 10 rfl) (fun _ h => h.1) (fun hLu14_K45 => ?_)
      obtain rfl := Option.some.inj hm
      exact nj_rt (g15.1, g15.2) [9, 9, 0, 0] Tryd.results40 .nil rfl rfl
    · have hRk16 : ∀ t, k16 = .ret t → some t = some r := fun t e => by rw [hX t e] at hm; exact hm
      have hm := hs
      refine cj_pure (F := Lk N46 u14.2.2.2.2.2 g15.2) (.ro 10 rfl) (fun _ h => h.1) (fun hLu14_K18 => ?_)
      refine cj_seq ?_
      refine cj_reg ?_
      obtain ⟨gx12, hx13G⟩ := lk_get hL1_0_ hx13
      refine lp rfl (p_idx Tryd.underlying26 ty46 rfl rfl (.ro 6 rfl) (getI_nat.trans hx13G)) ?_
      refine lp rfl (p_leaN (cs := [.string x12.Key, .string x12.Places, .int .i64 x12.Long, gx12.v]) ty46 rfl (.ro 6 rfl) hx13G rfl) ?_
      refine r_al ty46 rfl (fun b19 => ?_)
      refine r_sb (vs := [.string x12.Key, .string x12.Places, .int .i64 x12.Long, gx12.v]) (j := 0) ty46 rfl rfl rfl rfl rfl rfl rfl ?_
      refine lj_seq ?_
      refine cj_seq ?_
      refine cj_reg ?_
      refine lp rfl (p_mv rfl) ?_
      refine lp rfl (p_fab fl46_0 rfl) ?_
      refine lp rfl (p_lbs ty9 rfl (j := 0) rfl rfl) ?_
      obtain ⟨y20, hy20, hm⟩ := bindS hm
      refine r_call [] cf41 rfl rfl (ok_gleeref2_ItemAt s0_ xg0_ a0 x12.Key hy20) rfl rfl (.cons (.ro 3 rfl) (.cons (.ro 4 rfl) .nil)) (fun _ => rfl) rfl (fun _ => ?_)
      refine lp rfl (p_lss rfl rfl) ?_
      refine lj_seq ?_
      refine cj_if (b := decide (y20 < 0)) rfl (fun hb => ?_) (fun hb => ?_)
      · have hm := ifB_t hb hm
        obtain ⟨y21, hy21, hm⟩ := bindS hm
        obtain ⟨q25, hq25, hm⟩ := bindS hm
        obtain ⟨y28, hy28, hm⟩ := bindS hm
        refine cj_anyT [0, 1, 3] [] (Sat w0 (keys [.box b2_ 4 [.bool a2_0], .box b4_ 28 [s4_0_.v, .int .i64 a4_1, .int .i64 a4_2, .int .i64 a4_3, .int .i64 a4_4]]) A [.box b19 46 [.string x12.Key, .string x12.Places, .int .i64 x12.Long, gx12.v], .ro (Lk N46 a0 xg0_), .ro (RdS N46.R (SV.v s0_) xg0_), .ro (BoxS b1_ 28 [s1_0_.v, .int .i64 a1_1, .int .i64 a1_2, .int .i64 a1_3, .int .i64 a1_4]), .ro (Lk N46 a1_0 xg1_0_), .ro (RdS N46.R (SV.v s1_0_) xg1_0_), .ro (BoxS b3_ 52 [.func (.func 34) #[] [].toArray]), .ro (BoxS b5_ 72 [.func (.func 40) #[] [.pointer (some ⟨b1_, 0, none⟩), .pointer (some ⟨b2_, 0, none⟩), .pointer (some ⟨b3_, 0, none⟩), .pointer (some ⟨b4_, 0, none⟩), .pointer (some ⟨b5_, 0, none⟩)].toArray]), .ro (RdS N46.R (SV.v g15.1) g15.2), .ro (Lk N46 u14.2.2.2.2.2 g15.2)]) (Sat w0 (keys [.box b2_ 4 [.bool a2_0], .box b4_ 28 [s4_0_.v, .int .i64 a4_1, .int .i64 a4_2, .int .i64 a4_3, .int .i64 a4_4]]) A [.box b19 46 [.string x12.Key, .string x12.Places, .int .i64 x12.Long, gx12.v], .ro (Lk N46 a0 xg0_), .ro (RdS N46.R (SV.v s0_) xg0_), .ro (BoxS b1_ 28 [s1_0_.v, .int .i64 a1_1, .int .i64 a1_2, .int .i64 a1_3, .int .i64 a1_4]), .ro (Lk N46 a1_0 xg1_0_), .ro (RdS N46.R (SV.v s1_0_) xg1_0_), .ro (BoxS b3_ 52 [.func (.func 34) #[] [].toArray]), .ro (BoxS b5_ 72 [.func (.func 40) #[] [.pointer (some ⟨b1_, 0, none⟩), .pointer (some ⟨b2_, 0, none⟩), .pointer (some ⟨b3_, 0, none⟩), .pointer (some ⟨b4_, 0, none⟩), .pointer (some ⟨b5_, 0, none⟩)].toArray]), .ro (RdS N46.R (SV.v g15.1) g15.2), .ro (Lk N46 u14.2.2.2.2.2 g15.2)]) (by kernel_rfl) ?_
        refine at_take2 0 rfl (by kernel_rfl) (by kernel_rfl) (by kernel_rfl) (fun _ h => h.picks [0, 0, 0, 0, 0, 0, 0, 0, 0, 0] rfl) rfl rfl (p_rbs ty72 rfl (.ro 7 rfl) rfl) (fun _ h => h.picks [0, 2, 2, 2, 2, 2, 2, 2, 2, 2] rfl) ?_
        refine at_take2 1 rfl (by kernel_rfl) (by kernel_rfl) (by kernel_rfl) (fun _ h => h.picks [0, 0, 0, 0, 0, 0, 0, 0, 0, 0] rfl) rfl rfl (p_mv rfl) (fun _ h => h.picks [0, 2, 2, 2, 2, 2, 2, 2, 2, 2] rfl) ?_
        refine at_take2 3 rfl (by kernel_rfl) (by kernel_rfl) (by kernel_rfl) (fun _ h => h.picks [0, 0, 0, 0, 0, 0, 0, 0, 0, 0] rfl) rfl rfl (p_lbw ty46 rfl (j := 0) rfl rfl) (fun _ h => h.picks [0, 2, 2, 2, 2, 2, 2, 2, 2, 2] rfl) ?_
        refine at_each (rs := [2, 4]) (by kernel_rfl) (by decide) ?_
        refine (.cons rfl (fun I cnI => ?_) (.cons rfl (fun I cnI => ?_) .nil))
        · refine r_callN [] cf26 rfl rfl (ok_slices_Clone_api_Item_api_Item s0_ xg0_ a0 hy21) rfl rfl (.cons (.ro 3 rfl) (.cons (.ro 4 rfl) .nil)) rfl (fun ⟨s31, xg32⟩ => ?_)
          refine r_pure (F := Lk N46 y21 xg32) (.ro 1 rfl) (fun _ h => h.1) (fun hLs31 => ?_)
          refine lj_nil ?_
          refine cnI _ _ (sof1 rfl rfl (fun _ h => h.picks [2, 4, 4, 4, 4, 4, 4, 4, 4, 4] rfl)) ?_
          refine at_each (rs := [4]) (by kernel_rfl) (by decide) ?_
          refine (.cons rfl (fun I cnI => ?_) .nil)
          · refine r_fact (F := Lk N46 [x12] [(x12, gx12)]) (.imp (.and (.imp (.ro 8 rfl) (fun _ h => (Lk.at_ h hx13G))) (.nilL N46)) (fun _ h => Lk.cons h.1 h.2)) ?_
            have hLs33 : (([(x12, gx12)] : List (TItem × SV)).map Prod.fst) = ([x12] : List TItem) := rfl
            refine r_bs N46.R [(x12, gx12)] rfl rfl rfl (fun _ => by kernel_rfl) rfl (fun s33 => ?_)
            refine lj_nil ?_
            refine cnI _ _ (sof1 rfl rfl (fun _ h => h.picks [4, 6, 6, 6, 6, 6, 6, 6, 6, 6] rfl)) ?_
            refine at_each (rs := [5]) (by kernel_rfl) (by decide) ?_
            refine (.cons rfl (fun I cnI => ?_) .nil)
            · refine r_fact (F := Lk N46 q25 (xg32 ++ [(x12, gx12)])) (.imp (.and (.ro 3 rfl) (.ro 1 rfl)) (fun _ h => Lk.app hq25 h.1 h.2)) ?_
              refine r_app (k := 3) Tryd.underlying26 ty46 rfl rfl rfl rfl (.row 1 rfl) (lk_app hq25 hLs31 hLs33) rfl (fun s34 => ?_)
              refine lj_nil ?_
              refine cnI _ _ (sof1 rfl rfl (fun _ h => h.picks [5, 7, 7, 7, 7, 7, 7, 7, 7, 7] rfl)) ?_
              refine at_each (rs := [6]) (by kernel_rfl) (by decide) ?_
              refine (.cons rfl (fun I cnI => ?_) .nil)
              · refine r_fz 3 rfl ?_
                refine r_callN [6, 6] cf40 rfl rfl (ih_ s34 (xg32 ++ [(x12, gx12)]) q25 b1_ s1_0_ xg1_0_ a1_0 a1_1 a1_2 a1_3 a1_4 b2_ u14.1 b3_ b4_ g15.1 g15.2 u14.2.2.2.2.2 u14.2.1 u14.2.2.1 u14.2.2.2.1 u14.2.2.2.2.1 b5_ hy28) rfl rfl (.cons (.ro 1 rfl) (.cons (.ro 0 rfl) (.cons (.ro 8 rfl) (.cons (.ro 9 rfl) (.cons (.ro 10 rfl) (.cons (.ro 11 rfl) (.cons (.ro 14 rfl) (.cons (.ro 13 rfl) (.cons (.ro 12 rfl) .nil))))))))) rfl (fun ⟨s36, xg37⟩ => ?_)
                refine r_pure (F := Lk N46 y28.2.1 xg37) (.ro 1 rfl) (fun _ h => h.1) (fun hLs36 => ?_)
                refine lj_nil ?_
                refine cnI _ _ (sof1 rfl rfl (fun _ h => h.picks [9, 9, 9, 9, 9, 9, 9, 9, 9, 9] rfl)) ?_
                refine at_done (by kernel_rfl) ?_
                refine nj_blk ?_
                exact cnk16 _ _ (y28.1, y28.2.2.1, y28.2.2.2.1, y28.2.2.2.2.1, y28.2.2.2.2.2, y28.2.1) (s36, xg37) (hJk16 _ (Option.some.inj hm).symm) ⟨rfl, rfl, rfl, rfl, rfl, trivial⟩ (fun _ h => h.picks [2, 2, 8, 8, 8, 8, 8, 8, 8, 0, 0] rfl)
        · refine r_fact (F := Lk N46 [x12] [(x12, gx12)]) (.imp (.and (.imp (.ro 6 rfl) (fun _ h => (Lk.at_ h hx13G))) (.nilL N46)) (fun _ h => Lk.cons h.1 h.2)) ?_
          have hLs38 : (([(x12, gx12)] : List (TItem × SV)).map Prod.fst) = ([x12] : List TItem) := rfl
          refine r_bs N46.R [(x12, gx12)] rfl rfl rfl (fun _ => by kernel_rfl) rfl (fun s38 => ?_)
          refine lj_nil ?_
          refine cnI _ _ (sof1 rfl rfl (fun _ h => h.picks [2, 4, 4, 4, 4, 4, 4, 4, 4, 4] rfl)) ?_
          refine at_each (rs := [2]) (by kernel_rfl) (by decide) ?_
          refine (.cons rfl (fun I cnI => ?_) .nil)
          · refine r_callN [] cf26 rfl rfl (ok_slices_Clone_api_Item_api_Item s0_ xg0_ a0 hy21) rfl rfl (.cons (.ro 5 rfl) (.cons (.ro 6 rfl) .nil)) rfl (fun ⟨s39, xg40⟩ => ?_)
            refine r_pure (F := Lk N46 y21 xg40) (.ro 1 rfl) (fun _ h => h.1) (fun hLs39 => ?_)
            refine lj_nil ?_
            refine cnI _ _ (sof1 rfl rfl (fun _ h => h.picks [4, 6, 6, 6, 6, 6, 6, 6, 6, 6] rfl)) ?_
            refine at_each (rs := [5]) (by kernel_rfl) (by decide) ?_
            refine (.cons rfl (fun I cnI => ?_) .nil)
            · refine r_fact (F := Lk N46 q25 (xg40 ++ [(x12, gx12)])) (.imp (.and (.ro 1 rfl) (.ro 3 rfl)) (fun _ h => Lk.app hq25 h.1 h.2)) ?_
              refine r_app (k := 1) Tryd.underlying26 ty46 rfl rfl rfl rfl (.row 3 rfl) (lk_app hq25 hLs39 hLs38) rfl (fun s41 => ?_)
              refine lj_nil ?_
              refine cnI _ _ (sof1 rfl rfl (fun _ h => h.picks [5, 7, 7, 7, 7, 7, 7, 7, 7, 7] rfl)) ?_
              refine at_each (rs := [6]) (by kernel_rfl) (by decide) ?_
              refine (.cons rfl (fun I cnI => ?_) .nil)
              · refine r_fz 1 rfl ?_
                refine r_callN [6, 6] cf40 rfl rfl (ih_ s41 (xg40 ++ [(x12, gx12)]) q25 b1_ s1_0_ xg1_0_ a1_0 a1_1 a1_2 a1_3 a1_4 b2_ u14.1 b3_ b4_ g15.1 g15.2 u14.2.2.2.2.2 u14.2.1 u14.2.2.1 u14.2.2.2.1 u14.2.2.2.2.1 b5_ hy28) rfl rfl (.cons (.ro 1 rfl) (.cons (.ro 0 rfl) (.cons (.ro 8 rfl) (.cons (.ro 9 rfl) (.cons (.ro 10 rfl) (.cons (.ro 11 rfl) (.cons (.ro 14 rfl) (.cons (.ro 13 rfl) (.cons (.ro 12 rfl) .nil))))))))) rfl (fun ⟨s43, xg44⟩ => ?_)
                refine r_pure (F := Lk N46 y28.2.1 xg44) (.ro 1 rfl) (fun _ h => h.1) (fun hLs43 => ?_)
                refine lj_nil ?_
                refine cnI _ _ (sof1 rfl rfl (fun _ h => h.picks [9, 9, 9, 9, 9, 9, 9, 9, 9, 9] rfl)) ?_
                refine at_done (by kernel_rfl) ?_
                refine nj_blk ?_
                exact cnk16 _ _ (y28.1, y28.2.2.1, y28.2.2.2.1, y28.2.2.2.2.1, y28.2.2.2.2.2, y28.2.1) (s43, xg44) (hJk16 _ (Option.some.inj hm).symm) ⟨rfl, rfl, rfl, rfl, rfl, trivial⟩ (fun _ h => h.picks [2, 2, 8, 8, 8, 8, 8, 8, 8, 0, 0] rfl)
      · have hm := ifB_f hb hm
        refine cj_skip ?_
        refine nj_blk ?_
        exact cnk16 _ _ (u14.1, u14.2.1, u14.2.2.1, u14.2.2.2.1, u14.2.2.2.2.1, u14.2.2.2.2.2) (g15.1, g15.2) (hJk16 _ (Option.some.inj hm).symm) ⟨rfl, rfl, rfl, rfl, rfl, trivial⟩ (fun _ h => h.picks [1, 1, 1, 1, 1, 1, 1, 1, 1, 1, 1] rfl)
theorem ok_gleeref2_BestOrder_2__gleeref2_BestOrder_1__self (fu_ : Nat) : ∀ (s0_ : SV) (xg0_ : List (TItem × SV)) (a0 : (List TItem)) (b1_ : Nat) (s1_0_ : SV) (xg1_0_ : List (TItem × SV)) (a1_0 : (List TItem)) (a1_1 : Int) (a1_2 : Int) (a1_3 : Int) (a1_4 : Int) (b2_ : Nat) (a2_0 : Bool) (b3_ : Nat) (b4_ : Nat) (s4_0_ : SV) (xg4_0_ : List (TItem × SV)) (a4_0 : (List TItem)) (a4_1 : Int) (a4_2 : Int) (a4_3 : Int) (a4_4 : Int) (b5_ : Nat) {r : Bool × (List TItem) × Int × Int × Int × Int} (hm : m_gleeref2_BestOrder_2__gleeref2_BestOrder_1__self fu_ a0 a1_0 a1_1 a1_2 a1_3 a1_4 a2_0 a4_0 a4_1 a4_2 a4_3 a4_4 = some r),
    Ctr Tryd.prog 40 [s0_.v, .pointer (some ⟨b1_, 0, none⟩), .pointer (some ⟨b2_, 0, none⟩), .pointer (some ⟨b3_, 0, none⟩), .pointer (some ⟨b4_, 0, none⟩), .pointer (some ⟨b5_, 0, none⟩)].toArray [.box b2_ 4 [.bool a2_0], .box b4_ 28 [s4_0_.v, .int .i64 a4_1, .int .i64 a4_2, .int .i64 a4_3, .int .i64 a4_4]] [Lk N46 a0 xg0_, RdS N46.R (SV.v s0_) xg0_, BoxS b1_ 28 [s1_0_.v, .int .i64 a1_1, .int .i64 a1_2, .int .i64 a1_3, .int .i64 a1_4], Lk N46 a1_0 xg1_0_, RdS N46.R (SV.v s1_0_) xg1_0_, BoxS b3_ 52 [.func (.func 34) #[] [].toArray], Lk N46 a4_0 xg4_0_, RdS N46.R (SV.v s4_0_) xg4_0_, BoxS b5_ 72 [.func (.func 40) #[] [.pointer (some ⟨b1_, 0, none⟩), .pointer (some ⟨b2_, 0, none⟩), .pointer (some ⟨b3_, 0, none⟩), .pointer (some ⟨b4_, 0, none⟩), .pointer (some ⟨b5_, 0, none⟩)].toArray]] (X := (SV × List (TItem × SV))) (fun s => .tuple [].toArray) (fun s => [.ro (RdS N46.R (SV.v s.1) s.2), .ro (Lk N46 r.2.1 s.2), .box b2_ 4 [.bool r.1], .box b4_ 28 [s.1.v, .int .i64 r.2.2.1, .int .i64 r.2.2.2.1, .int .i64 r.2.2.2.2.1, .int .i64 r.2.2.2.2.2]]) := by
  induction fu_ with
  | zero => intro s0_ xg0_ a0 b1_ s1_0_ xg1_0_ a1_0 a1_1 a1_2 a1_3 a1_4 b2_ a2_0 b3_ b4_ s4_0_ xg4_0_ a4_0 a4_1 a4_2 a4_3 a4_4 b5_ r hm; exact absurd hm (by simp [m_gleeref2_BestOrder_2__gleeref2_BestOrder_1__self])
  | succ n ih => exact ok_gleeref2_BestOrder_2__gleeref2_BestOrder_1__self_b (m_gleeref2_BestOrder_2__gleeref2_BestOrder_1__self n) ih
theorem ok_gleeref2_BestOrder (a0 : TProgram) (s0_0_ : SV) (xg0_0_ : List (TItem × SV)) {r : (List ByteArray) × Int} (hm : m_gleeref2_BestOrder a0 = some r) :
    Ctr Tryd.prog 10 [.agg [s0_0_.v, .int .i64 a0.Change, .int .i64 a0.Clap, .int .i64 a0.Break, .int .i64 a0.Half].toArray].toArray ([] : List Ent) [Lk N46 a0.Items xg0_0_, RdS N46.R (SV.v s0_0_) xg0_0_] (X := SV) (fun s => .tuple [s.v, .int .i64 r.2].toArray) (fun s => [.row R9 (SV.v s) r.1]) := by
  unfold m_gleeref2_BestOrder at hm
  refine ctr_mk (vs := [(0, .agg [s0_0_.v, .int .i64 a0.Change, .int .i64 a0.Clap, .int .i64 a0.Break, .int .i64 a0.Half].toArray)]) Tryd.func10 rfl Tryd.ntmps10 rfl ⟨rfl, trivial⟩ (fun w0 A => ?_)
  refine cj_pure (F := Lk N46 a0.Items xg0_0_) (.ro 0 rfl) (fun _ h => h.1) (fun hL0_0_ => ?_)
  refine cj_seq ?_
  refine cj_reg ?_
  refine r_bx (cs := [s0_0_.v, .int .i64 a0.Change, .int .i64 a0.Clap, .int .i64 a0.Break, .int .i64 a0.Half]) rfl rfl rfl (fun b1 => ?_)
  refine lp rfl (p_as rfl) ?_
  refine lp rfl (p_as rfl) ?_
  refine lj_seq ?_
  refine cj_seq ?_
  refine cj_reg ?_
  refine lp rfl (p_lbw ty28 rfl (j := 0) rfl rfl) ?_
  refine r_al ty28 rfl (fun b2 => ?_)
  refine r_al ty4 rfl (fun b3 => ?_)
  refine r_sb (vs := [s0_0_.v, .int .i64 a0.Change, .int .i64 a0.Clap, .int .i64 a0.Break, .int .i64 a0.Half]) (j := 1) ty28 rfl rfl rfl rfl rfl rfl rfl ?_
  refine r_sb (vs := [.bool false]) (j := 0) ty4 rfl rfl rfl rfl rfl rfl rfl ?_
  refine lj_seq ?_
  refine cj_seq ?_
  refine cj_reg ?_
  refine r_al ty52 rfl (fun b4 => ?_)
  refine r_sb (vs := [.func (.func 34) #[] [].toArray]) (j := 0) ty52 rfl rfl rfl rfl rfl rfl rfl ?_
  refine lj_seq ?_
  refine cj_seq ?_
  refine cj_reg ?_
  refine r_al ty72 rfl (fun b5 => ?_)
  refine lj_seq ?_
  refine cj_seq ?_
  refine cj_reg ?_
  refine lp rfl (p_fn (cv := [.pointer (some ⟨b1, 0, none⟩), .pointer (some ⟨b3, 0, none⟩), .pointer (some ⟨b4, 0, none⟩), .pointer (some ⟨b2, 0, none⟩), .pointer (some ⟨b5, 0, none⟩)]) rfl) ?_
  refine r_sb (vs := [.func (.func 40) #[] [.pointer (some ⟨b1, 0, none⟩), .pointer (some ⟨b3, 0, none⟩), .pointer (some ⟨b4, 0, none⟩), .pointer (some ⟨b2, 0, none⟩), .pointer (some ⟨b5, 0, none⟩)].toArray]) (j := 0) ty72 rfl rfl rfl rfl rfl rfl rfl ?_
  refine lj_seq ?_
  refine cj_seq ?_
  refine cj_reg ?_
  refine lp rfl (p_lbs ty72 rfl (j := 0) rfl rfl) ?_
  refine r_fzb 4 rfl ?_
  refine r_fzb 2 rfl ?_
  refine r_fzb 2 rfl ?_
  obtain ⟨y7, hy7, hm⟩ := bindS hm
  refine r_callN [3, 3] cf40 rfl rfl (ok_gleeref2_BestOrder_2__gleeref2_BestOrder_1__self FUEL nilS [] [] b1 s0_0_ xg0_0_ a0.Items a0.Change a0.Clap a0.Break a0.Half b3 false b4 b2 s0_0_ xg0_0_ a0.Items a0.Change a0.Clap a0.Break a0.Half b5 hy7) rfl rfl (.cons (.nilL N46) (.cons (.nilS N46.R) (.cons (.ro 2 rfl) (.cons (.ro 3 rfl) (.cons (.ro 4 rfl) (.cons (.ro 1 rfl) (.cons (.ro 3 rfl) (.cons (.ro 4 rfl) (.cons (.ro 0 rfl) .nil))))))))) rfl (fun ⟨s8, xg9⟩ => ?_)
  refine r_pure (F := Lk N46 y7.2.1 xg9) (.ro 1 rfl) (fun _ h => h.1) (fun hLs8 => ?_)
  refine lj_seq ?_
  refine cj_seq ?_
  obtain ⟨y10, hy10, hm⟩ := bindS hm
  obtain ⟨y12, hy12, hm⟩ := bindS hm
  refine cj_anyT [0, 1, 3, 5, 6] [] (Sat w0 (keys ([] : List Ent)) A [.ro (RdS N46.R (SV.v s8) xg9), .ro (Lk N46 y7.2.1 xg9), .box b3 4 [.bool y7.1], .box b2 28 [s8.v, .int .i64 y7.2.2.1, .int .i64 y7.2.2.2.1, .int .i64 y7.2.2.2.2.1, .int .i64 y7.2.2.2.2.2], .ro (BoxS b5 72 [.func (.func 40) #[] [.pointer (some ⟨b1, 0, none⟩), .pointer (some ⟨b3, 0, none⟩), .pointer (some ⟨b4, 0, none⟩), .pointer (some ⟨b2, 0, none⟩), .pointer (some ⟨b5, 0, none⟩)].toArray]), .ro (BoxS b4 52 [.func (.func 34) #[] [].toArray]), .ro (BoxS b1 28 [s0_0_.v, .int .i64 a0.Change, .int .i64 a0.Clap, .int .i64 a0.Break, .int .i64 a0.Half]), .ro (Lk N46 a0.Items xg0_0_), .ro (RdS N46.R (SV.v s0_0_) xg0_0_)]) (Sat w0 (keys ([] : List Ent)) A [.ro (RdS N46.R (SV.v s8) xg9), .ro (Lk N46 y7.2.1 xg9), .box b3 4 [.bool y7.1], .box b2 28 [s8.v, .int .i64 y7.2.2.1, .int .i64 y7.2.2.2.1, .int .i64 y7.2.2.2.2.1, .int .i64 y7.2.2.2.2.2], .ro (BoxS b5 72 [.func (.func 40) #[] [.pointer (some ⟨b1, 0, none⟩), .pointer (some ⟨b3, 0, none⟩), .pointer (some ⟨b4, 0, none⟩), .pointer (some ⟨b2, 0, none⟩), .pointer (some ⟨b5, 0, none⟩)].toArray]), .ro (BoxS b4 52 [.func (.func 34) #[] [].toArray]), .ro (BoxS b1 28 [s0_0_.v, .int .i64 a0.Change, .int .i64 a0.Clap, .int .i64 a0.Break, .int .i64 a0.Half]), .ro (Lk N46 a0.Items xg0_0_), .ro (RdS N46.R (SV.v s0_0_) xg0_0_)]) (by kernel_rfl) ?_
  refine at_take2 0 rfl (by kernel_rfl) (by kernel_rfl) (by kernel_rfl) (fun _ h => h.picks [0, 0, 0, 0, 0, 0, 0, 0, 0] rfl) rfl rfl (p_fab fl28_0 rfl) (fun _ h => h.picks [0, 0, 0, 0, 0, 0, 0, 0, 0] rfl) ?_
  refine at_take2 1 rfl (by kernel_rfl) (by kernel_rfl) (by kernel_rfl) (fun _ h => h.picks [0, 0, 0, 0, 0, 0, 0, 0, 0] rfl) rfl rfl (p_lbs ty26 rfl (j := 3) rfl rfl) (fun _ h => h.picks [0, 0, 0, 0, 0, 0, 0, 0, 0] rfl) ?_
  refine at_take2 3 rfl (by kernel_rfl) (by kernel_rfl) (by kernel_rfl) (fun _ h => h.picks [0, 0, 0, 0, 0, 0, 0, 0, 0] rfl) rfl rfl (p_lbw ty28 rfl (j := 3) rfl rfl) (fun _ h => h.picks [0, 0, 0, 0, 0, 0, 0, 0, 0] rfl) ?_
  refine at_each (rs := [2]) (by kernel_rfl) (by decide) ?_
  refine (.cons rfl (fun I cnI => ?_) .nil)
  · refine r_call [] cf39 rfl rfl (ok_gleeref2_keysOf s8 xg9 y7.2.1 hy10) rfl rfl (.cons (.ro 1 rfl) (.cons (.ro 0 rfl) .nil)) (fun _ => rfl) rfl (fun s13 => ?_)
    refine lj_nil ?_
    refine cnI _ _ (sof1 rfl rfl (fun _ h => h.picks [1, 1, 1, 1, 1, 1, 1, 1, 1] rfl)) ?_
    refine at_each (rs := [4]) (by kernel_rfl) (by decide) ?_
    refine (.cons rfl (fun I cnI => ?_) .nil)
    · refine r_call [] cf36 rfl rfl (ok_gleeref2_LongOfProgram (TProgram.mk y7.2.1 y7.2.2.1 y7.2.2.2.1 y7.2.2.2.2.1 y7.2.2.2.2.2) s8 xg9 hy12) rfl rfl (.cons (.ro 2 rfl) (.cons (.ro 1 rfl) .nil)) (fun _ => rfl) rfl (fun _ => ?_)
      refine lj_nil ?_
      refine cnI _ _ (sof1 rfl rfl (fun _ h => h.picks [1, 1, 1, 1, 1, 1, 1, 1, 1] rfl)) ?_
      refine at_take2 5 rfl (by kernel_rfl) (by kernel_rfl) (by kernel_rfl) (fun _ h => h.picks [0, 0, 0, 0, 0, 0, 0, 0, 0] rfl) rfl rfl (p_as rfl) (fun _ h => h.picks [1, 1, 1, 1, 1, 1, 1, 1, 1] rfl) ?_
      refine at_take2 6 rfl (by kernel_rfl) (by kernel_rfl) (by kernel_rfl) (fun _ h => h.picks [0, 0, 0, 0, 0, 0, 0, 0, 0] rfl) rfl rfl (p_as rfl) (fun _ h => h.picks [1, 1, 1, 1, 1, 1, 1, 1, 1] rfl) ?_
      refine at_done (by kernel_rfl) ?_
      refine nj_seq ?_
      obtain rfl := Option.some.inj hm
      exact cj_rt s13 [0] Tryd.results10 (.tmp rfl (.tmp rfl .nil)) rfl rfl
theorem ok_gleeref2_HalfOf (a0 : TProgram) (s0_0_ : SV) (xg0_0_ : List (TItem × SV)) {r : Int × Int} (hm : m_gleeref2_HalfOf a0 = some r) :
    Ctr Tryd.prog 11 [.agg [s0_0_.v, .int .i64 a0.Change, .int .i64 a0.Clap, .int .i64 a0.Break, .int .i64 a0.Half].toArray].toArray ([] : List Ent) [Lk N46 a0.Items xg0_0_, RdS N46.R (SV.v s0_0_) xg0_0_] (X := Unit) (fun _ => .tuple [.int .i64 r.1, .int .i64 r.2].toArray) (fun _ => []) := by
  unfold m_gleeref2_HalfOf at hm
  refine ctr_mk (vs := [(0, .agg [s0_0_.v, .int .i64 a0.Change, .int .i64 a0.Clap, .int .i64 a0.Break, .int .i64 a0.Half].toArray)]) Tryd.func11 rfl Tryd.ntmps11 rfl ⟨rfl, trivial⟩ (fun w0 A => ?_)
  refine cj_pure (F := Lk N46 a0.Items xg0_0_) (.ro 0 rfl) (fun _ h => h.1) (fun hL0_0_ => ?_)
  refine cj_seq ?_
  refine cj_reg ?_
  refine r_bx (cs := [s0_0_.v, .int .i64 a0.Change, .int .i64 a0.Clap, .int .i64 a0.Break, .int .i64 a0.Half]) rfl rfl rfl (fun b1 => ?_)
  refine lp rfl (p_as rfl) ?_
  refine lp rfl (p_as rfl) ?_
  refine lj_seq ?_
  refine cj_seq ?_
  refine cj_reg ?_
  refine lp rfl (p_as rfl) ?_
  refine lp rfl (p_as rfl) ?_
  refine lj_seq ?_
  refine cj_seq ?_
  refine cj_seq ?_
  refine cj_reg ?_
  refine lp rfl (p_as rfl) ?_
  refine lj_seq ?_
  obtain ⟨f5, hf5, hm⟩ := bindS hm
  refine cj_whileA (γ := Unit) hf5 () (fun u2 g3 => [(1, .pointer (some ⟨b1, 0, none⟩)), (2, .int .i64 0), (3, .int .i64 0), (4, .int .i64 u2.1), (5, .int .i64 u2.2.1), (6, .int .i64 u2.2.2)]) (fun u2 g3 => Sat w0 (keys ([] : List Ent)) A [.box b1 28 [s0_0_.v, .int .i64 a0.Change, .int .i64 a0.Clap, .int .i64 a0.Break, .int .i64 a0.Half], .ro (Lk N46 a0.Items xg0_0_), .ro (RdS N46.R (SV.v s0_0_) xg0_0_)]) ⟨rfl, rfl, rfl, rfl, rfl, rfl, trivial⟩ (fun _ h => h.picks [0, 0, 0] rfl) (fun u2 g3 e => ?_) (fun aftk4 u2 g3 k4 hs J hJk4 hBk4 hX I cnk4 => ?_)
  · have hm := Flow.fin_b e hm
    refine nj_seq ?_
    refine cj_seq ?_
    refine cj_reg ?_
    refine lp rfl (p_mv rfl) ?_
    refine lp rfl (p_mv rfl) ?_
    refine lp rfl (p_as rfl) ?_
    refine lp rfl (p_as rfl) ?_
    refine lj_seq ?_
    obtain rfl := Option.some.inj hm
    exact cj_rt () [] Tryd.results11 (.tmp rfl (.tmp rfl .nil)) rfl rfl
  · have hRk4 : ∀ t, k4 = .ret t → some t = some r := fun t e => by rw [hX t e] at hm; exact hm
    have hm := hs
    refine cj_seq ?_
    refine cj_seq ?_
    refine cj_reg ?_
    refine lp rfl (p_mv rfl) ?_
    refine lp rfl (p_add rfl rfl) ?_
    refine lp rfl (p_fab fl28_0 rfl) ?_
    refine lp rfl (p_lbs ty26 rfl (j := 0) rfl rfl) ?_
    refine lp rfl (p_lenG hL0_0_ Tryd.underlying26 rfl (.ro 2 rfl)) ?_
    refine lp rfl (p_lss rfl rfl) ?_
    refine lj_seq ?_
    refine cj_if (b := decide ((w64 (u2.2.2 + 1)) < (a0.Items.length : Int))) rfl (fun hb => ?_) (fun hb => ?_)
    · have hm := ifB_t hb hm
      refine cj_skip ?_
      refine nj_seq ?_
      refine cj_seq ?_
      refine cj_blk ?_
      refine cj_seq ?_
      obtain ⟨k10, hk10, hm⟩ := bindS hm
      have hRk10 : ∀ t, k10 = .inr t → some t = some k4 := fun t e => by rw [e] at hm; exact hm
      refine cj_joinK (σ := Unit) (γ := (Nat × Nat)) (fun u6 => k10 = .inl u6) (fun u6 g7 => [(1, .pointer (some ⟨b1, 0, none⟩)), (2, .int .i64 0), (3, .int .i64 0), (4, .int .i64 u2.1), (5, .int .i64 u2.2.1), (6, .int .i64 u2.2.2), (7, .pointer (some ⟨g7.1, 0, none⟩)), (8, .pointer (some ⟨g7.2, 0, none⟩))]) (fun u6 g7 => Sat w0 (keys ([] : List Ent)) A [.box b1 28 [s0_0_.v, .int .i64 a0.Change, .int .i64 a0.Clap, .int .i64 a0.Break, .int .i64 a0.Half], .ro (Lk N46 a0.Items xg0_0_), .ro (RdS N46.R (SV.v s0_0_) xg0_0_), .box g7.1 28 [s0_0_.v, .int .i64 a0.Change, .int .i64 a0.Clap, .int .i64 a0.Break, .int .i64 a0.Half], .box g7.2 28 [s0_0_.v, .int .i64 a0.Change, .int .i64 a0.Clap, .int .i64 a0.Break, .int .i64 a0.Half]]) (fun u6 g7 hq => ?_) (fun J cnk10 => ?_)
      · have hm := Sum.fin_l hq hm
        refine cj_seq ?_
        obtain ⟨q17, hq17, hm⟩ := bindS hm
        obtain ⟨q17G, hq17G, hLq17, hsq17⟩ := lk_cut hL0_0_ hq17
        obtain ⟨q18, hq18, hm⟩ := bindS hm
        obtain ⟨q18G, hq18G, hLq18, hsq18⟩ := lk_cut hL0_0_ hq18
        refine cj_anyT [0, 1, 2, 3, 4, 5, 6, 7, 8, 9, 10, 12] [11, 12, 13] (Sat w0 (keys ([] : List Ent)) A [.box b1 28 [s0_0_.v, .int .i64 a0.Change, .int .i64 a0.Clap, .int .i64 a0.Break, .int .i64 a0.Half], .ro (Lk N46 a0.Items xg0_0_), .ro (RdS N46.R (SV.v s0_0_) xg0_0_), .box g7.1 28 [s0_0_.v, .int .i64 a0.Change, .int .i64 a0.Clap, .int .i64 a0.Break, .int .i64 a0.Half], .box g7.2 28 [s0_0_.v, .int .i64 a0.Change, .int .i64 a0.Clap, .int .i64 a0.Break, .int .i64 a0.Half]]) (Sat w0 (keys ([] : List Ent)) A [.box b1 28 [s0_0_.v, .int .i64 a0.Change, .int .i64 a0.Clap, .int .i64 a0.Break, .int .i64 a0.Half], .ro (Lk N46 a0.Items xg0_0_), .ro (RdS N46.R (SV.v s0_0_) xg0_0_)]) (by kernel_rfl) ?_
        refine at_take2 0 rfl (by kernel_rfl) (by kernel_rfl) (by kernel_rfl) (fun _ h => h.picks [0, 0, 0] rfl) rfl rfl (p_fab fl28_0 rfl) (fun _ h => h.picks [0, 0, 0] rfl) ?_
        refine at_take2 1 rfl (by kernel_rfl) (by kernel_rfl) (by kernel_rfl) (fun _ h => h.picks [0, 0, 0] rfl) rfl rfl (p_lbs ty26 rfl (j := 0) rfl rfl) (fun _ h => h.picks [0, 0, 0] rfl) ?_
        refine at_take2 2 rfl (by kernel_rfl) (by kernel_rfl) (by kernel_rfl) (fun _ h => h.picks [0, 0, 0] rfl) rfl rfl (p_mv rfl) (fun _ h => h.picks [0, 0, 0] rfl) ?_
        refine at_take2 3 rfl (by kernel_rfl) (by kernel_rfl) (by kernel_rfl) (fun _ h => h.picks [0, 0, 0] rfl) rfl rfl (p_add rfl rfl) (fun _ h => h.picks [0, 0, 0] rfl) ?_
        refine at_take2 4 rfl (by kernel_rfl) (by kernel_rfl) (by kernel_rfl) (fun _ h => h.picks [0, 0, 0] rfl) rfl rfl (p_cut Tryd.underlying26 ty46 rfl rfl rfl rfl rfl (.ro 2 rfl) rfl rfl hq17G) (fun _ h => h.picks [0, 0, 0] rfl) ?_
        refine at_take2 5 rfl (by kernel_rfl) (by kernel_rfl) (by kernel_rfl) (fun _ h => h.picks [0, 0, 0] rfl) rfl rfl (p_fab fl28_0 rfl) (fun _ h => h.picks [0, 0, 0] rfl) ?_
        refine at_take2 6 rfl (by kernel_rfl) (by kernel_rfl) (by kernel_rfl) (fun _ h => h.picks [0, 0, 0] rfl) rfl rfl (p_lbs ty26 rfl (j := 0) rfl rfl) (fun _ h => h.picks [0, 0, 0] rfl) ?_
        refine at_take2 7 rfl (by kernel_rfl) (by kernel_rfl) (by kernel_rfl) (fun _ h => h.picks [0, 0, 0] rfl) rfl rfl (p_mv rfl) (fun _ h => h.picks [0, 0, 0] rfl) ?_
        refine at_take2 8 rfl (by kernel_rfl) (by kernel_rfl) (by kernel_rfl) (fun _ h => h.picks [0, 0, 0] rfl) rfl rfl (p_add rfl rfl) (fun _ h => h.picks [0, 0, 0] rfl) ?_
        refine at_take2 9 rfl (by kernel_rfl) (by kernel_rfl) (by kernel_rfl) (fun _ h => h.picks [0, 0, 0] rfl) rfl rfl (p_cut Tryd.underlying26 ty46 rfl rfl rfl rfl rfl (.ro 2 rfl) rfl (congrArg Int.ofNat (lk_len hL0_0_)) hq18G) (fun _ h => h.picks [0, 0, 0] rfl) ?_
        refine at_take2 10 rfl (by kernel_rfl) (by kernel_rfl) (by kernel_rfl) (fun _ h => h.picks [0, 0, 0] rfl) rfl rfl (p_fab fl28_0 rfl) (fun _ h => h.picks [0, 0, 0] rfl) ?_
        refine at_each (rs := [11]) (by kernel_rfl) (by decide) ?_
        refine (.cons rfl (fun I cnI => ?_) .nil)
        · refine r_sb (vs := [(s0_0_.sub N46.R.sz (0 : Int).toNat (w64 (u2.2.2 + 1)).toNat).v]) (j := 3) ty26 rfl rfl rfl rfl rfl rfl rfl ?_
          refine lj_nil ?_
          refine cnI _ _ (sof2 rfl rfl (fun _ h => h.picks [0, 0, 0] rfl)) ?_
          refine at_take2 12 rfl (by kernel_rfl) (by kernel_rfl) (by kernel_rfl) (fun _ h => h.picks [0, 0, 0] rfl) rfl rfl (p_fab fl28_0 rfl) (fun _ h => h.picks [0, 0, 0] rfl) ?_
          refine at_each (rs := [13]) (by kernel_rfl) (by decide) ?_
          refine (.cons rfl (fun I cnI => ?_) .nil)
          · refine r_sb (vs := [(s0_0_.sub N46.R.sz (w64 (u2.2.2 + 1)).toNat (a0.Items.length : Int).toNat).v]) (j := 4) ty26 rfl rfl rfl rfl rfl rfl rfl ?_
            refine lj_nil ?_
            refine cnI _ _ (sof2 rfl rfl (fun _ h => h.picks [0, 0, 0] rfl)) ?_
            refine at_done (by kernel_rfl) ?_
            refine nj_seq ?_
            refine cj_seq ?_
            refine cj_reg ?_
            refine lp rfl (p_fab fl28_4 rfl) ?_
            refine r_sb (vs := [.int .i64 (-1)]) (j := 3) ty3 rfl rfl rfl rfl rfl rfl rfl ?_
            refine lp rfl (p_fab fl28_4 rfl) ?_
            refine r_sb (vs := [.int .i64 (-1)]) (j := 4) ty3 rfl rfl rfl rfl rfl rfl rfl ?_
            refine lj_seq ?_
            refine cj_seq ?_
            refine cj_quiet (by kernel_rfl) (by kernel_rfl) ?_
            refine q_p rfl (p_lbw ty28 rfl (j := 3) rfl rfl) ?_
            obtain ⟨y24, hy24, hm⟩ := bindS hm
            refine q_call (.int .i64 y24) cf36 rfl rfl (ok_gleeref2_LongOfProgram (TProgram.mk q17 a0.Change a0.Clap a0.Break (-1)) (s0_0_.sub N46.R.sz (0 : Int).toNat (w64 (u2.2.2 + 1)).toNat) q17G hy24) (.cons (.imp (.ro 1 rfl) (fun _ h => Lk.sub h hLq17 hsq17)) (.cons (.imp (.ro 2 rfl) (fun _ h => h.cut hq17G)) .nil)) (fun _ => rfl) (fun _ => rfl) rfl ?_
            refine q_p rfl (p_lbw ty28 rfl (j := 4) rfl rfl) ?_
            obtain ⟨y25, hy25, hm⟩ := bindS hm
            refine q_call (.int .i64 y25) cf36 rfl rfl (ok_gleeref2_LongOfProgram (TProgram.mk q18 a0.Change a0.Clap a0.Break (-1)) (s0_0_.sub N46.R.sz (w64 (u2.2.2 + 1)).toNat (a0.Items.length : Int).toNat) q18G hy25) (.cons (.imp (.ro 1 rfl) (fun _ h => Lk.sub h hLq18 hsq18)) (.cons (.imp (.ro 2 rfl) (fun _ h => h.cut hq18G)) .nil)) (fun _ => rfl) (fun _ => rfl) rfl ?_
            refine q_p rfl (p_sub rfl rfl) ?_
            refine q_p rfl (p_as rfl) ?_
            refine q_nil ?_
            refine nj_seq ?_
            refine cj_seq ?_
            refine cj_reg ?_
            refine lp rfl (p_mv rfl) ?_
            refine lp rfl (p_mv rfl) ?_
            refine lp rfl (p_neg rfl) ?_
            refine lp rfl (p_max rfl rfl) ?_
            refine lp rfl (p_as rfl) ?_
            refine lj_seq ?_
            refine cj_seq ?_
            refine cj_reg ?_
            obtain ⟨k28, hk28, hm⟩ := bindS hm
            have hRk28 : ∀ t, k28 = .inr t → some t = some k4 := fun t e => by rw [e] at hm; exact hm
            refine lj_join (σ := Bool) (γ := Unit) (fun u26 => k28 = .inl u26) (fun u26 g27 => [(1, .pointer (some ⟨b1, 0, none⟩)), (2, .int .i64 0), (3, .int .i64 0), (4, .int .i64 u2.1), (5, .int .i64 u2.2.1), (6, .int .i64 u2.2.2), (9, .int .i64 (max (w64 (y24 - y25)) (w64 (0 - (w64 (y24 - y25)))))), (49, .bool u26)]) (fun u26 g27 => Sat w0 (keys ([] : List Ent)) A [.box b1 28 [s0_0_.v, .int .i64 a0.Change, .int .i64 a0.Clap, .int .i64 a0.Break, .int .i64 a0.Half], .ro (Lk N46 a0.Items xg0_0_), .ro (RdS N46.R (SV.v s0_0_) xg0_0_)]) (fun u26 g27 hq => ?_) (fun J cnk28 => ?_)
            · have hm := Sum.fin_l hq hm
              refine cj_if (b := u26) rfl (fun hb => ?_) (fun hb => ?_)
              · have hm := ifB_t hb hm
                refine cj_reg ?_
                refine lp rfl (p_mv rfl) ?_
                refine lp rfl (p_mv rfl) ?_
                refine lp rfl (p_as rfl) ?_
                refine lp rfl (p_as rfl) ?_
                refine lj_nil ?_
                refine nj_blk ?_
                refine nj_seq ?_
                refine cj_reg ?_
                refine lp rfl (p_mv rfl) ?_
                refine lp rfl (p_add rfl rfl) ?_
                refine lp rfl (p_as rfl) ?_
                refine lj_nil ?_
                exact cnk4 _ _ (u2.2.2, max (w64 (y24 - y25)) (w64 (0 - (w64 (y24 - y25)))), w64 (u2.2.2 + 1)) () (hJk4 _ (Option.some.inj hm).symm) ⟨rfl, rfl, rfl, rfl, rfl, rfl, trivial⟩ (fun _ h => h.picks [0, 0, 0] rfl)
              · have hm := ifB_f hb hm
                refine cj_skip ?_
                refine nj_blk ?_
                refine nj_seq ?_
                refine cj_reg ?_
                refine lp rfl (p_mv rfl) ?_
                refine lp rfl (p_add rfl rfl) ?_
                refine lp rfl (p_as rfl) ?_
                refine lj_nil ?_
                exact cnk4 _ _ (u2.1, u2.2.1, w64 (u2.2.2 + 1)) () (hJk4 _ (Option.some.inj hm).symm) ⟨rfl, rfl, rfl, rfl, rfl, rfl, trivial⟩ (fun _ h => h.picks [0, 0, 0] rfl)
            · have hm := hk28
              refine lp rfl (p_mv rfl) ?_
              refine lp rfl (p_lss rfl rfl) ?_
              refine lp rfl (p_mv rfl) ?_
              refine lcase (i := 45) (decide (u2.1 < 0)) rfl (fun hb => ?_) (fun hb => ?_)
              · have hm := ifB_t hb hm
                refine ls false rfl rfl rfl rfl ?_
                refine ls false rfl rfl rfl rfl ?_
                refine ls false rfl rfl rfl rfl ?_
                refine lp rfl (p_pkt rfl rfl) ?_
                refine lj_nil ?_
                exact cnk28 _ _ true () (Option.some.inj hm).symm ⟨rfl, rfl, rfl, rfl, rfl, rfl, rfl, rfl, trivial⟩ (fun _ h => h.picks [0, 0, 0] rfl)
              · have hm := ifB_f hb hm
                refine lg false rfl rfl rfl ?_
                refine lp rfl (p_mv rfl) ?_
                refine lg false rfl rfl rfl ?_
                refine lp rfl (p_mv rfl) ?_
                refine lg false rfl rfl rfl ?_
                refine lp rfl (p_lss rfl rfl) ?_
                refine lp rfl (p_pkf rfl rfl) ?_
                refine lj_nil ?_
                exact cnk28 _ _ (decide ((max (w64 (y24 - y25)) (w64 (0 - (w64 (y24 - y25))))) < u2.2.1)) () (Option.some.inj hm).symm ⟨rfl, rfl, rfl, rfl, rfl, rfl, rfl, rfl, trivial⟩ (fun _ h => h.picks [0, 0, 0] rfl)
      · have hm := hk10
        refine cj_anyT [0, 1] [4, 5] (Sat w0 (keys ([] : List Ent)) A [.box b1 28 [s0_0_.v, .int .i64 a0.Change, .int .i64 a0.Clap, .int .i64 a0.Break, .int .i64 a0.Half], .ro (Lk N46 a0.Items xg0_0_), .ro (RdS N46.R (SV.v s0_0_) xg0_0_)]) (Sat w0 (keys ([] : List Ent)) A [.box b1 28 [s0_0_.v, .int .i64 a0.Change, .int .i64 a0.Clap, .int .i64 a0.Break, .int .i64 a0.Half], .ro (Lk N46 a0.Items xg0_0_), .ro (RdS N46.R (SV.v s0_0_) xg0_0_)]) (by kernel_rfl) ?_
        refine at_take2 0 rfl (by kernel_rfl) (by kernel_rfl) (by kernel_rfl) (fun _ h => h.picks [0, 0, 0] rfl) rfl rfl (p_lbw ty28 rfl (j := 0) rfl rfl) (fun _ h => h.picks [0, 0, 0] rfl) ?_
        refine at_take2 1 rfl (by kernel_rfl) (by kernel_rfl) (by kernel_rfl) (fun _ h => h.picks [0, 0, 0] rfl) rfl rfl (p_lbw ty28 rfl (j := 0) rfl rfl) (fun _ h => h.picks [0, 0, 0] rfl) ?_
        refine at_each (rs := [2, 3]) (by kernel_rfl) (by decide) ?_
        refine (.cons rfl (fun I cnI => ?_) (.cons rfl (fun I cnI => ?_) .nil))
        · refine r_al ty28 rfl (fun b13 => ?_)
          refine lj_nil ?_
          refine cnI _ _ (sof1 rfl rfl (fun _ h => h.picks [1, 1, 1] rfl)) ?_
          refine at_each (rs := [3]) (by kernel_rfl) (by decide) ?_
          refine (.cons rfl (fun I cnI => ?_) .nil)
          · refine r_al ty28 rfl (fun b14 => ?_)
            refine lj_nil ?_
            refine cnI _ _ (sof1 rfl rfl (fun _ h => h.picks [2, 2, 2] rfl)) ?_
            refine at_each (rs := [4]) (by kernel_rfl) (by decide) ?_
            refine (.cons rfl (fun I cnI => ?_) .nil)
            · refine r_sb (vs := [s0_0_.v, .int .i64 a0.Change, .int .i64 a0.Clap, .int .i64 a0.Break, .int .i64 a0.Half]) (j := 1) ty28 rfl rfl rfl rfl rfl rfl rfl ?_
              refine lj_nil ?_
              refine cnI _ _ (sof2 rfl rfl (fun _ h => h.picks [2, 2, 2] rfl)) ?_
              refine at_each (rs := [5]) (by kernel_rfl) (by decide) ?_
              refine (.cons rfl (fun I cnI => ?_) .nil)
              · refine r_sb (vs := [s0_0_.v, .int .i64 a0.Change, .int .i64 a0.Clap, .int .i64 a0.Break, .int .i64 a0.Half]) (j := 0) ty28 rfl rfl rfl rfl rfl rfl rfl ?_
                refine lj_nil ?_
                refine cnI _ _ (sof2 rfl rfl (fun _ h => h.picks [2, 2, 2] rfl)) ?_
                refine at_done (by kernel_rfl) ?_
                exact cnk10 _ _ () (b13, b14) (Option.some.inj hm).symm ⟨rfl, rfl, rfl, rfl, rfl, rfl, rfl, rfl, trivial⟩ (fun _ h => h.picks [2, 2, 2, 1, 0] rfl)
        · refine r_al ty28 rfl (fun b15 => ?_)
          refine lj_nil ?_
          refine cnI _ _ (sof1 rfl rfl (fun _ h => h.picks [1, 1, 1] rfl)) ?_
          refine at_each (rs := [2]) (by kernel_rfl) (by decide) ?_
          refine (.cons rfl (fun I cnI => ?_) .nil)
          · refine r_al ty28 rfl (fun b16 => ?_)
            refine lj_nil ?_
            refine cnI _ _ (sof1 rfl rfl (fun _ h => h.picks [2, 2, 2] rfl)) ?_
            refine at_each (rs := [4]) (by kernel_rfl) (by decide) ?_
            refine (.cons rfl (fun I cnI => ?_) .nil)
            · refine r_sb (vs := [s0_0_.v, .int .i64 a0.Change, .int .i64 a0.Clap, .int .i64 a0.Break, .int .i64 a0.Half]) (j := 0) ty28 rfl rfl rfl rfl rfl rfl rfl ?_
              refine lj_nil ?_
              refine cnI _ _ (sof2 rfl rfl (fun _ h => h.picks [2, 2, 2] rfl)) ?_
              refine at_each (rs := [5]) (by kernel_rfl) (by decide) ?_
              refine (.cons rfl (fun I cnI => ?_) .nil)
              · refine r_sb (vs := [s0_0_.v, .int .i64 a0.Change, .int .i64 a0.Clap, .int .i64 a0.Break, .int .i64 a0.Half]) (j := 1) ty28 rfl rfl rfl rfl rfl rfl rfl ?_
                refine lj_nil ?_
                refine cnI _ _ (sof2 rfl rfl (fun _ h => h.picks [2, 2, 2] rfl)) ?_
                refine at_done (by kernel_rfl) ?_
                exact cnk10 _ _ () (b16, b15) (Option.some.inj hm).symm ⟨rfl, rfl, rfl, rfl, rfl, rfl, rfl, rfl, trivial⟩ (fun _ h => h.picks [2, 2, 2, 0, 0] rfl)
    · have hm := ifB_f hb hm
      refine cj_exit rfl ?_
      exact (aftk4 (u2.1, u2.2.1, u2.2.2) () (hBk4 _ (Option.some.inj hm).symm)).sub ⟨rfl, rfl, rfl, rfl, rfl, rfl, trivial⟩ (fun _ h => h.picks [0, 0, 0] rfl)
theorem ok_slices_Equal_string_string (s0_ : SV) (a0 : (List ByteArray)) (s1_ : SV) (a1 : (List ByteArray)) {r : Bool} (hm : m_slices_Equal_string_string a0 a1 = some r) :
    Ctr Tryd.prog 12 [s0_.v, s1_.v].toArray ([] : List Ent) [RdS R9 (SV.v s0_) a0, RdS R9 (SV.v s1_) a1] (X := Unit) (fun _ => .bool r) (fun _ => []) := by
  unfold m_slices_Equal_string_string at hm
  refine ctr_mk (vs := [(0, s0_.v), (1, s1_.v)]) Tryd.func12 rfl Tryd.ntmps12 rfl ⟨rfl, rfl, trivial⟩ (fun w0 A => ?_)
  refine cj_seq ?_
  refine cj_reg ?_
  refine lp rfl (p_as rfl) ?_
  refine lj_seq ?_
  refine cj_seq ?_
  refine cj_seq ?_
  refine cj_reg ?_
  refine lp rfl (p_mv rfl) ?_
  refine lp rfl (p_len Tryd.underlying30 rfl (.ro 0 rfl)) ?_
  refine lp rfl (p_mv rfl) ?_
  refine lp rfl (p_len Tryd.underlying30 rfl (.ro 1 rfl)) ?_
  refine lp rfl (p_neq rfl rfl) ?_
  refine lj_seq ?_
  refine cj_if (b := (a0.length : Int) != (a1.length : Int)) rfl (fun hb => ?_) (fun hb => ?_)
  · have hm := ifB_t hb hm
    refine cj_seq ?_
    refine cj_reg ?_
    refine lp rfl (p_as rfl) ?_
    refine lj_seq ?_
    obtain rfl := Option.some.inj hm
    exact cj_rt () [] Tryd.results12 (.tmp rfl .nil) rfl rfl
  · have hm := ifB_f hb hm
    refine cj_skip ?_
    refine nj_seq ?_
    refine cj_seq ?_
    refine cj_seq ?_
    refine cj_reg ?_
    refine lp rfl (p_mv rfl) ?_
    refine lp rfl (p_len Tryd.underlying30 rfl (.ro 0 rfl)) ?_
    refine lp rfl (p_mv rfl) ?_
    refine lj_seq ?_
    obtain ⟨f7, hf7, hm⟩ := bindS hm
    refine cj_range (γ := Unit) (m := (a0.length : Int)) hf7 () (fun u4 g5 => [(0, s0_.v), (1, s1_.v), (4, .bool false)]) (fun u4 g5 => Sat w0 (keys ([] : List Ent)) A [.ro (RdS R9 (SV.v s0_) a0), .ro (RdS R9 (SV.v s1_) a1)]) ⟨rfl, rfl, rfl, rfl, rfl, trivial⟩ (fun _ h => h.picks [0, 0] rfl) (nat_lt _) (fun _ h => (FactAt.get (F := RdS R9 (SV.v s0_) a0) (.ro 0 rfl) h).1) (fun _ _ => ⟨rfl, rfl, rfl, rfl⟩) ⟨rfl, rfl, rfl, rfl, rfl⟩ rfl rfl rfl (fun u4 g5 e => ?_) (fun aftk6 i1 x2 u4 g5 k6 hx3 hs J hJk6 hBk6 hX I cnk6 => ?_)
    · have hm := Flow.fin_b e hm
      refine nj_seq ?_
      refine cj_seq ?_
      refine cj_reg ?_
      refine lp rfl (p_as rfl) ?_
      refine lj_seq ?_
      obtain rfl := Option.some.inj hm
      exact cj_rt () [] Tryd.results12 (.tmp rfl .nil) rfl rfl
    · have hRk6 : ∀ t, k6 = .ret t → some t = some r := fun t e => by rw [hX t e] at hm; exact hm
      have hm := hs
      refine cj_seq ?_
      refine cj_reg ?_
      refine lp rfl (p_mv rfl) ?_
      refine lp rfl (p_as rfl) ?_
      refine lj_seq ?_
      refine cj_seq ?_
      refine cj_quiet (by kernel_rfl) (by kernel_rfl) ?_
      refine q_p rfl (p_mv rfl) ?_
      refine q_p rfl (p_mv rfl) ?_
      refine q_p rfl (p_idx Tryd.underlying30 ty9 rfl rfl (.ro 0 rfl) (getI_nat.trans hx3)) ?_
      refine q_p rfl (p_lde (o := 0) ty9 rfl rfl (.ro 0 rfl) hx3 rfl) ?_
      refine q_p rfl (p_mv rfl) ?_
      refine q_p rfl (p_mv rfl) ?_
      obtain ⟨e8, he8, hm⟩ := bindS hm
      refine q_p rfl (p_idx Tryd.underlying30 ty9 rfl rfl (.ro 1 rfl) he8) ?_
      refine q_p rfl (p_lde (o := 0) ty9 rfl rfl (.ro 1 rfl) (getI_spec he8).2 rfl) ?_
      refine q_p rfl (p_nes rfl rfl) ?_
      refine q_nil ?_
      refine nj_seq ?_
      refine cj_if (b := !(x2.toList == e8.toList)) rfl (fun hb => ?_) (fun hb => ?_)
      · have hm := ifB_t hb hm
        refine cj_seq ?_
        refine cj_reg ?_
        refine lp rfl (p_as rfl) ?_
        refine lj_seq ?_
        have hm := hRk6 _ (Option.some.inj hm).symm
        obtain rfl := Option.some.inj hm
        exact cj_rt () [] Tryd.results12 (.tmp rfl .nil) rfl rfl
      · have hm := ifB_f hb hm
        refine cj_skip ?_
        refine nj_blk ?_
        exact cnk6 _ _ () () (hJk6 _ (Option.some.inj hm).symm) ⟨rfl, rfl, rfl, rfl, rfl, trivial⟩ (fun _ h => h.picks [0, 0] rfl)
theorem ok_gleemake_Stream_Order (b0_ : Nat) (s0_0_ : SV) (a0_0 : (List Int)) (a0_1 : Int) (a1 : Int) {r : (List Int) × Int} (hm : m_gleemake_Stream_Order a0_0 a0_1 a1 = some r) :
    Ctr Tryd.prog 13 [.pointer (some ⟨b0_, 0, none⟩), .int .i64 a1].toArray [.box b0_ 25 [s0_0_.v, .int .i64 a0_1]] [RdS R3 (SV.v s0_0_) a0_0] (X := SV) (fun s => s.v) (fun s => [.row R3 (SV.v s) r.1, .box b0_ 25 [s0_0_.v, .int .i64 r.2]]) := by
  unfold m_gleemake_Stream_Order at hm
  refine ctr_mk (vs := [(0, .pointer (some ⟨b0_, 0, none⟩)), (1, .int .i64 a1)]) Tryd.func13 rfl Tryd.ntmps13 rfl ⟨rfl, rfl, trivial⟩ (fun w0 A => ?_)
  refine cj_seq ?_
  refine cj_reg ?_
  refine lp rfl (p_as rfl) ?_
  refine lj_seq ?_
  refine cj_seq ?_
  refine cj_reg ?_
  refine lp rfl (p_as rfl) ?_
  refine lj_seq ?_
  refine cj_seq ?_
  refine cj_seq ?_
  refine cj_reg ?_
  refine lp rfl (p_mv rfl) ?_
  refine lp rfl (p_mv rfl) ?_
  refine lj_seq ?_
  refine cj_nil R3 ?_
  obtain ⟨L26, hL26, hm⟩ := bindS hm
  obtain ⟨f8, hf8, hm⟩ := bindS hm
  refine cj_range (γ := SV) (m := a1) hf8 nilS (fun u5 g6 => [(0, .pointer (some ⟨b0_, 0, none⟩)), (1, .int .i64 a1), (4, .slice none 0 0), (5, g6.v)]) (fun u5 g6 => Sat w0 (keys [.box b0_ 25 [s0_0_.v, .int .i64 a0_1]]) A [.box b0_ 25 [s0_0_.v, .int .i64 a0_1], .ro (RdS R3 (SV.v s0_0_) a0_0), .row R3 (SV.v g6) u5]) ⟨rfl, rfl, rfl, rfl, rfl, rfl, trivial⟩ (fun _ h => h.picks [1, 1, 0] rfl) (rangeI_spec hL26).1 (fun _ _ => (rangeI_spec hL26).2) (fun _ _ => ⟨rfl, rfl, rfl, rfl⟩) ⟨rfl, rfl, rfl, rfl, rfl⟩ rfl rfl rfl (fun u5 g6 e => ?_) (fun aftk7 i1 x2 u5 g6 k7 hx3 hs J hJk7 hBk7 hX I cnk7 => ?_)
  · have hm := Flow.fin_b e hm
    refine nj_seq ?_
    refine cj_seq ?_
    refine cj_seq ?_
    refine cj_reg ?_
    refine lp rfl (p_mv rfl) ?_
    refine lp rfl (p_sub rfl rfl) ?_
    refine lp rfl (p_as rfl) ?_
    refine lj_seq ?_
    obtain ⟨f17, hf17, hm⟩ := bindS hm
    refine cj_whileA (γ := SV) hf17 g6 (fun u14 g15 => [(0, .pointer (some ⟨b0_, 0, none⟩)), (4, .slice none 0 0), (5, g15.v), (7, .int .i64 u14.1)]) (fun u14 g15 => Sat w0 (keys [.box b0_ 25 [s0_0_.v, .int .i64 a0_1]]) A [.box b0_ 25 [s0_0_.v, .int .i64 u14.2.1], .ro (RdS R3 (SV.v s0_0_) a0_0), .row R3 (SV.v g15) u14.2.2]) ⟨rfl, rfl, rfl, rfl, trivial⟩ (fun _ h => h.picks [0, 0, 0] rfl) (fun u14 g15 e => ?_) (fun aftk16 u14 g15 k16 hs J hJk16 hBk16 hX I cnk16 => ?_)
    · have hm := Flow.fin_b e hm
      refine nj_seq ?_
      refine cj_seq ?_
      refine cj_reg ?_
      refine lp rfl (p_mv rfl) ?_
      refine lp rfl (p_as rfl) ?_
      refine lj_seq ?_
      obtain rfl := Option.some.inj hm
      exact cj_rt g15 [2, 0] Tryd.results13 (.tmp rfl .nil) rfl rfl
    · have hRk16 : ∀ t, k16 = .ret t → some t = some r := fun t e => by rw [hX t e] at hm; exact hm
      have hm := hs
      refine cj_seq ?_
      refine cj_seq ?_
      refine cj_reg ?_
      refine lp rfl (p_mv rfl) ?_
      refine lp rfl (p_gtr rfl rfl) ?_
      refine lj_seq ?_
      refine cj_if (b := decide (u14.1 > 0)) rfl (fun hb => ?_) (fun hb => ?_)
      · have hm := ifB_t hb hm
        refine cj_skip ?_
        refine nj_seq ?_
        refine cj_seq ?_
        refine cj_blk ?_
        refine cj_seq ?_
        refine cj_reg ?_
        refine lp rfl (p_mv rfl) ?_
        refine lp rfl (p_mv rfl) ?_
        refine lp rfl (p_add rfl rfl) ?_
        obtain ⟨y19, hy19, hm⟩ := bindS hm
        refine r_call [0] cf22 rfl rfl (ok_gleemake_Stream_Next b0_ s0_0_ a0_0 u14.2.1 (w64 (u14.1 + 1)) hy19) rfl rfl (.cons (.ro 0 rfl) .nil) (fun _ => rfl) rfl (fun _ => ?_)
        refine lp rfl (p_as rfl) ?_
        refine lj_seq ?_
        refine cj_pure (F := RdS R3 (SV.v g15) u14.2.2) (.row 2 rfl) (fun _ h => h.pures) (fun hq24 => ?_)
        obtain ⟨e20, he20, hm⟩ := bindS hm
        obtain ⟨e21, he21, hm⟩ := bindS hm
        obtain ⟨e22, he22, hm⟩ := bindS hm
        obtain ⟨e23, he23, hm⟩ := bindS hm
        refine cj_anyT [0, 1, 2, 3, 4, 5, 6, 7, 8, 9, 11, 12] [13, 14, 15] (Sat w0 (keys [.box b0_ 25 [s0_0_.v, .int .i64 a0_1]]) A [.box b0_ 25 [s0_0_.v, .int .i64 y19.2], .ro (RdS R3 (SV.v s0_0_) a0_0), .row R3 (SV.v g15) u14.2.2]) (Sat w0 (keys [.box b0_ 25 [s0_0_.v, .int .i64 a0_1]]) A [.box b0_ 25 [s0_0_.v, .int .i64 y19.2], .ro (RdS R3 (SV.v s0_0_) a0_0)]) (by kernel_rfl) ?_
        refine at_take2 0 rfl (by kernel_rfl) (by kernel_rfl) (by kernel_rfl) (fun _ h => h.picks [0, 0] rfl) rfl rfl (p_mv rfl) (fun _ h => h.picks [0, 0] rfl) ?_
        refine at_take2 1 rfl (by kernel_rfl) (by kernel_rfl) (by kernel_rfl) (fun _ h => h.picks [0, 0] rfl) rfl rfl (p_mv rfl) (fun _ h => h.picks [0, 0] rfl) ?_
        refine at_take2 2 rfl (by kernel_rfl) (by kernel_rfl) (by kernel_rfl) (fun _ h => h.picks [0, 0] rfl) rfl rfl (p_mv rfl) (fun _ h => h.picks [0, 0] rfl) ?_
        refine at_take2 3 rfl (by kernel_rfl) (by kernel_rfl) (by kernel_rfl) (fun _ h => h.picks [0, 0] rfl) rfl rfl (p_mv rfl) (fun _ h => h.picks [0, 0] rfl) ?_
        refine at_take2 4 rfl (by kernel_rfl) (by kernel_rfl) (by kernel_rfl) (fun _ h => h.picks [0, 0] rfl) rfl rfl (p_mv rfl) (fun _ h => h.picks [0, 0] rfl) ?_
        refine at_take2 5 rfl (by kernel_rfl) (by kernel_rfl) (by kernel_rfl) (fun _ h => h.picks [0, 0] rfl) rfl rfl (p_mv rfl) (fun _ h => h.picks [0, 0] rfl) ?_
        refine at_take1 6 rfl (by kernel_rfl) (by kernel_rfl) (by kernel_rfl) (by kernel_rfl) rfl rfl (p_idxP (R := R3) Tryd.underlying22 ty3 rfl rfl hq24 he20) (fun _ h => h.picks [0, 0, 0] rfl) ?_
        refine at_take1 7 rfl (by kernel_rfl) (by kernel_rfl) (by kernel_rfl) (by kernel_rfl) rfl rfl (p_lde (o := 0) ty3 rfl rfl (.row 2 rfl) (getI_spec he20).2 rfl) (fun _ h => h.picks [0, 0, 0] rfl) ?_
        refine at_take2 8 rfl (by kernel_rfl) (by kernel_rfl) (by kernel_rfl) (fun _ h => h.picks [0, 0] rfl) rfl rfl (p_mv rfl) (fun _ h => h.picks [0, 0] rfl) ?_
        refine at_take2 9 rfl (by kernel_rfl) (by kernel_rfl) (by kernel_rfl) (fun _ h => h.picks [0, 0] rfl) rfl rfl (p_mv rfl) (fun _ h => h.picks [0, 0] rfl) ?_
        refine at_each (rs := [10]) (by kernel_rfl) (by decide) ?_
        refine (.cons rfl (fun I cnI => ?_) .nil)
        · refine lp rfl (p_idxP (R := R3) Tryd.underlying22 ty3 rfl rfl hq24 he21) ?_
          refine lj_nil ?_
          refine cnI _ _ (sof1 rfl rfl (fun _ h => h.picks [0, 0, 0] rfl)) ?_
          refine at_take1 11 rfl (by kernel_rfl) (by kernel_rfl) (by kernel_rfl) (by kernel_rfl) rfl rfl (p_lde (o := 0) ty3 rfl rfl (.row 2 rfl) (getI_spec he21).2 rfl) (fun _ h => h.picks [0, 0, 0] rfl) ?_
          refine at_take1 12 rfl (by kernel_rfl) (by kernel_rfl) (by kernel_rfl) (by kernel_rfl) rfl rfl (p_idxP (R := R3) Tryd.underlying22 ty3 rfl rfl hq24 he22) (fun _ h => h.picks [0, 0, 0] rfl) ?_
          refine at_each (rs := [13]) (by kernel_rfl) (by decide) ?_
          refine (.cons rfl (fun I cnI => ?_) .nil)
          · refine r_ste (k := 2) (o := 0) (vs := [.int .i64 e20]) ty3 rfl rfl rfl rfl rfl rfl rfl (getI_spec he22).2 e20 rfl rfl ?_
            refine lj_nil ?_
            refine cnI _ _ (sof2 rfl rfl (fun _ h => h.picks [0, 0] rfl)) ?_
            refine at_each (rs := [14]) (by kernel_rfl) (by decide) ?_
            refine (.cons rfl (fun I cnI => ?_) .nil)
            · refine lp rfl (p_idx Tryd.underlying22 ty3 rfl rfl (.row 2 rfl) he23) ?_
              refine lj_nil ?_
              refine cnI _ _ (sof2 rfl rfl (fun _ h => h.picks [0, 0] rfl)) ?_
              refine at_each (rs := [15]) (by kernel_rfl) (by decide) ?_
              refine (.cons rfl (fun I cnI => ?_) .nil)
              · refine r_ste (k := 2) (o := 0) (vs := [.int .i64 e21]) ty3 rfl rfl rfl rfl rfl rfl rfl (getI_spec he23).2 e21 rfl rfl ?_
                refine lj_nil ?_
                refine cnI _ _ (sof2 rfl rfl (fun _ h => h.picks [0, 0] rfl)) ?_
                refine at_done (by kernel_rfl) ?_
                refine nj_blk ?_
                refine nj_seq ?_
                refine cj_reg ?_
                refine lp rfl (p_mv rfl) ?_
                refine lp rfl (p_sub rfl rfl) ?_
                refine lp rfl (p_as rfl) ?_
                refine lj_nil ?_
                exact cnk16 _ _ (w64 (u14.1 - 1), y19.2, ((u14.2.2.set u14.1.toNat e20).set y19.1.toNat e21)) g15 (hJk16 _ (Option.some.inj hm).symm) ⟨rfl, rfl, rfl, rfl, trivial⟩ (fun _ h => h.picks [0, 0, 0] rfl)
      · have hm := ifB_f hb hm
        refine cj_exit rfl ?_
        exact (aftk16 (u14.1, u14.2.1, u14.2.2) g15 (hBk16 _ (Option.some.inj hm).symm)).sub ⟨rfl, rfl, rfl, rfl, trivial⟩ (fun _ h => h.picks [0, 0, 0] rfl)
  · have hRk7 : ∀ t, k7 = .ret t → some t = some r := fun t e => by rw [hX t e] at hm; exact hm
    have hm := hs
    refine cj_seq ?_
    refine cj_reg ?_
    refine lp rfl (p_mv rfl) ?_
    refine lp rfl (p_as rfl) ?_
    refine lj_seq ?_
    refine cj_reg ?_
    refine lp rfl (p_mv rfl) ?_
    refine lp rfl (p_mv rfl) ?_
    refine r_bs R3 [(i1 : Int)] rfl rfl rfl (fun _ => by kernel_rfl) rfl (fun s10 => ?_)
    obtain ⟨q11, hq11, hm⟩ := bindS hm
    refine r_app (k := 3) Tryd.underlying22 ty3 rfl rfl rfl rfl (.row 0 rfl) hq11 rfl (fun s12 => ?_)
    refine lp rfl (p_as rfl) ?_
    refine lj_nil ?_
    refine nj_blk ?_
    exact cnk7 _ _ q11 s12 (hJk7 _ (Option.some.inj hm).symm) ⟨rfl, rfl, rfl, rfl, rfl, rfl, trivial⟩ (fun _ h => h.picks [1, 1, 1] rfl)
theorem ok_concert_itemAt_1 (a0 : TItem) (s0_3_ : SV) (b1_ : Nat) (a1_0 : ByteArray) {r : Bool} (hm : m_concert_itemAt_1 a0 a1_0 = some r) :
    Ctr Tryd.prog 63 [.agg [.string a0.Key, .string a0.Places, .int .i64 a0.Long, s0_3_.v].toArray, .pointer (some ⟨b1_, 0, none⟩)].toArray ([] : List Ent) [RdS R9 (SV.v s0_3_) a0.Parts, BoxS b1_ 9 [.string a1_0]] (X := Unit) (fun _ => .bool r) (fun _ => []) := by
  unfold m_concert_itemAt_1 at hm
  refine ctr_mk (vs := [(0, .agg [.string a0.Key, .string a0.Places, .int .i64 a0.Long, s0_3_.v].toArray), (1, .pointer (some ⟨b1_, 0, none⟩))]) Tryd.func63 rfl Tryd.ntmps63 rfl ⟨rfl, rfl, trivial⟩ (fun w0 A => ?_)
  refine cj_seq ?_
  refine cj_reg ?_
  refine r_bx (cs := [.string a0.Key, .string a0.Places, .int .i64 a0.Long, s0_3_.v]) rfl rfl rfl (fun b1 => ?_)
  refine lp rfl (p_as rfl) ?_
  refine lj_seq ?_
  refine cj_seq ?_
  refine cj_reg ?_
  refine lp rfl (p_fab fl46_0 rfl) ?_
  refine lp rfl (p_lbs ty9 rfl (j := 0) rfl rfl) ?_
  refine lp rfl (p_rbs ty9 rfl (.ro 2 rfl) rfl) ?_
  refine lp rfl (p_eqs rfl rfl) ?_
  refine lp rfl (p_as rfl) ?_
  refine lj_seq ?_
  obtain rfl := Option.some.inj hm
  exact cj_rt () [] Tryd.results63 (.tmp rfl .nil) rfl rfl
theorem ok_slices_IndexFunc_api_Item_api_Item__concert_itemAt_1 (s0_ : SV) (xg0_ : List (TItem × SV)) (a0 : (List TItem)) (b1_c0_ : Nat) (a1_c0_0 : ByteArray) {r : Int} (hm : m_slices_IndexFunc_api_Item_api_Item__concert_itemAt_1 a0 a1_c0_0 = some r) :
    Ctr Tryd.prog 61 [s0_.v, .func (.func 63) #[] [.pointer (some ⟨b1_c0_, 0, none⟩)].toArray].toArray ([] : List Ent) [Lk N46 a0 xg0_, RdS N46.R (SV.v s0_) xg0_, BoxS b1_c0_ 9 [.string a1_c0_0]] (X := Unit) (fun _ => .int .i64 r) (fun _ => []) := by
  unfold m_slices_IndexFunc_api_Item_api_Item__concert_itemAt_1 at hm
  refine ctr_mk (vs := [(0, s0_.v), (1, .func (.func 63) #[] [.pointer (some ⟨b1_c0_, 0, none⟩)].toArray)]) Tryd.func61 rfl Tryd.ntmps61 rfl ⟨rfl, rfl, trivial⟩ (fun w0 A => ?_)
  refine cj_pure (F := Lk N46 a0 xg0_) (.ro 0 rfl) (fun _ h => h.1) (fun hL0_ => ?_)
  refine cj_seq ?_
  refine cj_reg ?_
  refine lp rfl (p_as rfl) ?_
  refine lj_seq ?_
  refine cj_seq ?_
  refine cj_seq ?_
  refine cj_reg ?_
  refine lp rfl (p_mv rfl) ?_
  refine lp rfl (p_lenG hL0_ Tryd.underlying26 rfl (.ro 1 rfl)) ?_
  refine lp rfl (p_mv rfl) ?_
  refine lj_seq ?_
  obtain ⟨f7, hf7, hm⟩ := bindS hm
  refine cj_range (γ := Unit) (m := (a0.length : Int)) hf7 () (fun u4 g5 => [(0, s0_.v), (1, .func (.func 63) #[] [.pointer (some ⟨b1_c0_, 0, none⟩)].toArray), (4, .int .i64 0)]) (fun u4 g5 => Sat w0 (keys ([] : List Ent)) A [.ro (Lk N46 a0 xg0_), .ro (RdS N46.R (SV.v s0_) xg0_), .ro (BoxS b1_c0_ 9 [.string a1_c0_0])]) ⟨rfl, rfl, rfl, rfl, rfl, trivial⟩ (fun _ h => h.picks [0, 0, 0] rfl) (nat_lt _) (fun _ h => by have h1 := (FactAt.get (F := RdS N46.R (SV.v s0_) xg0_) (.ro 1 rfl) h).1; rw [lk_len hL0_] at h1; exact h1) (fun _ _ => ⟨rfl, rfl, rfl, rfl⟩) ⟨rfl, rfl, rfl, rfl, rfl⟩ rfl rfl rfl (fun u4 g5 e => ?_) (fun aftk6 i1 x2 u4 g5 k6 hx3 hs J hJk6 hBk6 hX I cnk6 => ?_)
  · have hm := Flow.fin_b e hm
    refine nj_seq ?_
    refine cj_seq ?_
    refine cj_reg ?_
    refine lp rfl (p_as rfl) ?_
    refine lj_seq ?_
    obtain rfl := Option.some.inj hm
    exact cj_rt () [] Tryd.results61 (.tmp rfl .nil) rfl rfl
  · have hRk6 : ∀ t, k6 = .ret t → some t = some r := fun t e => by rw [hX t e] at hm; exact hm
    have hm := hs
    refine cj_seq ?_
    refine cj_reg ?_
    refine lp rfl (p_mv rfl) ?_
    refine lp rfl (p_as rfl) ?_
    refine lj_seq ?_
    refine cj_seq ?_
    refine cj_reg ?_
    refine lp rfl (p_mv rfl) ?_
    refine lp rfl (p_mv rfl) ?_
    refine lp rfl (p_mv rfl) ?_
    obtain ⟨gx2, hx3G⟩ := lk_get hL0_ hx3
    refine lp rfl (p_idx Tryd.underlying26 ty46 rfl rfl (.ro 1 rfl) (getI_nat.trans hx3G)) ?_
    refine lp rfl (p_leaN (cs := [.string x2.Key, .string x2.Places, .int .i64 x2.Long, gx2.v]) ty46 rfl (.ro 1 rfl) hx3G rfl) ?_
    obtain ⟨y8, hy8, hm⟩ := bindS hm
    refine r_call [] cf63 rfl rfl (ok_concert_itemAt_1 x2 gx2 b1_c0_ a1_c0_0 hy8) rfl rfl (.cons (.imp (.ro 0 rfl) (fun _ h => (Lk.at_ h hx3G))) (.cons (.ro 2 rfl) .nil)) (fun _ => rfl) rfl (fun _ => ?_)
    refine lj_seq ?_
    refine cj_if (b := y8) rfl (fun hb => ?_) (fun hb => ?_)
    · have hm := ifB_t hb hm
      refine cj_seq ?_
      refine cj_reg ?_
      refine lp rfl (p_mv rfl) ?_
      refine lp rfl (p_as rfl) ?_
      refine lj_seq ?_
      have hm := hRk6 _ (Option.some.inj hm).symm
      obtain rfl := Option.some.inj hm
      exact cj_rt () [] Tryd.results61 (.tmp rfl .nil) rfl rfl
    · have hm := ifB_f hb hm
      refine cj_skip ?_
      refine nj_blk ?_
      exact cnk6 _ _ () () (hJk6 _ (Option.some.inj hm).symm) ⟨rfl, rfl, rfl, rfl, rfl, trivial⟩ (fun _ h => h.picks [0, 0, 0] rfl)
theorem ok_concert_itemAt (a0 : TProgram) (s0_0_ : SV) (xg0_0_ : List (TItem × SV)) (a1 : ByteArray) {r : Int} (hm : m_concert_itemAt a0 a1 = some r) :
    Ctr Tryd.prog 42 [.agg [s0_0_.v, .int .i64 a0.Change, .int .i64 a0.Clap, .int .i64 a0.Break, .int .i64 a0.Half].toArray, .string a1].toArray ([] : List Ent) [Lk N46 a0.Items xg0_0_, RdS N46.R (SV.v s0_0_) xg0_0_] (X := Unit) (fun _ => .int .i64 r) (fun _ => []) := by
  unfold m_concert_itemAt at hm
  refine ctr_mk (vs := [(0, .agg [s0_0_.v, .int .i64 a0.Change, .int .i64 a0.Clap, .int .i64 a0.Break, .int .i64 a0.Half].toArray), (1, .string a1)]) Tryd.func42 rfl Tryd.ntmps42 rfl ⟨rfl, rfl, trivial⟩ (fun w0 A => ?_)
  refine cj_pure (F := Lk N46 a0.Items xg0_0_) (.ro 0 rfl) (fun _ h => h.1) (fun hL0_0_ => ?_)
  refine cj_seq ?_
  refine cj_reg ?_
  refine r_bx (cs := [s0_0_.v, .int .i64 a0.Change, .int .i64 a0.Clap, .int .i64 a0.Break, .int .i64 a0.Half]) rfl rfl rfl (fun b1 => ?_)
  refine r_bx (cs := [.string a1]) rfl rfl rfl (fun b2 => ?_)
  refine lp rfl (p_as rfl) ?_
  refine lj_seq ?_
  refine cj_seq ?_
  refine cj_reg ?_
  refine lp rfl (p_fab fl28_0 rfl) ?_
  refine lp rfl (p_lbs ty26 rfl (j := 1) rfl rfl) ?_
  refine lp rfl (p_fn (cv := [.pointer (some ⟨b2, 0, none⟩)]) rfl) ?_
  obtain ⟨y3, hy3, hm⟩ := bindS hm
  refine r_call [] cf61 rfl rfl (ok_slices_IndexFunc_api_Item_api_Item__concert_itemAt_1 s0_0_ xg0_0_ a0.Items b2 a1 hy3) rfl rfl (.cons (.ro 2 rfl) (.cons (.ro 3 rfl) (.cons (.imp (.box 0 rfl) (fun _ h => h)) .nil))) (fun _ => rfl) rfl (fun _ => ?_)
  refine lp rfl (p_as rfl) ?_
  refine lj_seq ?_
  obtain rfl := Option.some.inj hm
  exact cj_rt () [] Tryd.results42 (.tmp rfl .nil) rfl rfl
theorem ok_concert_cloneItem (a0 : TItem) (s0_3_ : SV) {r : TItem} (hm : m_concert_cloneItem a0 = some r) :
    Ctr Tryd.prog 44 [.agg [.string a0.Key, .string a0.Places, .int .i64 a0.Long, s0_3_.v].toArray].toArray ([] : List Ent) [RdS R9 (SV.v s0_3_) a0.Parts] (X := SV) (fun s => .agg [.string r.Key, .string r.Places, .int .i64 r.Long, s.v].toArray) (fun s => [.row R9 (SV.v s) r.Parts]) := by
  unfold m_concert_cloneItem at hm
  refine ctr_mk (vs := [(0, .agg [.string a0.Key, .string a0.Places, .int .i64 a0.Long, s0_3_.v].toArray)]) Tryd.func44 rfl Tryd.ntmps44 rfl ⟨rfl, trivial⟩ (fun w0 A => ?_)
  refine cj_seq ?_
  refine cj_reg ?_
  refine r_bx (cs := [.string a0.Key, .string a0.Places, .int .i64 a0.Long, s0_3_.v]) rfl rfl rfl (fun b1 => ?_)
  refine r_al ty46 rfl (fun b2 => ?_)
  refine lj_seq ?_
  refine cj_seq ?_
  refine cj_reg ?_
  refine lp rfl (p_fab fl46_3 rfl) ?_
  refine lp rfl (p_lbs ty30 rfl (j := 1) rfl rfl) ?_
  obtain ⟨y3, hy3, hm⟩ := bindS hm
  refine r_call [] cf24 rfl rfl (ok_slices_Clone_string_string s0_3_ a0.Parts hy3) rfl rfl (.cons (.ro 2 rfl) .nil) (fun _ => rfl) rfl (fun s4 => ?_)
  refine lp rfl (p_fab fl46_3 rfl) ?_
  refine r_sb (vs := [s4.v]) (j := 2) ty30 rfl rfl rfl rfl rfl rfl rfl ?_
  refine lj_seq ?_
  refine cj_seq ?_
  refine cj_reg ?_
  refine lp rfl (p_lbw ty46 rfl (j := 2) rfl rfl) ?_
  refine r_sb (vs := [.string a0.Key, .string a0.Places, .int .i64 a0.Long, s4.v]) (j := 1) ty46 rfl rfl rfl rfl rfl rfl rfl ?_
  refine lj_seq ?_
  obtain rfl := Option.some.inj hm
  exact cj_rt s4 [0] Tryd.results44 (.agg (k := 1) ty46 rfl rfl rfl .nil) rfl rfl
theorem ok_concert_Moved (a0 : TProgram) (s0_0_ : SV) (xg0_0_ : List (TItem × SV)) (s1_ : SV) (a1 : (List ByteArray)) {r : TProgram × Int} (hm : m_concert_Moved a0 a1 = some r) :
    Ctr Tryd.prog 17 [.agg [s0_0_.v, .int .i64 a0.Change, .int .i64 a0.Clap, .int .i64 a0.Break, .int .i64 a0.Half].toArray, s1_.v].toArray ([] : List Ent) [Lk N46 a0.Items xg0_0_, RdS N46.R (SV.v s0_0_) xg0_0_, RdS R9 (SV.v s1_) a1] (X := (SV × List (TItem × SV))) (fun s => .tuple [.agg [s.1.v, .int .i64 r.1.Change, .int .i64 r.1.Clap, .int .i64 r.1.Break, .int .i64 r.1.Half].toArray, .int .i64 r.2].toArray) (fun s => [.row N46.R (SV.v s.1) s.2, .ro (Lk N46 r.1.Items s.2)]) := by
  unfold m_concert_Moved at hm
  refine ctr_mk (vs := [(0, .agg [s0_0_.v, .int .i64 a0.Change, .int .i64 a0.Clap, .int .i64 a0.Break, .int .i64 a0.Half].toArray), (1, s1_.v)]) Tryd.func17 rfl Tryd.ntmps17 rfl ⟨rfl, rfl, trivial⟩ (fun w0 A => ?_)
  refine cj_pure (F := Lk N46 a0.Items xg0_0_) (.ro 0 rfl) (fun _ h => h.1) (fun hL0_0_ => ?_)
  refine cj_seq ?_
  refine cj_reg ?_
  refine r_bx (cs := [s0_0_.v, .int .i64 a0.Change, .int .i64 a0.Clap, .int .i64 a0.Break, .int .i64 a0.Half]) rfl rfl rfl (fun b1 => ?_)
  refine r_al ty28 rfl (fun b2 => ?_)
  refine lp rfl (p_as rfl) ?_
  refine lj_seq ?_
  refine cj_seq ?_
  refine cj_seq ?_
  refine cj_reg ?_
  refine lp rfl (p_lbw ty28 rfl (j := 1) rfl rfl) ?_
  obtain ⟨y3, hy3, hm⟩ := bindS hm
  refine r_call [] cf25 rfl rfl (ok_concert_CheckProgram a0 s0_0_ xg0_0_ hy3) rfl rfl (.cons (.ro 2 rfl) (.cons (.ro 3 rfl) .nil)) (fun _ => rfl) rfl (fun _ => ?_)
  refine lp rfl (p_as rfl) ?_
  refine lj_seq ?_
  refine cj_seq ?_
  refine cj_reg ?_
  refine lp rfl (p_mv rfl) ?_
  refine lp rfl (p_neq rfl rfl) ?_
  refine lj_seq ?_
  refine cj_if (b := y3 != 0) rfl (fun hb => ?_) (fun hb => ?_)
  · have hm := ifB_t hb hm
    refine cj_seq ?_
    refine cj_reg ?_
    refine lp rfl (p_bld [.slice none 0 0, .int .i64 0, .int .i64 0, .int .i64 0, .int .i64 0] rfl (fun _ => by kernel_rfl)) ?_
    refine lp rfl (p_mv rfl) ?_
    refine r_sb (vs := [.slice none 0 0, .int .i64 0, .int .i64 0, .int .i64 0, .int .i64 0]) (j := 0) ty28 rfl rfl rfl rfl rfl rfl rfl ?_
    refine lp rfl (p_as rfl) ?_
    refine lj_seq ?_
    obtain rfl := Option.some.inj hm
    refine cj_fact (F := Lk N46 [] []) (.nilL N46) ?_
    refine cj_nil N46.R ?_
    exact cj_rt (nilS, []) [0, 0] Tryd.results17 (.agg (k := 2) ty28 rfl rfl rfl (.tmp rfl .nil)) rfl rfl
  · have hm := ifB_f hb hm
    refine cj_skip ?_
    refine nj_seq ?_
    refine cj_seq ?_
    refine cj_seq ?_
    refine cj_reg ?_
    refine lp rfl (p_mv rfl) ?_
    refine lp rfl (p_len Tryd.underlying30 rfl (.ro 4 rfl)) ?_
    refine lp rfl (p_fab fl28_0 rfl) ?_
    refine lp rfl (p_lbs ty26 rfl (j := 1) rfl rfl) ?_
    refine lp rfl (p_lenG hL0_0_ Tryd.underlying26 rfl (.ro 3 rfl)) ?_
    refine lp rfl (p_neq rfl rfl) ?_
    refine lj_seq ?_
    refine cj_if (b := (a1.length : Int) != (a0.Items.length : Int)) rfl (fun hb => ?_) (fun hb => ?_)
    · have hm := ifB_t hb hm
      refine cj_seq ?_
      refine cj_reg ?_
      refine lp rfl (p_bld [.slice none 0 0, .int .i64 0, .int .i64 0, .int .i64 0, .int .i64 0] rfl (fun _ => by kernel_rfl)) ?_
      refine r_sb (vs := [.slice none 0 0, .int .i64 0, .int .i64 0, .int .i64 0, .int .i64 0]) (j := 0) ty28 rfl rfl rfl rfl rfl rfl rfl ?_
      refine lp rfl (p_as rfl) ?_
      refine lj_seq ?_
      obtain rfl := Option.some.inj hm
      refine cj_fact (F := Lk N46 [] []) (.nilL N46) ?_
      refine cj_nil N46.R ?_
      exact cj_rt (nilS, []) [0, 0] Tryd.results17 (.agg (k := 2) ty28 rfl rfl rfl (.tmp rfl .nil)) rfl rfl
    · have hm := ifB_f hb hm
      refine cj_skip ?_
      refine nj_seq ?_
      refine cj_seq ?_
      refine cj_reg ?_
      refine lp rfl (p_lbw ty28 rfl (j := 1) rfl rfl) ?_
      refine r_al ty28 rfl (fun b6 => ?_)
      refine r_sb (vs := [s0_0_.v, .int .i64 a0.Change, .int .i64 a0.Clap, .int .i64 a0.Break, .int .i64 a0.Half]) (j := 0) ty28 rfl rfl rfl rfl rfl rfl rfl ?_
      refine lj_seq ?_
      refine cj_seq ?_
      refine cj_reg ?_
      refine lp rfl (p_fab fl28_0 rfl) ?_
      refine r_sb (vs := [.slice none 0 0]) (j := 0) ty26 rfl rfl rfl rfl rfl rfl rfl ?_
      refine lj_seq ?_
      refine cj_seq ?_
      refine cj_seq ?_
      refine cj_reg ?_
      refine lp rfl (p_mv rfl) ?_
      refine lp rfl (p_len Tryd.underlying30 rfl (.ro 5 rfl)) ?_
      refine lp rfl (p_mv rfl) ?_
      refine lj_seq ?_
      refine cj_fact (F := Lk N46 [] []) (.nilL N46) ?_
      refine cj_nil N46.R ?_
      obtain ⟨f14, hf14, hm⟩ := bindS hm
      refine cj_range (γ := (SV × List (TItem × SV))) (m := (a1.length : Int)) hf14 (nilS, []) (fun u11 g12 => [(1, s1_.v), (2, .pointer (some ⟨b1, 0, none⟩)), (4, .pointer (some ⟨b2, 0, none⟩)), (5, .int .i64 0), (7, .pointer (some ⟨b6, 0, none⟩)), (26, s1_.v)]) (fun u11 g12 => Sat w0 (keys ([] : List Ent)) A [.box b6 28 [g12.1.v, .int .i64 a0.Change, .int .i64 a0.Clap, .int .i64 a0.Break, .int .i64 a0.Half], .box b2 28 [.slice none 0 0, .int .i64 0, .int .i64 0, .int .i64 0, .int .i64 0], .box b1 28 [s0_0_.v, .int .i64 a0.Change, .int .i64 a0.Clap, .int .i64 a0.Break, .int .i64 a0.Half], .ro (Lk N46 a0.Items xg0_0_), .ro (RdS N46.R (SV.v s0_0_) xg0_0_), .ro (RdS R9 (SV.v s1_) a1), .row N46.R (SV.v g12.1) g12.2, .ro (Lk N46 u11 g12.2)]) ⟨rfl, rfl, rfl, rfl, rfl, rfl, rfl, rfl, trivial⟩ (fun _ h => h.picks [2, 2, 2, 2, 2, 2, 0, 0] rfl) (nat_lt _) (fun _ h => (FactAt.get (F := RdS R9 (SV.v s1_) a1) (.ro 7 rfl) h).1) (fun _ _ => ⟨rfl, rfl, rfl, rfl⟩) ⟨rfl, rfl, rfl, rfl, rfl⟩ rfl rfl rfl (fun u11 g12 e => ?_) (fun aftk13 i7 x8 u11 g12 k13 hx9 hs J hJk13 hBk13 hX I cnk13 => ?_)
      · have hm := Flow.fin_b e hm
        refine nj_pure (F := Lk N46 u11 g12.2) (.ro 7 rfl) (fun _ h => h.1) (fun hLu11_K33 => ?_)
        refine nj_seq ?_
        refine cj_seq ?_
        refine cj_reg ?_
        refine lp rfl (p_lbw ty28 rfl (j := 0) rfl rfl) ?_
        refine r_sb (vs := [g12.1.v, .int .i64 a0.Change, .int .i64 a0.Clap, .int .i64 a0.Break, .int .i64 a0.Half]) (j := 1) ty28 rfl rfl rfl rfl rfl rfl rfl ?_
        refine lp rfl (p_as rfl) ?_
        refine lj_seq ?_
        obtain rfl := Option.some.inj hm
        exact cj_rt (g12.1, g12.2) [6, 6] Tryd.results17 (.agg (k := 1) ty28 rfl rfl rfl (.tmp rfl .nil)) rfl rfl
      · have hRk13 : ∀ t, k13 = .ret t → some t = some r := fun t e => by rw [hX t e] at hm; exact hm
        have hm := hs
        refine cj_pure (F := Lk N46 u11 g12.2) (.ro 7 rfl) (fun _ h => h.1) (fun hLu11_K15 => ?_)
        refine cj_seq ?_
        refine cj_reg ?_
        refine lp rfl (p_mv rfl) ?_
        refine lp rfl (p_idx Tryd.underlying30 ty9 rfl rfl (.ro 5 rfl) (getI_nat.trans hx9)) ?_
        refine lp rfl (p_lde (o := 0) ty9 rfl rfl (.ro 5 rfl) hx9 rfl) ?_
        refine lp rfl (p_as rfl) ?_
        refine lp rfl (p_as rfl) ?_
        refine lj_seq ?_
        refine cj_seq ?_
        refine cj_reg ?_
        refine lp rfl (p_lbw ty28 rfl (j := 2) rfl rfl) ?_
        refine lp rfl (p_mv rfl) ?_
        obtain ⟨y16, hy16, hm⟩ := bindS hm
        refine r_call [] cf42 rfl rfl (ok_concert_itemAt a0 s0_0_ xg0_0_ x8 hy16) rfl rfl (.cons (.ro 3 rfl) (.cons (.ro 4 rfl) .nil)) (fun _ => rfl) rfl (fun _ => ?_)
        refine lp rfl (p_as rfl) ?_
        refine lj_seq ?_
        refine cj_seq ?_
        refine cj_seq ?_
        refine cj_reg ?_
        refine lp rfl (p_mv rfl) ?_
        refine lp rfl (p_lss rfl rfl) ?_
        refine lj_seq ?_
        refine cj_if (b := decide (y16 < 0)) rfl (fun hb => ?_) (fun hb => ?_)
        · have hm := ifB_t hb hm
          refine cj_seq ?_
          refine cj_reg ?_
          refine lp rfl (p_bld [.slice none 0 0, .int .i64 0, .int .i64 0, .int .i64 0, .int .i64 0] rfl (fun _ => by kernel_rfl)) ?_
          refine r_sb (vs := [.slice none 0 0, .int .i64 0, .int .i64 0, .int .i64 0, .int .i64 0]) (j := 1) ty28 rfl rfl rfl rfl rfl rfl rfl ?_
          refine lp rfl (p_as rfl) ?_
          refine lj_seq ?_
          have hm := hRk13 _ (Option.some.inj hm).symm
          obtain rfl := Option.some.inj hm
          refine cj_fact (F := Lk N46 [] []) (.nilL N46) ?_
          refine cj_nil N46.R ?_
          exact cj_rt (nilS, []) [0, 0] Tryd.results17 (.agg (k := 3) ty28 rfl rfl rfl (.tmp rfl .nil)) rfl rfl
        · have hm := ifB_f hb hm
          refine cj_skip ?_
          refine nj_seq ?_
          refine cj_seq ?_
          refine cj_seq ?_
          refine cj_reg ?_
          refine lp rfl (p_mv rfl) ?_
          refine lp rfl (p_mv rfl) ?_
          obtain ⟨q18, hq18, hm⟩ := bindS hm
          refine lp rfl (p_cut Tryd.underlying30 ty9 rfl rfl rfl rfl rfl (.ro 5 rfl) rfl rfl hq18) ?_
          refine lp rfl (p_mv rfl) ?_
          obtain ⟨y19, hy19, hm⟩ := bindS hm
          refine r_call [] cf43 rfl rfl (ok_slices_Contains_string_string (s1_.sub R9.sz (0 : Int).toNat (i7 : Int).toNat) q18 x8 hy19) rfl rfl (.cons (.imp (.ro 5 rfl) (fun _ h => h.cut hq18)) .nil) (fun _ => rfl) rfl (fun _ => ?_)
          refine lj_seq ?_
          refine cj_if (b := y19) rfl (fun hb => ?_) (fun hb => ?_)
          · have hm := ifB_t hb hm
            refine cj_seq ?_
            refine cj_reg ?_
            refine lp rfl (p_bld [.slice none 0 0, .int .i64 0, .int .i64 0, .int .i64 0, .int .i64 0] rfl (fun _ => by kernel_rfl)) ?_
            refine r_sb (vs := [.slice none 0 0, .int .i64 0, .int .i64 0, .int .i64 0, .int .i64 0]) (j := 1) ty28 rfl rfl rfl rfl rfl rfl rfl ?_
            refine lp rfl (p_as rfl) ?_
            refine lj_seq ?_
            have hm := hRk13 _ (Option.some.inj hm).symm
            obtain rfl := Option.some.inj hm
            refine cj_fact (F := Lk N46 [] []) (.nilL N46) ?_
            refine cj_nil N46.R ?_
            exact cj_rt (nilS, []) [0, 0] Tryd.results17 (.agg (k := 3) ty28 rfl rfl rfl (.tmp rfl .nil)) rfl rfl
          · have hm := ifB_f hb hm
            refine cj_skip ?_
            refine nj_seq ?_
            refine cj_pure (F := RdS N46.R (SV.v g12.1) g12.2) (.row 6 rfl) (fun _ h => h.pures) (fun hq28 => ?_)
            obtain ⟨e21, he21, hm⟩ := bindS hm
            obtain ⟨ge21, he21G⟩ := lk_getI hL0_0_ he21
            obtain ⟨y22, hy22, hm⟩ := bindS hm
            obtain ⟨q25, hq25, hm⟩ := bindS hm
            refine cj_anyT [0, 1, 2, 3, 4, 5, 6, 10] [11] (Sat w0 (keys ([] : List Ent)) A [.box b6 28 [g12.1.v, .int .i64 a0.Change, .int .i64 a0.Clap, .int .i64 a0.Break, .int .i64 a0.Half], .box b2 28 [.slice none 0 0, .int .i64 0, .int .i64 0, .int .i64 0, .int .i64 0], .box b1 28 [s0_0_.v, .int .i64 a0.Change, .int .i64 a0.Clap, .int .i64 a0.Break, .int .i64 a0.Half], .ro (Lk N46 a0.Items xg0_0_), .ro (RdS N46.R (SV.v s0_0_) xg0_0_), .ro (RdS R9 (SV.v s1_) a1), .ro (Lk N46 u11 g12.2)]) (Sat w0 (keys ([] : List Ent)) A [.box b2 28 [.slice none 0 0, .int .i64 0, .int .i64 0, .int .i64 0, .int .i64 0], .box b1 28 [s0_0_.v, .int .i64 a0.Change, .int .i64 a0.Clap, .int .i64 a0.Break, .int .i64 a0.Half], .ro (Lk N46 a0.Items xg0_0_), .ro (RdS N46.R (SV.v s0_0_) xg0_0_), .ro (RdS R9 (SV.v s1_) a1), .ro (Lk N46 u11 g12.2)]) (by kernel_rfl) ?_
            refine at_take2 0 rfl (by kernel_rfl) (by kernel_rfl) (by kernel_rfl) (fun _ h => h.picks [1, 1, 1, 1, 1, 1] rfl) rfl rfl (p_fab fl28_0 rfl) (fun _ h => h.picks [1, 1, 1, 1, 1, 2] rfl) ?_
            refine at_take1 1 rfl (by kernel_rfl) (by kernel_rfl) (by kernel_rfl) (by kernel_rfl) rfl rfl (p_lbs ty26 rfl (j := 0) rfl rfl) (fun _ h => h.picks [0, 0, 0, 0, 0, 0, 1] rfl) ?_
            refine at_take2 2 rfl (by kernel_rfl) (by kernel_rfl) (by kernel_rfl) (fun _ h => h.picks [1, 1, 1, 1, 1, 1] rfl) rfl rfl (p_fab fl28_0 rfl) (fun _ h => h.picks [1, 1, 1, 1, 1, 2] rfl) ?_
            refine at_take2 3 rfl (by kernel_rfl) (by kernel_rfl) (by kernel_rfl) (fun _ h => h.picks [1, 1, 1, 1, 1, 1] rfl) rfl rfl (p_lbs ty26 rfl (j := 1) rfl rfl) (fun _ h => h.picks [1, 1, 1, 1, 1, 2] rfl) ?_
            refine at_take2 4 rfl (by kernel_rfl) (by kernel_rfl) (by kernel_rfl) (fun _ h => h.picks [1, 1, 1, 1, 1, 1] rfl) rfl rfl (p_mv rfl) (fun _ h => h.picks [1, 1, 1, 1, 1, 2] rfl) ?_
            refine at_take2 5 rfl (by kernel_rfl) (by kernel_rfl) (by kernel_rfl) (fun _ h => h.picks [1, 1, 1, 1, 1, 1] rfl) rfl rfl (p_idx Tryd.underlying26 ty46 rfl rfl (.ro 3 rfl) he21G) (fun _ h => h.picks [1, 1, 1, 1, 1, 2] rfl) ?_
            refine at_take2 6 rfl (by kernel_rfl) (by kernel_rfl) (by kernel_rfl) (fun _ h => h.picks [1, 1, 1, 1, 1, 1] rfl) rfl rfl (p_leaN (cs := [.string e21.Key, .string e21.Places, .int .i64 e21.Long, ge21.v]) ty46 rfl (.ro 3 rfl) (getI_spec he21G).2 rfl) (fun _ h => h.picks [1, 1, 1, 1, 1, 2] rfl) ?_
            refine at_each (rs := [7]) (by kernel_rfl) (by decide) ?_
            refine (.cons rfl (fun I cnI => ?_) .nil)
            · refine r_call [] cf44 rfl rfl (ok_concert_cloneItem e21 ge21 hy22) rfl rfl (.cons (.imp (.ro 3 rfl) (fun _ h => (Lk.at_ h (getI_spec he21G).2))) .nil) (fun _ => rfl) rfl (fun s29 => ?_)
              refine lj_nil ?_
              refine cnI _ _ (sof1 rfl rfl (fun _ h => h.picks [1, 1, 1, 1, 1, 1, 2] rfl)) ?_
              refine at_each (rs := [8]) (by kernel_rfl) (by decide) ?_
              refine (.cons rfl (fun I cnI => ?_) .nil)
              · refine r_fz 0 rfl ?_
                refine r_fact (F := Lk N46 [y22] [(y22, s29)]) (.imp (.and (.ro 0 rfl) (.nilL N46)) (fun _ h => Lk.cons h.1 h.2)) ?_
                have hLs30 : (([(y22, s29)] : List (TItem × SV)).map Prod.fst) = ([y22] : List TItem) := rfl
                refine r_bs N46.R [(y22, s29)] rfl rfl rfl (fun _ => by kernel_rfl) rfl (fun s30 => ?_)
                refine lj_nil ?_
                refine cnI _ _ (sof1 rfl rfl (fun _ h => h.picks [3, 3, 3, 3, 3, 3, 4] rfl)) ?_
                refine at_each (rs := [9]) (by kernel_rfl) (by decide) ?_
                refine (.cons rfl (fun I cnI => ?_) .nil)
                · refine r_fact (F := Lk N46 q25 (g12.2 ++ [(y22, s29)])) (.imp (.and (.ro 10 rfl) (.ro 1 rfl)) (fun _ h => Lk.app hq25 h.1 h.2)) ?_
                  refine r_app (k := 10) Tryd.underlying26 ty46 rfl rfl rfl rfl (.row 1 rfl) (lk_app hq25 hLu11_K15 hLs30) rfl (fun s31 => ?_)
                  refine lj_nil ?_
                  refine cnI _ _ (sof1 rfl rfl (fun _ h => h.picks [4, 4, 4, 4, 4, 4, 5] rfl)) ?_
                  refine at_take2 10 rfl (by kernel_rfl) (by kernel_rfl) (by kernel_rfl) (fun _ h => h.picks [1, 1, 1, 1, 1, 1] rfl) rfl rfl (p_fab fl28_0 rfl) (fun _ h => h.picks [5, 5, 5, 5, 5, 6] rfl) ?_
                  refine at_each (rs := [11]) (by kernel_rfl) (by decide) ?_
                  refine (.cons rfl (fun I cnI => ?_) .nil)
                  · refine r_sb (vs := [s31.v]) (j := 4) ty26 rfl rfl rfl rfl rfl rfl rfl ?_
                    refine lj_nil ?_
                    refine cnI _ _ (sof2 rfl rfl (fun _ h => h.picks [5, 5, 5, 5, 5, 6] rfl)) ?_
                    refine at_done (by kernel_rfl) ?_
                    refine nj_blk ?_
                    exact cnk13 _ _ q25 (s31, (g12.2 ++ [(y22, s29)])) (hJk13 _ (Option.some.inj hm).symm) ⟨rfl, rfl, rfl, rfl, rfl, rfl, rfl, rfl, trivial⟩ (fun _ h => h.picks [4, 4, 4, 4, 4, 4, 4, 0] rfl)
theorem ok_gleeref2_MovedProgram (a0 : TProgram) (s0_0_ : SV) (xg0_0_ : List (TItem × SV)) (s1_ : SV) (a1 : (List ByteArray)) {r : TProgram × Int} (hm : m_gleeref2_MovedProgram a0 a1 = some r) :
    Ctr Tryd.prog 18 [.agg [s0_0_.v, .int .i64 a0.Change, .int .i64 a0.Clap, .int .i64 a0.Break, .int .i64 a0.Half].toArray, s1_.v].toArray ([] : List Ent) [Lk N46 a0.Items xg0_0_, RdS N46.R (SV.v s0_0_) xg0_0_, RdS R9 (SV.v s1_) a1] (X := (SV × List (TItem × SV))) (fun s => .tuple [.agg [s.1.v, .int .i64 r.1.Change, .int .i64 r.1.Clap, .int .i64 r.1.Break, .int .i64 r.1.Half].toArray, .int .i64 r.2].toArray) (fun s => [.row N46.R (SV.v s.1) s.2, .ro (Lk N46 r.1.Items s.2)]) := by
  unfold m_gleeref2_MovedProgram at hm
  refine ctr_mk (vs := [(0, .agg [s0_0_.v, .int .i64 a0.Change, .int .i64 a0.Clap, .int .i64 a0.Break, .int .i64 a0.Half].toArray), (1, s1_.v)]) Tryd.func18 rfl Tryd.ntmps18 rfl ⟨rfl, rfl, trivial⟩ (fun w0 A => ?_)
  refine cj_pure (F := Lk N46 a0.Items xg0_0_) (.ro 0 rfl) (fun _ h => h.1) (fun hL0_0_ => ?_)
  refine cj_seq ?_
  refine cj_reg ?_
  refine r_bx (cs := [s0_0_.v, .int .i64 a0.Change, .int .i64 a0.Clap, .int .i64 a0.Break, .int .i64 a0.Half]) rfl rfl rfl (fun b1 => ?_)
  refine r_al ty28 rfl (fun b2 => ?_)
  refine lp rfl (p_as rfl) ?_
  refine lj_seq ?_
  refine cj_seq ?_
  refine cj_seq ?_
  refine cj_reg ?_
  refine lp rfl (p_mv rfl) ?_
  refine lp rfl (p_len Tryd.underlying30 rfl (.ro 4 rfl)) ?_
  refine lp rfl (p_fab fl28_0 rfl) ?_
  refine lp rfl (p_lbs ty26 rfl (j := 1) rfl rfl) ?_
  refine lp rfl (p_lenG hL0_0_ Tryd.underlying26 rfl (.ro 3 rfl)) ?_
  refine lp rfl (p_neq rfl rfl) ?_
  refine lj_seq ?_
  refine cj_if (b := (a1.length : Int) != (a0.Items.length : Int)) rfl (fun hb => ?_) (fun hb => ?_)
  · have hm := ifB_t hb hm
    refine cj_seq ?_
    refine cj_reg ?_
    refine lp rfl (p_bld [.slice none 0 0, .int .i64 0, .int .i64 0, .int .i64 0, .int .i64 0] rfl (fun _ => by kernel_rfl)) ?_
    refine r_sb (vs := [.slice none 0 0, .int .i64 0, .int .i64 0, .int .i64 0, .int .i64 0]) (j := 0) ty28 rfl rfl rfl rfl rfl rfl rfl ?_
    refine lp rfl (p_as rfl) ?_
    refine lj_seq ?_
    obtain rfl := Option.some.inj hm
    refine cj_fact (F := Lk N46 [] []) (.nilL N46) ?_
    refine cj_nil N46.R ?_
    exact cj_rt (nilS, []) [0, 0] Tryd.results18 (.agg (k := 2) ty28 rfl rfl rfl (.tmp rfl .nil)) rfl rfl
  · have hm := ifB_f hb hm
    refine cj_skip ?_
    refine nj_seq ?_
    refine cj_seq ?_
    refine cj_reg ?_
    refine lp rfl (p_as rfl) ?_
    refine lj_seq ?_
    refine cj_seq ?_
    refine cj_seq ?_
    refine cj_reg ?_
    refine lp rfl (p_mv rfl) ?_
    refine lp rfl (p_len Tryd.underlying30 rfl (.ro 4 rfl)) ?_
    refine lp rfl (p_mv rfl) ?_
    refine lj_seq ?_
    refine cj_fact (F := Lk N46 [] []) (.nilL N46) ?_
    refine cj_nil N46.R ?_
    obtain ⟨f11, hf11, hm⟩ := bindS hm
    refine cj_range (γ := (SV × List (TItem × SV))) (m := (a1.length : Int)) hf11 (nilS, []) (fun u8 g9 => [(1, s1_.v), (2, .pointer (some ⟨b1, 0, none⟩)), (4, .pointer (some ⟨b2, 0, none⟩)), (5, .int .i64 0), (6, g9.1.v), (17, s1_.v)]) (fun u8 g9 => Sat w0 (keys ([] : List Ent)) A [.box b2 28 [.slice none 0 0, .int .i64 0, .int .i64 0, .int .i64 0, .int .i64 0], .box b1 28 [s0_0_.v, .int .i64 a0.Change, .int .i64 a0.Clap, .int .i64 a0.Break, .int .i64 a0.Half], .ro (Lk N46 a0.Items xg0_0_), .ro (RdS N46.R (SV.v s0_0_) xg0_0_), .ro (RdS R9 (SV.v s1_) a1), .row N46.R (SV.v g9.1) g9.2, .ro (Lk N46 u8 g9.2)]) ⟨rfl, rfl, rfl, rfl, rfl, rfl, rfl, rfl, trivial⟩ (fun _ h => h.picks [2, 2, 2, 2, 2, 0, 0] rfl) (nat_lt _) (fun _ h => (FactAt.get (F := RdS R9 (SV.v s1_) a1) (.ro 6 rfl) h).1) (fun _ _ => ⟨rfl, rfl, rfl, rfl⟩) ⟨rfl, rfl, rfl, rfl, rfl⟩ rfl rfl rfl (fun u8 g9 e => ?_) (fun aftk10 i4 x5 u8 g9 k10 hx6 hs J hJk10 hBk10 hX I cnk10 => ?_)
    · have hm := Flow.fin_b e hm
      refine nj_pure (F := Lk N46 u8 g9.2) (.ro 6 rfl) (fun _ h => h.1) (fun hLu8_K23 => ?_)
      refine nj_seq ?_
      refine cj_seq ?_
      refine cj_reg ?_
      refine lp rfl (p_mv rfl) ?_
      refine lp rfl (p_fab fl28_0 rfl) ?_
      refine r_sb (vs := [g9.1.v]) (j := 1) ty26 rfl rfl rfl rfl rfl rfl rfl ?_
      refine lj_seq ?_
      refine cj_seq ?_
      refine cj_reg ?_
      refine lp rfl (p_lbw ty28 rfl (j := 1) rfl rfl) ?_
      refine r_sb (vs := [g9.1.v, .int .i64 a0.Change, .int .i64 a0.Clap, .int .i64 a0.Break, .int .i64 a0.Half]) (j := 0) ty28 rfl rfl rfl rfl rfl rfl rfl ?_
      refine lp rfl (p_as rfl) ?_
      refine lj_seq ?_
      obtain rfl := Option.some.inj hm
      exact cj_rt (g9.1, g9.2) [5, 5] Tryd.results18 (.agg (k := 0) ty28 rfl rfl rfl (.tmp rfl .nil)) rfl rfl
    · have hRk10 : ∀ t, k10 = .ret t → some t = some r := fun t e => by rw [hX t e] at hm; exact hm
      have hm := hs
      refine cj_pure (F := Lk N46 u8 g9.2) (.ro 6 rfl) (fun _ h => h.1) (fun hLu8_K12 => ?_)
      refine cj_seq ?_
      refine cj_reg ?_
      refine lp rfl (p_mv rfl) ?_
      refine lp rfl (p_idx Tryd.underlying30 ty9 rfl rfl (.ro 4 rfl) (getI_nat.trans hx6)) ?_
      refine lp rfl (p_lde (o := 0) ty9 rfl rfl (.ro 4 rfl) hx6 rfl) ?_
      refine lp rfl (p_as rfl) ?_
      refine lp rfl (p_as rfl) ?_
      refine lj_seq ?_
      refine cj_seq ?_
      refine cj_reg ?_
      refine lp rfl (p_fab fl28_0 rfl) ?_
      refine lp rfl (p_lbs ty26 rfl (j := 1) rfl rfl) ?_
      refine lp rfl (p_mv rfl) ?_
      obtain ⟨y13, hy13, hm⟩ := bindS hm
      refine r_call [] cf41 rfl rfl (ok_gleeref2_ItemAt s0_0_ xg0_0_ a0.Items x5 hy13) rfl rfl (.cons (.ro 2 rfl) (.cons (.ro 3 rfl) .nil)) (fun _ => rfl) rfl (fun _ => ?_)
      refine lp rfl (p_as rfl) ?_
      refine lj_seq ?_
      refine cj_seq ?_
      refine cj_blk ?_
      refine cj_seq ?_
      refine cj_reg ?_
      refine lp rfl (p_mv rfl) ?_
      refine lp rfl (p_lss rfl rfl) ?_
      refine lp rfl (p_as rfl) ?_
      refine lj_seq ?_
      refine cj_if (b := decide (y13 < 0)) rfl (fun hb => ?_) (fun hb => ?_)
      · have hm := ifB_t hb hm
        refine cj_seq ?_
        refine cj_reg ?_
        refine lp rfl (p_bld [.slice none 0 0, .int .i64 0, .int .i64 0, .int .i64 0, .int .i64 0] rfl (fun _ => by kernel_rfl)) ?_
        refine r_sb (vs := [.slice none 0 0, .int .i64 0, .int .i64 0, .int .i64 0, .int .i64 0]) (j := 0) ty28 rfl rfl rfl rfl rfl rfl rfl ?_
        refine lp rfl (p_as rfl) ?_
        refine lj_seq ?_
        have hm := hRk10 _ (Option.some.inj hm).symm
        obtain rfl := Option.some.inj hm
        refine cj_fact (F := Lk N46 [] []) (.nilL N46) ?_
        refine cj_nil N46.R ?_
        exact cj_rt (nilS, []) [0, 0] Tryd.results18 (.agg (k := 2) ty28 rfl rfl rfl (.tmp rfl .nil)) rfl rfl
      · have hm := ifB_f hb hm
        refine cj_seq ?_
        refine cj_reg ?_
        refine lp rfl (p_mv rfl) ?_
        refine lp rfl (p_mv rfl) ?_
        obtain ⟨q15, hq15, hm⟩ := bindS hm
        refine lp rfl (p_cut Tryd.underlying30 ty9 rfl rfl rfl rfl rfl (.ro 4 rfl) rfl rfl hq15) ?_
        refine lp rfl (p_mv rfl) ?_
        obtain ⟨y16, hy16, hm⟩ := bindS hm
        refine r_call [] cf43 rfl rfl (ok_slices_Contains_string_string (s1_.sub R9.sz (0 : Int).toNat (i4 : Int).toNat) q15 x5 hy16) rfl rfl (.cons (.imp (.ro 4 rfl) (fun _ h => h.cut hq15)) .nil) (fun _ => rfl) rfl (fun _ => ?_)
        refine lp rfl (p_as rfl) ?_
        refine lj_seq ?_
        refine cj_if (b := y16) rfl (fun hb => ?_) (fun hb => ?_)
        · have hm := ifB_t hb hm
          refine cj_seq ?_
          refine cj_reg ?_
          refine lp rfl (p_bld [.slice none 0 0, .int .i64 0, .int .i64 0, .int .i64 0, .int .i64 0] rfl (fun _ => by kernel_rfl)) ?_
          refine r_sb (vs := [.slice none 0 0, .int .i64 0, .int .i64 0, .int .i64 0, .int .i64 0]) (j := 0) ty28 rfl rfl rfl rfl rfl rfl rfl ?_
          refine lp rfl (p_as rfl) ?_
          refine lj_seq ?_
          have hm := hRk10 _ (Option.some.inj hm).symm
          obtain rfl := Option.some.inj hm
          refine cj_fact (F := Lk N46 [] []) (.nilL N46) ?_
          refine cj_nil N46.R ?_
          exact cj_rt (nilS, []) [0, 0] Tryd.results18 (.agg (k := 2) ty28 rfl rfl rfl (.tmp rfl .nil)) rfl rfl
        · have hm := ifB_f hb hm
          refine cj_skip ?_
          refine nj_blk ?_
          refine nj_seq ?_
          refine cj_reg ?_
          refine lp rfl (p_mv rfl) ?_
          refine lp rfl (p_fab fl28_0 rfl) ?_
          refine lp rfl (p_lbs ty26 rfl (j := 1) rfl rfl) ?_
          refine lp rfl (p_mv rfl) ?_
          obtain ⟨e18, he18, hm⟩ := bindS hm
          obtain ⟨ge18, he18G⟩ := lk_getI hL0_0_ he18
          refine lp rfl (p_idx Tryd.underlying26 ty46 rfl rfl (.ro 3 rfl) he18G) ?_
          refine lp rfl (p_leaN (cs := [.string e18.Key, .string e18.Places, .int .i64 e18.Long, ge18.v]) ty46 rfl (.ro 3 rfl) (getI_spec he18G).2 rfl) ?_
          refine r_fact (F := Lk N46 [e18] [(e18, ge18)]) (.imp (.and (.imp (.ro 2 rfl) (fun _ h => (Lk.at_ h (getI_spec he18G).2))) (.nilL N46)) (fun _ h => Lk.cons h.1 h.2)) ?_
          have hLs19 : (([(e18, ge18)] : List (TItem × SV)).map Prod.fst) = ([e18] : List TItem) := rfl
          refine r_bs N46.R [(e18, ge18)] rfl rfl rfl (fun _ => by kernel_rfl) rfl (fun s19 => ?_)
          obtain ⟨q20, hq20, hm⟩ := bindS hm
          refine r_fact (F := Lk N46 q20 (g9.2 ++ [(e18, ge18)])) (.imp (.and (.ro 8 rfl) (.ro 1 rfl)) (fun _ h => Lk.app hq20 h.1 h.2)) ?_
          refine r_app (k := 8) Tryd.underlying26 ty46 rfl rfl rfl rfl (.row 1 rfl) (lk_app hq20 hLu8_K12 hLs19) rfl (fun s21 => ?_)
          refine lp rfl (p_as rfl) ?_
          refine lj_nil ?_
          refine nj_blk ?_
          exact cnk10 _ _ q20 (s21, (g9.2 ++ [(e18, ge18)])) (hJk10 _ (Option.some.inj hm).symm) ⟨rfl, rfl, rfl, rfl, rfl, rfl, rfl, rfl, trivial⟩ (fun _ h => h.picks [3, 3, 3, 3, 3, 3, 0] rfl)
theorem ok_gleeref2_SameItem (a0 : TItem) (s0_3_ : SV) (a1 : TItem) (s1_3_ : SV) {r : Bool} (hm : m_gleeref2_SameItem a0 a1 = some r) :
    Ctr Tryd.prog 46 [.agg [.string a0.Key, .string a0.Places, .int .i64 a0.Long, s0_3_.v].toArray, .agg [.string a1.Key, .string a1.Places, .int .i64 a1.Long, s1_3_.v].toArray].toArray ([] : List Ent) [RdS R9 (SV.v s0_3_) a0.Parts, RdS R9 (SV.v s1_3_) a1.Parts] (X := Unit) (fun _ => .bool r) (fun _ => []) := by
  unfold m_gleeref2_SameItem at hm
  refine ctr_mk (vs := [(0, .agg [.string a0.Key, .string a0.Places, .int .i64 a0.Long, s0_3_.v].toArray), (1, .agg [.string a1.Key, .string a1.Places, .int .i64 a1.Long, s1_3_.v].toArray)]) Tryd.func46 rfl Tryd.ntmps46 rfl ⟨rfl, rfl, trivial⟩ (fun w0 A => ?_)
  refine cj_seq ?_
  refine cj_reg ?_
  refine r_bx (cs := [.string a0.Key, .string a0.Places, .int .i64 a0.Long, s0_3_.v]) rfl rfl rfl (fun b1 => ?_)
  refine r_bx (cs := [.string a1.Key, .string a1.Places, .int .i64 a1.Long, s1_3_.v]) rfl rfl rfl (fun b2 => ?_)
  refine lp rfl (p_as rfl) ?_
  refine lj_seq ?_
  refine cj_seq ?_
  refine cj_reg ?_
  refine lp rfl (p_fab fl46_0 rfl) ?_
  refine lp rfl (p_lbs ty9 rfl (j := 1) rfl rfl) ?_
  refine lp rfl (p_fab fl46_0 rfl) ?_
  refine lp rfl (p_lbs ty9 rfl (j := 0) rfl rfl) ?_
  refine lp rfl (p_eqs rfl rfl) ?_
  refine lp rfl (p_mv rfl) ?_
  refine lcase (i := 10) (a0.Key.toList == a1.Key.toList) rfl (fun hb => ?_) (fun hb => ?_)
  · have hm := ifB_t hb hm
    refine lg true rfl rfl rfl ?_
    refine lp rfl (p_fab fl46_1 rfl) ?_
    refine lg true rfl rfl rfl ?_
    refine lp rfl (p_lbs ty9 rfl (j := 1) rfl rfl) ?_
    refine lg true rfl rfl rfl ?_
    refine lp rfl (p_fab fl46_1 rfl) ?_
    refine lg true rfl rfl rfl ?_
    refine lp rfl (p_lbs ty9 rfl (j := 0) rfl rfl) ?_
    refine lg true rfl rfl rfl ?_
    refine lp rfl (p_eqs rfl rfl) ?_
    refine lp rfl (p_pkt rfl rfl) ?_
    refine lp rfl (p_mv rfl) ?_
    refine lcase (i := 17) (a0.Places.toList == a1.Places.toList) rfl (fun hb => ?_) (fun hb => ?_)
    · have hm := ifB_t hb hm
      refine lg true rfl rfl rfl ?_
      refine lp rfl (p_fab fl46_2 rfl) ?_
      refine lg true rfl rfl rfl ?_
      refine lp rfl (p_lbs ty3 rfl (j := 1) rfl rfl) ?_
      refine lg true rfl rfl rfl ?_
      refine lp rfl (p_fab fl46_2 rfl) ?_
      refine lg true rfl rfl rfl ?_
      refine lp rfl (p_lbs ty3 rfl (j := 0) rfl rfl) ?_
      refine lg true rfl rfl rfl ?_
      refine lp rfl (p_eql rfl rfl) ?_
      refine lp rfl (p_pkt rfl rfl) ?_
      refine lp rfl (p_mv rfl) ?_
      refine lcase (i := 24) (a0.Long == a1.Long) rfl (fun hb => ?_) (fun hb => ?_)
      · have hm := ifB_t hb hm
        refine lg true rfl rfl rfl ?_
        refine lp rfl (p_fab fl46_3 rfl) ?_
        refine lg true rfl rfl rfl ?_
        refine lp rfl (p_lbs ty30 rfl (j := 1) rfl rfl) ?_
        refine lg true rfl rfl rfl ?_
        refine lp rfl (p_fab fl46_3 rfl) ?_
        refine lg true rfl rfl rfl ?_
        refine lp rfl (p_lbs ty30 rfl (j := 0) rfl rfl) ?_
        refine lg true rfl rfl rfl ?_
        obtain ⟨y3, hy3, hm⟩ := bindS hm
        refine r_call [] cf12 rfl rfl (ok_slices_Equal_string_string s0_3_ a0.Parts s1_3_ a1.Parts hy3) rfl rfl (.cons (.ro 2 rfl) (.cons (.ro 3 rfl) .nil)) (fun _ => rfl) rfl (fun _ => ?_)
        refine lp rfl (p_pkt rfl rfl) ?_
        refine lp rfl (p_as rfl) ?_
        refine lj_seq ?_
        obtain rfl := Option.some.inj hm
        exact cj_rt () [] Tryd.results46 (.tmp rfl .nil) rfl rfl
      · have hm := ifB_f hb hm
        refine ls true rfl rfl rfl rfl ?_
        refine ls true rfl rfl rfl rfl ?_
        refine ls true rfl rfl rfl rfl ?_
        refine ls true rfl rfl rfl rfl ?_
        refine ls true rfl rfl rfl rfl ?_
        refine lp rfl (p_pkf rfl rfl) ?_
        refine lp rfl (p_as rfl) ?_
        refine lj_seq ?_
        obtain rfl := Option.some.inj hm
        exact cj_rt () [] Tryd.results46 (.tmp rfl .nil) rfl rfl
    · have hm := ifB_f hb hm
      refine ls true rfl rfl rfl rfl ?_
      refine ls true rfl rfl rfl rfl ?_
      refine ls true rfl rfl rfl rfl ?_
      refine ls true rfl rfl rfl rfl ?_
      refine ls true rfl rfl rfl rfl ?_
      refine lp rfl (p_pkf rfl rfl) ?_
      refine lp rfl (p_mv rfl) ?_
      refine ls true rfl rfl rfl rfl ?_
      refine ls true rfl rfl rfl rfl ?_
      refine ls true rfl rfl rfl rfl ?_
      refine ls true rfl rfl rfl rfl ?_
      refine ls true rfl rfl rfl rfl ?_
      refine lp rfl (p_pkf rfl rfl) ?_
      refine lp rfl (p_as rfl) ?_
      refine lj_seq ?_
      obtain rfl := Option.some.inj hm
      exact cj_rt () [] Tryd.results46 (.tmp rfl .nil) rfl rfl
  · have hm := ifB_f hb hm
    refine ls true rfl rfl rfl rfl ?_
    refine ls true rfl rfl rfl rfl ?_
    refine ls true rfl rfl rfl rfl ?_
    refine ls true rfl rfl rfl rfl ?_
    refine ls true rfl rfl rfl rfl ?_
    refine lp rfl (p_pkf rfl rfl) ?_
    refine lp rfl (p_mv rfl) ?_
    refine ls true rfl rfl rfl rfl ?_
    refine ls true rfl rfl rfl rfl ?_
    refine ls true rfl rfl rfl rfl ?_
    refine ls true rfl rfl rfl rfl ?_
    refine ls true rfl rfl rfl rfl ?_
    refine lp rfl (p_pkf rfl rfl) ?_
    refine lp rfl (p_mv rfl) ?_
    refine ls true rfl rfl rfl rfl ?_
    refine ls true rfl rfl rfl rfl ?_
    refine ls true rfl rfl rfl rfl ?_
    refine ls true rfl rfl rfl rfl ?_
    refine ls true rfl rfl rfl rfl ?_
    refine lp rfl (p_pkf rfl rfl) ?_
    refine lp rfl (p_as rfl) ?_
    refine lj_seq ?_
    obtain rfl := Option.some.inj hm
    exact cj_rt () [] Tryd.results46 (.tmp rfl .nil) rfl rfl
theorem ok_slices_EqualFunc_api_Item_api_Item_api_Item_api_Item__gleeref2_SameItem (s0_ : SV) (xg0_ : List (TItem × SV)) (a0 : (List TItem)) (s1_ : SV) (xg1_ : List (TItem × SV)) (a1 : (List TItem)) {r : Bool} (hm : m_slices_EqualFunc_api_Item_api_Item_api_Item_api_Item__gleeref2_SameItem a0 a1 = some r) :
    Ctr Tryd.prog 45 [s0_.v, s1_.v, .func (.func 46) #[] [].toArray].toArray ([] : List Ent) [Lk N46 a0 xg0_, RdS N46.R (SV.v s0_) xg0_, Lk N46 a1 xg1_, RdS N46.R (SV.v s1_) xg1_] (X := Unit) (fun _ => .bool r) (fun _ => []) := by
  unfold m_slices_EqualFunc_api_Item_api_Item_api_Item_api_Item__gleeref2_SameItem at hm
  refine ctr_mk (vs := [(0, s0_.v), (1, s1_.v), (2, .func (.func 46) #[] [].toArray)]) Tryd.func45 rfl Tryd.ntmps45 rfl ⟨rfl, rfl, rfl, trivial⟩ (fun w0 A => ?_)
  refine cj_pure (F := Lk N46 a0 xg0_) (.ro 0 rfl) (fun _ h => h.1) (fun hL0_ => ?_)
  refine cj_pure (F := Lk N46 a1 xg1_) (.ro 2 rfl) (fun _ h => h.1) (fun hL1_ => ?_)
  refine cj_seq ?_
  refine cj_reg ?_
  refine lp rfl (p_as rfl) ?_
  refine lj_seq ?_
  refine cj_seq ?_
  refine cj_seq ?_
  refine cj_reg ?_
  refine lp rfl (p_mv rfl) ?_
  refine lp rfl (p_lenG hL0_ Tryd.underlying26 rfl (.ro 1 rfl)) ?_
  refine lp rfl (p_mv rfl) ?_
  refine lp rfl (p_lenG hL1_ Tryd.underlying26 rfl (.ro 3 rfl)) ?_
  refine lp rfl (p_neq rfl rfl) ?_
  refine lj_seq ?_
  refine cj_if (b := (a0.length : Int) != (a1.length : Int)) rfl (fun hb => ?_) (fun hb => ?_)
  · have hm := ifB_t hb hm
    refine cj_seq ?_
    refine cj_reg ?_
    refine lp rfl (p_as rfl) ?_
    refine lj_seq ?_
    obtain rfl := Option.some.inj hm
    exact cj_rt () [] Tryd.results45 (.tmp rfl .nil) rfl rfl
  · have hm := ifB_f hb hm
    refine cj_skip ?_
    refine nj_seq ?_
    refine cj_seq ?_
    refine cj_seq ?_
    refine cj_reg ?_
    refine lp rfl (p_mv rfl) ?_
    refine lp rfl (p_lenG hL0_ Tryd.underlying26 rfl (.ro 1 rfl)) ?_
    refine lp rfl (p_mv rfl) ?_
    refine lj_seq ?_
    obtain ⟨f7, hf7, hm⟩ := bindS hm
    refine cj_range (γ := Unit) (m := (a0.length : Int)) hf7 () (fun u4 g5 => [(1, s1_.v), (2, .func (.func 46) #[] [].toArray), (6, .bool false), (15, s0_.v)]) (fun u4 g5 => Sat w0 (keys ([] : List Ent)) A [.ro (Lk N46 a0 xg0_), .ro (RdS N46.R (SV.v s0_) xg0_), .ro (Lk N46 a1 xg1_), .ro (RdS N46.R (SV.v s1_) xg1_)]) ⟨rfl, rfl, rfl, rfl, rfl, rfl, trivial⟩ (fun _ h => h.picks [0, 0, 0, 0] rfl) (nat_lt _) (fun _ h => by have h1 := (FactAt.get (F := RdS N46.R (SV.v s0_) xg0_) (.ro 1 rfl) h).1; rw [lk_len hL0_] at h1; exact h1) (fun _ _ => ⟨rfl, rfl, rfl, rfl⟩) ⟨rfl, rfl, rfl, rfl, rfl⟩ rfl rfl rfl (fun u4 g5 e => ?_) (fun aftk6 i1 x2 u4 g5 k6 hx3 hs J hJk6 hBk6 hX I cnk6 => ?_)
    · have hm := Flow.fin_b e hm
      refine nj_seq ?_
      refine cj_seq ?_
      refine cj_reg ?_
      refine lp rfl (p_as rfl) ?_
      refine lj_seq ?_
      obtain rfl := Option.some.inj hm
      exact cj_rt () [] Tryd.results45 (.tmp rfl .nil) rfl rfl
    · have hRk6 : ∀ t, k6 = .ret t → some t = some r := fun t e => by rw [hX t e] at hm; exact hm
      have hm := hs
      refine cj_seq ?_
      refine cj_reg ?_
      refine lp rfl (p_mv rfl) ?_
      obtain ⟨gx2, hx3G⟩ := lk_get hL0_ hx3
      refine lp rfl (p_idx Tryd.underlying26 ty46 rfl rfl (.ro 1 rfl) (getI_nat.trans hx3G)) ?_
      refine lp rfl (p_leaN (cs := [.string x2.Key, .string x2.Places, .int .i64 x2.Long, gx2.v]) ty46 rfl (.ro 1 rfl) hx3G rfl) ?_
      refine r_al ty46 rfl (fun b8 => ?_)
      refine lp rfl (p_as rfl) ?_
      refine r_sb (vs := [.string x2.Key, .string x2.Places, .int .i64 x2.Long, gx2.v]) (j := 0) ty46 rfl rfl rfl rfl rfl rfl rfl ?_
      refine lj_seq ?_
      refine cj_seq ?_
      refine cj_reg ?_
      refine lp rfl (p_mv rfl) ?_
      refine lp rfl (p_mv rfl) ?_
      obtain ⟨e9, he9, hm⟩ := bindS hm
      obtain ⟨ge9, he9G⟩ := lk_getI hL1_ he9
      refine lp rfl (p_idx Tryd.underlying26 ty46 rfl rfl (.ro 4 rfl) he9G) ?_
      refine lp rfl (p_leaN (cs := [.string e9.Key, .string e9.Places, .int .i64 e9.Long, ge9.v]) ty46 rfl (.ro 4 rfl) (getI_spec he9G).2 rfl) ?_
      refine r_al ty46 rfl (fun b10 => ?_)
      refine r_sb (vs := [.string e9.Key, .string e9.Places, .int .i64 e9.Long, ge9.v]) (j := 0) ty46 rfl rfl rfl rfl rfl rfl rfl ?_
      refine lj_seq ?_
      refine cj_seq ?_
      refine cj_reg ?_
      refine lp rfl (p_mv rfl) ?_
      refine lp rfl (p_lbw ty46 rfl (j := 1) rfl rfl) ?_
      refine lp rfl (p_lbw ty46 rfl (j := 0) rfl rfl) ?_
      obtain ⟨y11, hy11, hm⟩ := bindS hm
      refine r_call [] cf46 rfl rfl (ok_gleeref2_SameItem x2 gx2 e9 ge9 hy11) rfl rfl (.cons (.imp (.ro 2 rfl) (fun _ h => (Lk.at_ h hx3G))) (.cons (.imp (.ro 4 rfl) (fun _ h => (Lk.at_ h (getI_spec he9G).2))) .nil)) (fun _ => rfl) rfl (fun _ => ?_)
      refine lp rfl (p_not rfl) ?_
      refine lj_seq ?_
      refine cj_if (b := !y11) rfl (fun hb => ?_) (fun hb => ?_)
      · have hm := ifB_t hb hm
        refine cj_seq ?_
        refine cj_reg ?_
        refine lp rfl (p_as rfl) ?_
        refine lj_seq ?_
        have hm := hRk6 _ (Option.some.inj hm).symm
        obtain rfl := Option.some.inj hm
        exact cj_rt () [] Tryd.results45 (.tmp rfl .nil) rfl rfl
      · have hm := ifB_f hb hm
        refine cj_skip ?_
        refine nj_blk ?_
        exact cnk6 _ _ () () (hJk6 _ (Option.some.inj hm).symm) ⟨rfl, rfl, rfl, rfl, rfl, rfl, trivial⟩ (fun _ h => h.picks [2, 2, 2, 2] rfl)
theorem ok_gleeref2_SameProgram (a0 : TProgram) (s0_0_ : SV) (xg0_0_ : List (TItem × SV)) (a1 : TProgram) (s1_0_ : SV) (xg1_0_ : List (TItem × SV)) {r : Bool} (hm : m_gleeref2_SameProgram a0 a1 = some r) :
    Ctr Tryd.prog 19 [.agg [s0_0_.v, .int .i64 a0.Change, .int .i64 a0.Clap, .int .i64 a0.Break, .int .i64 a0.Half].toArray, .agg [s1_0_.v, .int .i64 a1.Change, .int .i64 a1.Clap, .int .i64 a1.Break, .int .i64 a1.Half].toArray].toArray ([] : List Ent) [Lk N46 a0.Items xg0_0_, RdS N46.R (SV.v s0_0_) xg0_0_, Lk N46 a1.Items xg1_0_, RdS N46.R (SV.v s1_0_) xg1_0_] (X := Unit) (fun _ => .bool r) (fun _ => []) := by
  unfold m_gleeref2_SameProgram at hm
  refine ctr_mk (vs := [(0, .agg [s0_0_.v, .int .i64 a0.Change, .int .i64 a0.Clap, .int .i64 a0.Break, .int .i64 a0.Half].toArray), (1, .agg [s1_0_.v, .int .i64 a1.Change, .int .i64 a1.Clap, .int .i64 a1.Break, .int .i64 a1.Half].toArray)]) Tryd.func19 rfl Tryd.ntmps19 rfl ⟨rfl, rfl, trivial⟩ (fun w0 A => ?_)
  refine cj_pure (F := Lk N46 a0.Items xg0_0_) (.ro 0 rfl) (fun _ h => h.1) (fun hL0_0_ => ?_)
  refine cj_pure (F := Lk N46 a1.Items xg1_0_) (.ro 2 rfl) (fun _ h => h.1) (fun hL1_0_ => ?_)
  refine cj_seq ?_
  refine cj_reg ?_
  refine r_bx (cs := [s0_0_.v, .int .i64 a0.Change, .int .i64 a0.Clap, .int .i64 a0.Break, .int .i64 a0.Half]) rfl rfl rfl (fun b1 => ?_)
  refine r_bx (cs := [s1_0_.v, .int .i64 a1.Change, .int .i64 a1.Clap, .int .i64 a1.Break, .int .i64 a1.Half]) rfl rfl rfl (fun b2 => ?_)
  refine lp rfl (p_as rfl) ?_
  refine lj_seq ?_
  refine cj_seq ?_
  refine cj_reg ?_
  refine lp rfl (p_fab fl28_1 rfl) ?_
  refine lp rfl (p_lbs ty3 rfl (j := 1) rfl rfl) ?_
  refine lp rfl (p_fab fl28_1 rfl) ?_
  refine lp rfl (p_lbs ty3 rfl (j := 0) rfl rfl) ?_
  refine lp rfl (p_eql rfl rfl) ?_
  refine lp rfl (p_mv rfl) ?_
  refine lcase (i := 10) (a0.Change == a1.Change) rfl (fun hb => ?_) (fun hb => ?_)
  · have hm := ifB_t hb hm
    refine lg true rfl rfl rfl ?_
    refine lp rfl (p_fab fl28_2 rfl) ?_
    refine lg true rfl rfl rfl ?_
    refine lp rfl (p_lbs ty3 rfl (j := 1) rfl rfl) ?_
    refine lg true rfl rfl rfl ?_
    refine lp rfl (p_fab fl28_2 rfl) ?_
    refine lg true rfl rfl rfl ?_
    refine lp rfl (p_lbs ty3 rfl (j := 0) rfl rfl) ?_
    refine lg true rfl rfl rfl ?_
    refine lp rfl (p_eql rfl rfl) ?_
    refine lp rfl (p_pkt rfl rfl) ?_
    refine lp rfl (p_mv rfl) ?_
    refine lcase (i := 17) (a0.Clap == a1.Clap) rfl (fun hb => ?_) (fun hb => ?_)
    · have hm := ifB_t hb hm
      refine lg true rfl rfl rfl ?_
      refine lp rfl (p_fab fl28_3 rfl) ?_
      refine lg true rfl rfl rfl ?_
      refine lp rfl (p_lbs ty3 rfl (j := 1) rfl rfl) ?_
      refine lg true rfl rfl rfl ?_
      refine lp rfl (p_fab fl28_3 rfl) ?_
      refine lg true rfl rfl rfl ?_
      refine lp rfl (p_lbs ty3 rfl (j := 0) rfl rfl) ?_
      refine lg true rfl rfl rfl ?_
      refine lp rfl (p_eql rfl rfl) ?_
      refine lp rfl (p_pkt rfl rfl) ?_
      refine lp rfl (p_mv rfl) ?_
      refine lcase (i := 24) (a0.Break == a1.Break) rfl (fun hb => ?_) (fun hb => ?_)
      · have hm := ifB_t hb hm
        refine lg true rfl rfl rfl ?_
        refine lp rfl (p_fab fl28_4 rfl) ?_
        refine lg true rfl rfl rfl ?_
        refine lp rfl (p_lbs ty3 rfl (j := 1) rfl rfl) ?_
        refine lg true rfl rfl rfl ?_
        refine lp rfl (p_fab fl28_4 rfl) ?_
        refine lg true rfl rfl rfl ?_
        refine lp rfl (p_lbs ty3 rfl (j := 0) rfl rfl) ?_
        refine lg true rfl rfl rfl ?_
        refine lp rfl (p_eql rfl rfl) ?_
        refine lp rfl (p_pkt rfl rfl) ?_
        refine lp rfl (p_mv rfl) ?_
        refine lcase (i := 31) (a0.Half == a1.Half) rfl (fun hb => ?_) (fun hb => ?_)
        · have hm := ifB_t hb hm
          refine lg true rfl rfl rfl ?_
          refine lp rfl (p_fab fl28_0 rfl) ?_
          refine lg true rfl rfl rfl ?_
          refine lp rfl (p_lbs ty26 rfl (j := 1) rfl rfl) ?_
          refine lg true rfl rfl rfl ?_
          refine lp rfl (p_fab fl28_0 rfl) ?_
          refine lg true rfl rfl rfl ?_
          refine lp rfl (p_lbs ty26 rfl (j := 0) rfl rfl) ?_
          refine lg true rfl rfl rfl ?_
          obtain ⟨y3, hy3, hm⟩ := bindS hm
          refine r_call [] cf45 rfl rfl (ok_slices_EqualFunc_api_Item_api_Item_api_Item_api_Item__gleeref2_SameItem s0_0_ xg0_0_ a0.Items s1_0_ xg1_0_ a1.Items hy3) rfl rfl (.cons (.ro 2 rfl) (.cons (.ro 3 rfl) (.cons (.ro 4 rfl) (.cons (.ro 5 rfl) .nil)))) (fun _ => rfl) rfl (fun _ => ?_)
          refine lp rfl (p_pkt rfl rfl) ?_
          refine lp rfl (p_as rfl) ?_
          refine lj_seq ?_
          obtain rfl := Option.some.inj hm
          exact cj_rt () [] Tryd.results19 (.tmp rfl .nil) rfl rfl
        · have hm := ifB_f hb hm
          refine ls true rfl rfl rfl rfl ?_
          refine ls true rfl rfl rfl rfl ?_
          refine ls true rfl rfl rfl rfl ?_
          refine ls true rfl rfl rfl rfl ?_
          refine ls true rfl rfl rfl rfl ?_
          refine lp rfl (p_pkf rfl rfl) ?_
          refine lp rfl (p_as rfl) ?_
          refine lj_seq ?_
          obtain rfl := Option.some.inj hm
          exact cj_rt () [] Tryd.results19 (.tmp rfl .nil) rfl rfl
      · have hm := ifB_f hb hm
        refine ls true rfl rfl rfl rfl ?_
        refine ls true rfl rfl rfl rfl ?_
        refine ls true rfl rfl rfl rfl ?_
        refine ls true rfl rfl rfl rfl ?_
        refine ls true rfl rfl rfl rfl ?_
        refine lp rfl (p_pkf rfl rfl) ?_
        refine lp rfl (p_mv rfl) ?_
        refine ls true rfl rfl rfl rfl ?_
        refine ls true rfl rfl rfl rfl ?_
        refine ls true rfl rfl rfl rfl ?_
        refine ls true rfl rfl rfl rfl ?_
        refine ls true rfl rfl rfl rfl ?_
        refine lp rfl (p_pkf rfl rfl) ?_
        refine lp rfl (p_as rfl) ?_
        refine lj_seq ?_
        obtain rfl := Option.some.inj hm
        exact cj_rt () [] Tryd.results19 (.tmp rfl .nil) rfl rfl
    · have hm := ifB_f hb hm
      refine ls true rfl rfl rfl rfl ?_
      refine ls true rfl rfl rfl rfl ?_
      refine ls true rfl rfl rfl rfl ?_
      refine ls true rfl rfl rfl rfl ?_
      refine ls true rfl rfl rfl rfl ?_
      refine lp rfl (p_pkf rfl rfl) ?_
      refine lp rfl (p_mv rfl) ?_
      refine ls true rfl rfl rfl rfl ?_
      refine ls true rfl rfl rfl rfl ?_
      refine ls true rfl rfl rfl rfl ?_
      refine ls true rfl rfl rfl rfl ?_
      refine ls true rfl rfl rfl rfl ?_
      refine lp rfl (p_pkf rfl rfl) ?_
      refine lp rfl (p_mv rfl) ?_
      refine ls true rfl rfl rfl rfl ?_
      refine ls true rfl rfl rfl rfl ?_
      refine ls true rfl rfl rfl rfl ?_
      refine ls true rfl rfl rfl rfl ?_
      refine ls true rfl rfl rfl rfl ?_
      refine lp rfl (p_pkf rfl rfl) ?_
      refine lp rfl (p_as rfl) ?_
      refine lj_seq ?_
      obtain rfl := Option.some.inj hm
      exact cj_rt () [] Tryd.results19 (.tmp rfl .nil) rfl rfl
  · have hm := ifB_f hb hm
    refine ls true rfl rfl rfl rfl ?_
    refine ls true rfl rfl rfl rfl ?_
    refine ls true rfl rfl rfl rfl ?_
    refine ls true rfl rfl rfl rfl ?_
    refine ls true rfl rfl rfl rfl ?_
    refine lp rfl (p_pkf rfl rfl) ?_
    refine lp rfl (p_mv rfl) ?_
    refine ls true rfl rfl rfl rfl ?_
    refine ls true rfl rfl rfl rfl ?_
    refine ls true rfl rfl rfl rfl ?_
    refine ls true rfl rfl rfl rfl ?_
    refine ls true rfl rfl rfl rfl ?_
    refine lp rfl (p_pkf rfl rfl) ?_
    refine lp rfl (p_mv rfl) ?_
    refine ls true rfl rfl rfl rfl ?_
    refine ls true rfl rfl rfl rfl ?_
    refine ls true rfl rfl rfl rfl ?_
    refine ls true rfl rfl rfl rfl ?_
    refine ls true rfl rfl rfl rfl ?_
    refine lp rfl (p_pkf rfl rfl) ?_
    refine lp rfl (p_mv rfl) ?_
    refine ls true rfl rfl rfl rfl ?_
    refine ls true rfl rfl rfl rfl ?_
    refine ls true rfl rfl rfl rfl ?_
    refine ls true rfl rfl rfl rfl ?_
    refine ls true rfl rfl rfl rfl ?_
    refine lp rfl (p_pkf rfl rfl) ?_
    refine lp rfl (p_as rfl) ?_
    refine lj_seq ?_
    obtain rfl := Option.some.inj hm
    exact cj_rt () [] Tryd.results19 (.tmp rfl .nil) rfl rfl
theorem ok_concert_Long (a0 : TProgram) (s0_0_ : SV) (xg0_0_ : List (TItem × SV)) {r : Int × Int} (hm : m_concert_Long a0 = some r) :
    Ctr Tryd.prog 47 [.agg [s0_0_.v, .int .i64 a0.Change, .int .i64 a0.Clap, .int .i64 a0.Break, .int .i64 a0.Half].toArray].toArray ([] : List Ent) [Lk N46 a0.Items xg0_0_, RdS N46.R (SV.v s0_0_) xg0_0_] (X := Unit) (fun _ => .tuple [.int .i64 r.1, .int .i64 r.2].toArray) (fun _ => []) := by
  unfold m_concert_Long at hm
  refine ctr_mk (vs := [(0, .agg [s0_0_.v, .int .i64 a0.Change, .int .i64 a0.Clap, .int .i64 a0.Break, .int .i64 a0.Half].toArray)]) Tryd.func47 rfl Tryd.ntmps47 rfl ⟨rfl, trivial⟩ (fun w0 A => ?_)
  refine cj_pure (F := Lk N46 a0.Items xg0_0_) (.ro 0 rfl) (fun _ h => h.1) (fun hL0_0_ => ?_)
  refine cj_seq ?_
  refine cj_reg ?_
  refine r_bx (cs := [s0_0_.v, .int .i64 a0.Change, .int .i64 a0.Clap, .int .i64 a0.Break, .int .i64 a0.Half]) rfl rfl rfl (fun b1 => ?_)
  refine lp rfl (p_as rfl) ?_
  refine lp rfl (p_as rfl) ?_
  refine lj_seq ?_
  refine cj_seq ?_
  refine cj_seq ?_
  refine cj_reg ?_
  refine lp rfl (p_lbw ty28 rfl (j := 0) rfl rfl) ?_
  obtain ⟨y2, hy2, hm⟩ := bindS hm
  refine r_call [] cf25 rfl rfl (ok_concert_CheckProgram a0 s0_0_ xg0_0_ hy2) rfl rfl (.cons (.ro 1 rfl) (.cons (.ro 2 rfl) .nil)) (fun _ => rfl) rfl (fun _ => ?_)
  refine lp rfl (p_as rfl) ?_
  refine lj_seq ?_
  refine cj_seq ?_
  refine cj_reg ?_
  refine lp rfl (p_mv rfl) ?_
  refine lp rfl (p_neq rfl rfl) ?_
  refine lj_seq ?_
  refine cj_if (b := y2 != 0) rfl (fun hb => ?_) (fun hb => ?_)
  · have hm := ifB_t hb hm
    refine cj_seq ?_
    refine cj_reg ?_
    refine lp rfl (p_mv rfl) ?_
    refine lp rfl (p_as rfl) ?_
    refine lp rfl (p_as rfl) ?_
    refine lj_seq ?_
    obtain rfl := Option.some.inj hm
    exact cj_rt () [] Tryd.results47 (.tmp rfl (.tmp rfl .nil)) rfl rfl
  · have hm := ifB_f hb hm
    refine cj_skip ?_
    refine nj_seq ?_
    refine cj_seq ?_
    refine cj_reg ?_
    refine lp rfl (p_lbw ty28 rfl (j := 0) rfl rfl) ?_
    obtain ⟨y3, hy3, hm⟩ := bindS hm
    refine r_call [] cf52 rfl rfl (ok_concert_begins a0 s0_0_ xg0_0_ hy3) rfl rfl (.cons (.ro 1 rfl) (.cons (.ro 2 rfl) .nil)) (fun _ => rfl) rfl (fun s4 => ?_)
    refine lp rfl (p_mv rfl) ?_
    refine lp rfl (p_ext rfl rfl) ?_
    refine lp rfl (p_ext rfl rfl) ?_
    refine lp rfl (p_as rfl) ?_
    refine lp rfl (p_as rfl) ?_
    refine lj_seq ?_
    refine cj_seq ?_
    refine cj_reg ?_
    refine lp rfl (p_mv rfl) ?_
    refine lp rfl (p_as rfl) ?_
    refine lp rfl (p_as rfl) ?_
    refine lj_seq ?_
    obtain rfl := Option.some.inj hm
    exact cj_rt () [] Tryd.results47 (.tmp rfl (.tmp rfl .nil)) rfl rfl
theorem ok_gleelaw2_sung  {r : Bool} (hm : m_gleelaw2_sung  = some r) :
    Ctr Tryd.prog 20 [].toArray ([] : List Ent) [] (X := Unit) (fun _ => .bool r) (fun _ => []) := by
  unfold m_gleelaw2_sung at hm
  refine ctr_mk (vs := []) Tryd.func20 rfl Tryd.ntmps20 rfl trivial (fun w0 A => ?_)
  refine cj_seq ?_
  refine cj_reg ?_
  refine lp rfl (p_as rfl) ?_
  refine lj_seq ?_
  refine cj_seq ?_
  refine cj_reg ?_
  refine r_bs R9 [(ByteArray.mk [97, 108, 116, 111].toArray)] rfl rfl rfl (fun _ => by kernel_rfl) rfl (fun s1 => ?_)
  refine lp rfl (p_bld [.string (ByteArray.mk [97].toArray), .string (ByteArray.mk [112].toArray), .int .i64 7, s1.v] rfl (fun _ => by kernel_rfl)) ?_
  refine r_fz 0 rfl ?_
  refine r_fact (F := Lk N46 [(TItem.mk (ByteArray.mk [97].toArray) (ByteArray.mk [112].toArray) 7 [(ByteArray.mk [97, 108, 116, 111].toArray)])] [((TItem.mk (ByteArray.mk [97].toArray) (ByteArray.mk [112].toArray) 7 [(ByteArray.mk [97, 108, 116, 111].toArray)]), s1)]) (.imp (.and (.ro 0 rfl) (.nilL N46)) (fun _ h => Lk.cons h.1 h.2)) ?_
  have hLs2 : (([((TItem.mk (ByteArray.mk [97].toArray) (ByteArray.mk [112].toArray) 7 [(ByteArray.mk [97, 108, 116, 111].toArray)]), s1)] : List (TItem × SV)).map Prod.fst) = ([(TItem.mk (ByteArray.mk [97].toArray) (ByteArray.mk [112].toArray) 7 [(ByteArray.mk [97, 108, 116, 111].toArray)])] : List TItem) := rfl
  refine r_bs N46.R [((TItem.mk (ByteArray.mk [97].toArray) (ByteArray.mk [112].toArray) 7 [(ByteArray.mk [97, 108, 116, 111].toArray)]), s1)] rfl rfl rfl (fun _ => by kernel_rfl) rfl (fun s2 => ?_)
  refine lp rfl (p_bld [s2.v, .int .i64 0, .int .i64 0, .int .i64 0, .int .i64 (-1)] rfl (fun _ => by kernel_rfl)) ?_
  obtain ⟨y3, hy3, hm⟩ := bindS hm
  refine r_call [] cf47 rfl rfl (ok_concert_Long (TProgram.mk [(TItem.mk (ByteArray.mk [97].toArray) (ByteArray.mk [112].toArray) 7 [(ByteArray.mk [97, 108, 116, 111].toArray)])] 0 0 0 (-1)) s2 [((TItem.mk (ByteArray.mk [97].toArray) (ByteArray.mk [112].toArray) 7 [(ByteArray.mk [97, 108, 116, 111].toArray)]), s1)] hy3) rfl rfl (.cons (.ro 1 rfl) (.cons (.row 0 rfl) .nil)) (fun _ => rfl) rfl (fun _ => ?_)
  refine lp rfl (p_mv rfl) ?_
  refine lp rfl (p_ext rfl rfl) ?_
  refine lp rfl (p_ext rfl rfl) ?_
  refine lp rfl (p_as rfl) ?_
  refine lp rfl (p_as rfl) ?_
  refine lj_seq ?_
  refine cj_seq ?_
  refine cj_reg ?_
  refine lp rfl (p_mv rfl) ?_
  refine lp rfl (p_eql rfl rfl) ?_
  refine lp rfl (p_mv rfl) ?_
  refine lcase (i := 13) (y3.2 == 0) rfl (fun hb => ?_) (fun hb => ?_)
  · have hm := ifB_t hb hm
    refine lg true rfl rfl rfl ?_
    refine lp rfl (p_mv rfl) ?_
    refine lg true rfl rfl rfl ?_
    refine lp rfl (p_eql rfl rfl) ?_
    refine lp rfl (p_pkt rfl rfl) ?_
    refine lp rfl (p_as rfl) ?_
    refine lj_seq ?_
    obtain rfl := Option.some.inj hm
    exact cj_rt () [] Tryd.results20 (.tmp rfl .nil) rfl rfl
  · have hm := ifB_f hb hm
    refine ls true rfl rfl rfl rfl ?_
    refine ls true rfl rfl rfl rfl ?_
    refine lp rfl (p_pkf rfl rfl) ?_
    refine lp rfl (p_as rfl) ?_
    refine lj_seq ?_
    obtain rfl := Option.some.inj hm
    exact cj_rt () [] Tryd.results20 (.tmp rfl .nil) rfl rfl
theorem ok_gleelaw2_ConcertsOrdered (s0_ : SV) (a0 : (List Int)) {r : Bool} (hm : m_gleelaw2_ConcertsOrdered a0 = some r) :
    Ctr Tryd.prog 3 [s0_.v].toArray ([] : List Ent) [RdS R3 (SV.v s0_) a0] (X := Unit) (fun _ => .bool r) (fun _ => []) := by
  unfold m_gleelaw2_ConcertsOrdered at hm
  refine ctr_mk (vs := [(0, s0_.v)]) Tryd.func3 rfl Tryd.ntmps3 rfl ⟨rfl, trivial⟩ (fun w0 A => ?_)
  refine cj_seq ?_
  refine cj_reg ?_
  refine lp rfl (p_as rfl) ?_
  refine lj_seq ?_
  refine cj_seq ?_
  refine cj_reg ?_
  refine lp rfl (p_mv rfl) ?_
  refine lp rfl (p_bld [s0_.v, .int .i64 0] rfl (fun _ => by kernel_rfl)) ?_
  refine r_bx (cs := [s0_.v, .int .i64 0]) rfl rfl rfl (fun b1 => ?_)
  refine lp rfl (p_as rfl) ?_
  refine lj_seq ?_
  refine cj_seq ?_
  refine cj_reg ?_
  refine lp rfl (p_mv rfl) ?_
  obtain ⟨y2, hy2, hm⟩ := bindS hm
  refine r_callN [0] cf4 rfl rfl (ok_gleemake_Stream_AProgram b1 s0_ a0 0 5 hy2) rfl rfl (.cons (.ro 0 rfl) .nil) rfl (fun ⟨s3, xg4⟩ => ?_)
  refine r_pure (F := Lk N46 y2.1.Items xg4) (.ro 1 rfl) (fun _ h => h.1) (fun hLs3 => ?_)
  refine r_al ty28 rfl (fun b5 => ?_)
  refine r_sb (vs := [s3.v, .int .i64 y2.1.Change, .int .i64 y2.1.Clap, .int .i64 y2.1.Break, .int .i64 y2.1.Half]) (j := 0) ty28 rfl rfl rfl rfl rfl rfl rfl ?_
  refine lj_seq ?_
  refine cj_seq ?_
  refine cj_reg ?_
  refine lp rfl (p_lbw ty28 rfl (j := 0) rfl rfl) ?_
  obtain ⟨y6, hy6, hm⟩ := bindS hm
  refine r_call [] cf5 rfl rfl (ok_concert_Order y2.1 s3 xg4 hy6) rfl rfl (.cons (.ro 2 rfl) (.cons (.row 1 rfl) .nil)) (fun _ => rfl) rfl (fun s7 => ?_)
  refine lp rfl (p_mv rfl) ?_
  refine lp rfl (p_ext rfl rfl) ?_
  refine lp rfl (p_ext rfl rfl) ?_
  refine lp rfl (p_ext rfl rfl) ?_
  refine lp rfl (p_as rfl) ?_
  refine lp rfl (p_as rfl) ?_
  refine lp rfl (p_as rfl) ?_
  refine lj_seq ?_
  refine cj_seq ?_
  refine cj_reg ?_
  refine lp rfl (p_lbw ty28 rfl (j := 1) rfl rfl) ?_
  obtain ⟨y8, hy8, hm⟩ := bindS hm
  refine r_call [] cf6 rfl rfl (ok_concert_Half y2.1 s3 xg4 hy8) rfl rfl (.cons (.ro 3 rfl) (.cons (.row 2 rfl) .nil)) (fun _ => rfl) rfl (fun _ => ?_)
  refine lp rfl (p_mv rfl) ?_
  refine lp rfl (p_ext rfl rfl) ?_
  refine lp rfl (p_ext rfl rfl) ?_
  refine lp rfl (p_ext rfl rfl) ?_
  refine lp rfl (p_as rfl) ?_
  refine lp rfl (p_as rfl) ?_
  refine lp rfl (p_as rfl) ?_
  refine lj_seq ?_
  refine cj_seq ?_
  refine cj_reg ?_
  refine lp rfl (p_lbw ty28 rfl (j := 1) rfl rfl) ?_
  obtain ⟨y9, hy9, hm⟩ := bindS hm
  refine r_call [] cf7 rfl rfl (ok_gleeref2_ProgramFault y2.1 s3 xg4 hy9) rfl rfl (.cons (.ro 3 rfl) (.cons (.row 2 rfl) .nil)) (fun _ => rfl) rfl (fun _ => ?_)
  refine lp rfl (p_as rfl) ?_
  refine lj_seq ?_
  refine cj_seq ?_
  obtain ⟨y10, hy10, hm⟩ := bindS hm
  obtain ⟨y12, hy12, hm⟩ := bindS hm
  obtain ⟨y13, hy13, hm⟩ := bindS hm
  obtain ⟨y15, hy15, hm⟩ := bindS hm
  refine cj_anyT [0, 1, 2, 3, 4, 8, 9, 10, 11, 12, 16, 17] [] (Sat w0 (keys ([] : List Ent)) A [.row R9 (SV.v s7) y6.1, .box b5 28 [s3.v, .int .i64 y2.1.Change, .int .i64 y2.1.Clap, .int .i64 y2.1.Break, .int .i64 y2.1.Half], .row N46.R (SV.v s3) xg4, .ro (Lk N46 y2.1.Items xg4), .box b1 25 [s0_.v, .int .i64 y2.2], .ro (RdS R3 (SV.v s0_) a0)]) (Sat w0 (keys ([] : List Ent)) A [.row R9 (SV.v s7) y6.1, .box b5 28 [s3.v, .int .i64 y2.1.Change, .int .i64 y2.1.Clap, .int .i64 y2.1.Break, .int .i64 y2.1.Half], .row N46.R (SV.v s3) xg4, .ro (Lk N46 y2.1.Items xg4), .box b1 25 [s0_.v, .int .i64 y2.2], .ro (RdS R3 (SV.v s0_) a0)]) (by kernel_rfl) ?_
  refine at_take2 0 rfl (by kernel_rfl) (by kernel_rfl) (by kernel_rfl) (fun _ h => h.picks [0, 0, 0, 0, 0, 0] rfl) rfl rfl (p_mv rfl) (fun _ h => h.picks [0, 0, 0, 0, 0, 0] rfl) ?_
  refine at_take2 1 rfl (by kernel_rfl) (by kernel_rfl) (by kernel_rfl) (fun _ h => h.picks [0, 0, 0, 0, 0, 0] rfl) rfl rfl (p_fab fl28_0 rfl) (fun _ h => h.picks [0, 0, 0, 0, 0, 0] rfl) ?_
  refine at_take2 2 rfl (by kernel_rfl) (by kernel_rfl) (by kernel_rfl) (fun _ h => h.picks [0, 0, 0, 0, 0, 0] rfl) rfl rfl (p_lbs ty26 rfl (j := 1) rfl rfl) (fun _ h => h.picks [0, 0, 0, 0, 0, 0] rfl) ?_
  refine at_take2 3 rfl (by kernel_rfl) (by kernel_rfl) (by kernel_rfl) (fun _ h => h.picks [0, 0, 0, 0, 0, 0] rfl) rfl rfl (p_lenG hLs3 Tryd.underlying26 rfl (.row 2 rfl)) (fun _ h => h.picks [0, 0, 0, 0, 0, 0] rfl) ?_
  refine at_take2 4 rfl (by kernel_rfl) (by kernel_rfl) (by kernel_rfl) (fun _ h => h.picks [0, 0, 0, 0, 0, 0] rfl) rfl rfl (p_gtr rfl rfl) (fun _ h => h.picks [0, 0, 0, 0, 0, 0] rfl) ?_
  refine at_take2 8 rfl (by kernel_rfl) (by kernel_rfl) (by kernel_rfl) (fun _ h => h.picks [0, 0, 0, 0, 0, 0] rfl) rfl rfl (p_mv rfl) (fun _ h => h.picks [0, 0, 0, 0, 0, 0] rfl) ?_
  refine at_take2 9 rfl (by kernel_rfl) (by kernel_rfl) (by kernel_rfl) (fun _ h => h.picks [0, 0, 0, 0, 0, 0] rfl) rfl rfl (p_fab fl28_0 rfl) (fun _ h => h.picks [0, 0, 0, 0, 0, 0] rfl) ?_
  refine at_take2 10 rfl (by kernel_rfl) (by kernel_rfl) (by kernel_rfl) (fun _ h => h.picks [0, 0, 0, 0, 0, 0] rfl) rfl rfl (p_lbs ty26 rfl (j := 1) rfl rfl) (fun _ h => h.picks [0, 0, 0, 0, 0, 0] rfl) ?_
  refine at_take2 11 rfl (by kernel_rfl) (by kernel_rfl) (by kernel_rfl) (fun _ h => h.picks [0, 0, 0, 0, 0, 0] rfl) rfl rfl (p_lenG hLs3 Tryd.underlying26 rfl (.row 2 rfl)) (fun _ h => h.picks [0, 0, 0, 0, 0, 0] rfl) ?_
  refine at_take2 12 rfl (by kernel_rfl) (by kernel_rfl) (by kernel_rfl) (fun _ h => h.picks [0, 0, 0, 0, 0, 0] rfl) rfl rfl (p_lss rfl rfl) (fun _ h => h.picks [0, 0, 0, 0, 0, 0] rfl) ?_
  refine at_each (rs := [5]) (by kernel_rfl) (by decide) ?_
  refine (.cons rfl (fun I cnI => ?_) .nil)
  · refine r_call [] cf9 rfl rfl (ok_gleelaw2_when (decide ((y2.1.Items.length : Int) > 7)) 2 hy10) rfl rfl .nil (fun _ => rfl) rfl (fun _ => ?_)
    refine lj_nil ?_
    refine cnI _ _ (sof1 rfl rfl (fun _ h => h.picks [0, 0, 0, 0, 0, 0] rfl)) ?_
    refine at_each (rs := [6]) (by kernel_rfl) (by decide) ?_
    refine (.cons rfl (fun I cnI => ?_) .nil)
    · refine r_bs R31 [y9, y10] rfl rfl rfl (fun _ => by kernel_rfl) rfl (fun s75 => ?_)
      refine lj_nil ?_
      refine cnI _ _ (sof1 rfl rfl (fun _ h => h.picks [1, 1, 1, 1, 1, 1] rfl)) ?_
      refine at_each (rs := [7]) (by kernel_rfl) (by decide) ?_
      refine (.cons rfl (fun I cnI => ?_) .nil)
      · refine r_call [] cf8 rfl rfl (ok_gleelaw2_errs s75 [y9, y10] hy12) rfl rfl (.cons (.row 0 rfl) .nil) (fun _ => rfl) rfl (fun _ => ?_)
        refine lj_nil ?_
        refine cnI _ _ (sof1 rfl rfl (fun _ h => h.picks [1, 1, 1, 1, 1, 1] rfl)) ?_
        refine at_each (rs := [13]) (by kernel_rfl) (by decide) ?_
        refine (.cons rfl (fun I cnI => ?_) .nil)
        · refine r_call [] cf9 rfl rfl (ok_gleelaw2_when (decide ((y2.1.Items.length : Int) < 2)) 8 hy13) rfl rfl .nil (fun _ => rfl) rfl (fun _ => ?_)
          refine lj_nil ?_
          refine cnI _ _ (sof1 rfl rfl (fun _ h => h.picks [1, 1, 1, 1, 1, 1] rfl)) ?_
          refine at_each (rs := [14]) (by kernel_rfl) (by decide) ?_
          refine (.cons rfl (fun I cnI => ?_) .nil)
          · refine r_bs R31 [y9, y13] rfl rfl rfl (fun _ => by kernel_rfl) rfl (fun s76 => ?_)
            refine lj_nil ?_
            refine cnI _ _ (sof1 rfl rfl (fun _ h => h.picks [2, 2, 2, 2, 2, 2] rfl)) ?_
            refine at_each (rs := [15]) (by kernel_rfl) (by decide) ?_
            refine (.cons rfl (fun I cnI => ?_) .nil)
            · refine r_call [] cf8 rfl rfl (ok_gleelaw2_errs s76 [y9, y13] hy15) rfl rfl (.cons (.row 0 rfl) .nil) (fun _ => rfl) rfl (fun _ => ?_)
              refine lj_nil ?_
              refine cnI _ _ (sof1 rfl rfl (fun _ h => h.picks [2, 2, 2, 2, 2, 2] rfl)) ?_
              refine at_take2 16 rfl (by kernel_rfl) (by kernel_rfl) (by kernel_rfl) (fun _ h => h.picks [0, 0, 0, 0, 0, 0] rfl) rfl rfl (p_as rfl) (fun _ h => h.picks [2, 2, 2, 2, 2, 2] rfl) ?_
              refine at_take2 17 rfl (by kernel_rfl) (by kernel_rfl) (by kernel_rfl) (fun _ h => h.picks [0, 0, 0, 0, 0, 0] rfl) rfl rfl (p_as rfl) (fun _ h => h.picks [2, 2, 2, 2, 2, 2] rfl) ?_
              refine at_done (by kernel_rfl) ?_
              refine nj_seq ?_
              refine cj_seq ?_
              refine cj_reg ?_
              refine lp rfl (p_as rfl) ?_
              refine lj_seq ?_
              refine cj_seq ?_
              refine cj_reg ?_
              refine lp rfl (p_as rfl) ?_
              refine lp rfl (p_as rfl) ?_
              refine lp rfl (p_as rfl) ?_
              refine lj_seq ?_
              refine cj_seq ?_
              refine cj_seq ?_
              refine cj_reg ?_
              refine lp rfl (p_mv rfl) ?_
              refine lp rfl (p_eql rfl rfl) ?_
              refine lj_seq ?_
              obtain ⟨k80, hk80, hm⟩ := bindS hm
              have hRk80 : ∀ t, k80 = .inr t → some t = some r := fun t e => by rw [e] at hm; exact hm
              refine cj_joinK (σ := (Int × (List ByteArray))) (γ := SV) (fun u77 => k80 = .inl u77) (fun u77 g78 => [(2, .bool false), (3, .pointer (some ⟨b1, 0, none⟩)), (4, .pointer (some ⟨b5, 0, none⟩)), (5, s7.v), (6, .int .i64 y6.2.1), (7, .int .i64 y6.2.2), (8, .int .i64 y8.1), (9, .int .i64 y8.2.1), (10, .int .i64 y8.2.2), (11, .int .i64 y9), (12, .int .i64 y12), (13, .int .i64 y15), (14, g78.v), (15, .int .i64 u77.1), (16, .int .i64 0), (17, .int .i64 0)]) (fun u77 g78 => Sat w0 (keys ([] : List Ent)) A [.row R9 (SV.v s7) y6.1, .box b5 28 [s3.v, .int .i64 y2.1.Change, .int .i64 y2.1.Clap, .int .i64 y2.1.Break, .int .i64 y2.1.Half], .row N46.R (SV.v s3) xg4, .ro (Lk N46 y2.1.Items xg4), .box b1 25 [s0_.v, .int .i64 y2.2], .ro (RdS R3 (SV.v s0_) a0), .row R9 (SV.v g78) u77.2]) (fun u77 g78 hq => ?_) (fun J cnk80 => ?_)
              · have hm := Sum.fin_l hq hm
                refine cj_seq ?_
                refine cj_seq ?_
                refine cj_reg ?_
                refine lp rfl (p_mv rfl) ?_
                refine lp rfl (p_eql rfl rfl) ?_
                refine lj_seq ?_
                obtain ⟨k86, hk86, hm⟩ := bindS hm
                have hRk86 : ∀ t, k86 = .inr t → some t = some r := fun t e => by rw [e] at hm; exact hm
                refine cj_joinK (σ := (Int × Int)) (γ := Unit) (fun u84 => k86 = .inl u84) (fun u84 g85 => [(2, .bool false), (3, .pointer (some ⟨b1, 0, none⟩)), (4, .pointer (some ⟨b5, 0, none⟩)), (5, s7.v), (6, .int .i64 y6.2.1), (7, .int .i64 y6.2.2), (8, .int .i64 y8.1), (9, .int .i64 y8.2.1), (10, .int .i64 y8.2.2), (11, .int .i64 y9), (12, .int .i64 y12), (13, .int .i64 y15), (14, g78.v), (15, .int .i64 u77.1), (16, .int .i64 u84.1), (17, .int .i64 u84.2)]) (fun u84 g85 => Sat w0 (keys ([] : List Ent)) A [.row R9 (SV.v s7) y6.1, .box b5 28 [s3.v, .int .i64 y2.1.Change, .int .i64 y2.1.Clap, .int .i64 y2.1.Break, .int .i64 y2.1.Half], .row N46.R (SV.v s3) xg4, .ro (Lk N46 y2.1.Items xg4), .box b1 25 [s0_.v, .int .i64 y2.2], .ro (RdS R3 (SV.v s0_) a0), .row R9 (SV.v g78) u77.2]) (fun u84 g85 hq => ?_) (fun J cnk86 => ?_)
                · have hm := Sum.fin_l hq hm
                  refine cj_seq ?_
                  refine cj_seq ?_
                  refine cj_reg ?_
                  obtain ⟨k90, hk90, hm⟩ := bindS hm
                  have hRk90 : ∀ t, k90 = .inr t → some t = some r := fun t e => by rw [e] at hm; exact hm
                  refine lj_join (σ := Bool) (γ := Unit) (fun u88 => k90 = .inl u88) (fun u88 g89 => [(2, .bool false), (3, .pointer (some ⟨b1, 0, none⟩)), (4, .pointer (some ⟨b5, 0, none⟩)), (11, .int .i64 y9), (102, .bool u88)]) (fun u88 g89 => Sat w0 (keys ([] : List Ent)) A [.box b5 28 [s3.v, .int .i64 y2.1.Change, .int .i64 y2.1.Clap, .int .i64 y2.1.Break, .int .i64 y2.1.Half], .row N46.R (SV.v s3) xg4, .ro (Lk N46 y2.1.Items xg4), .box b1 25 [s0_.v, .int .i64 y2.2], .ro (RdS R3 (SV.v s0_) a0)]) (fun u88 g89 hq => ?_) (fun J cnk90 => ?_)
                  · have hm := Sum.fin_l hq hm
                    refine cj_if (b := u88) rfl (fun hb => ?_) (fun hb => ?_)
                    · have hm := ifB_t hb hm
                      refine cj_seq ?_
                      refine cj_reg ?_
                      refine lp rfl (p_as rfl) ?_
                      refine lj_seq ?_
                      obtain rfl := Option.some.inj hm
                      exact cj_rt () [] Tryd.results3 (.tmp rfl .nil) rfl rfl
                    · have hm := ifB_f hb hm
                      refine cj_skip ?_
                      refine nj_seq ?_
                      refine cj_seq ?_
                      refine cj_reg ?_
                      refine lp rfl (p_as rfl) ?_
                      refine lj_seq ?_
                      refine cj_seq ?_
                      refine cj_seq ?_
                      refine cj_reg ?_
                      refine lp rfl (p_mv rfl) ?_
                      refine lp rfl (p_fab fl28_0 rfl) ?_
                      refine lp rfl (p_lbs ty26 rfl (j := 0) rfl rfl) ?_
                      refine lp rfl (p_lenG hLs3 Tryd.underlying26 rfl (.row 1 rfl)) ?_
                      obtain ⟨y92, hy92, hm⟩ := bindS hm
                      refine r_call [3] cf13 rfl rfl (ok_gleemake_Stream_Order b1 s0_ a0 y2.2 (y2.1.Items.length : Int) hy92) rfl rfl (.cons (.ro 3 rfl) .nil) (fun _ => rfl) rfl (fun s93 => ?_)
                      refine lp rfl (p_len Tryd.underlying22 rfl (.row 0 rfl)) ?_
                      refine lp rfl (p_mv rfl) ?_
                      refine lj_seq ?_
                      refine cj_nil R9 ?_
                      obtain ⟨f101, hf101, hm⟩ := bindS hm
                      refine cj_range (γ := SV) (m := (y92.1.length : Int)) hf101 nilS (fun u98 g99 => [(2, .bool false), (3, .pointer (some ⟨b1, 0, none⟩)), (4, .pointer (some ⟨b5, 0, none⟩)), (11, .int .i64 y9), (18, g99.v), (107, s93.v)]) (fun u98 g99 => Sat w0 (keys ([] : List Ent)) A [.row R3 (SV.v s93) y92.1, .box b1 25 [s0_.v, .int .i64 y92.2], .box b5 28 [s3.v, .int .i64 y2.1.Change, .int .i64 y2.1.Clap, .int .i64 y2.1.Break, .int .i64 y2.1.Half], .row N46.R (SV.v s3) xg4, .ro (Lk N46 y2.1.Items xg4), .ro (RdS R3 (SV.v s0_) a0), .row R9 (SV.v g99) u98]) ⟨rfl, rfl, rfl, rfl, rfl, rfl, rfl, rfl, trivial⟩ (fun _ h => h.picks [1, 1, 1, 1, 1, 1, 0] rfl) (nat_lt _) (fun _ h => (FactAt.get (F := RdS R3 (SV.v s93) y92.1) (.row 1 rfl) h).1) (fun _ _ => ⟨rfl, rfl, rfl, rfl⟩) ⟨rfl, rfl, rfl, rfl, rfl⟩ rfl rfl rfl (fun u98 g99 e => ?_) (fun aftk100 i94 x95 u98 g99 k100 hx96 hs J hJk100 hBk100 hX I cnk100 => ?_)
                      · have hm := Flow.fin_b e hm
                        refine nj_seq ?_
                        refine cj_seq ?_
                        refine cj_seq ?_
                        refine cj_reg ?_
                        refine lp rfl (p_mv rfl) ?_
                        obtain ⟨y108, hy108, hm⟩ := bindS hm
                        refine r_call [1] cf14 rfl rfl (ok_gleemake_Stream_Flip b1 s0_ a0 y92.2 6 hy108) rfl rfl (.cons (.ro 4 rfl) .nil) (fun _ => rfl) rfl (fun _ => ?_)
                        refine lj_seq ?_
                        obtain ⟨k112, hk112, hm⟩ := bindS hm
                        have hRk112 : ∀ t, k112 = .inr t → some t = some r := fun t e => by rw [e] at hm; exact hm
                        refine cj_joinK (σ := (List ByteArray)) (γ := SV) (fun u109 => k112 = .inl u109) (fun u109 g110 => [(2, .bool false), (4, .pointer (some ⟨b5, 0, none⟩)), (11, .int .i64 y9), (18, g110.v)]) (fun u109 g110 => Sat w0 (keys ([] : List Ent)) A [.box b5 28 [s3.v, .int .i64 y2.1.Change, .int .i64 y2.1.Clap, .int .i64 y2.1.Break, .int .i64 y2.1.Half], .row N46.R (SV.v s3) xg4, .ro (Lk N46 y2.1.Items xg4), .ro (RdS R9 (SV.v g110) u109)]) (fun u109 g110 hq => ?_) (fun J cnk112 => ?_)
                        · have hm := Sum.fin_l hq hm
                          refine cj_seq ?_
                          refine cj_reg ?_
                          refine lp rfl (p_lbw ty28 rfl (j := 0) rfl rfl) ?_
                          refine lp rfl (p_mv rfl) ?_
                          refine r_fz 1 rfl ?_
                          obtain ⟨y121, hy121, hm⟩ := bindS hm
                          refine r_callN [] cf17 rfl rfl (ok_concert_Moved y2.1 s3 xg4 g110 u109 hy121) rfl rfl (.cons (.ro 2 rfl) (.cons (.ro 0 rfl) (.cons (.ro 3 rfl) .nil))) rfl (fun ⟨s122, xg123⟩ => ?_)
                          refine r_pure (F := Lk N46 y121.1.Items xg123) (.ro 1 rfl) (fun _ h => h.1) (fun hLs122 => ?_)
                          refine lp rfl (p_mv rfl) ?_
                          refine lp rfl (p_ext rfl rfl) ?_
                          refine lp rfl (p_ext rfl rfl) ?_
                          refine r_al ty28 rfl (fun b124 => ?_)
                          refine r_sb (vs := [s122.v, .int .i64 y121.1.Change, .int .i64 y121.1.Clap, .int .i64 y121.1.Break, .int .i64 y121.1.Half]) (j := 0) ty28 rfl rfl rfl rfl rfl rfl rfl ?_
                          refine lp rfl (p_as rfl) ?_
                          refine lj_seq ?_
                          refine cj_seq ?_
                          refine cj_reg ?_
                          refine lp rfl (p_mv rfl) ?_
                          refine lp rfl (p_as rfl) ?_
                          refine lj_seq ?_
                          refine cj_seq ?_
                          refine cj_reg ?_
                          refine lp rfl (p_bld [.slice none 0 0, .int .i64 0, .int .i64 0, .int .i64 0, .int .i64 0] rfl (fun _ => by kernel_rfl)) ?_
                          refine r_al ty28 rfl (fun b125 => ?_)
                          refine r_sb (vs := [.slice none 0 0, .int .i64 0, .int .i64 0, .int .i64 0, .int .i64 0]) (j := 0) ty28 rfl rfl rfl rfl rfl rfl rfl ?_
                          refine lj_seq ?_
                          refine cj_seq ?_
                          refine cj_seq ?_
                          refine cj_reg ?_
                          refine lp rfl (p_mv rfl) ?_
                          refine lp rfl (p_eql rfl rfl) ?_
                          refine lj_seq ?_
                          obtain ⟨k129, hk129, hm⟩ := bindS hm
                          have hRk129 : ∀ t, k129 = .inr t → some t = some r := fun t e => by rw [e] at hm; exact hm
                          refine cj_joinK (σ := (Int × Int × Int × Int × Int × (List TItem))) (γ := (SV × List (TItem × SV))) (fun u126 => k129 = .inl u126) (fun u126 g127 => [(2, .bool false), (21, .pointer (some ⟨b124, 0, none⟩)), (22, .int .i64 y121.2), (23, .int .i64 u126.1), (24, .pointer (some ⟨b125, 0, none⟩))]) (fun u126 g127 => Sat w0 (keys ([] : List Ent)) A [.box b125 28 [g127.1.v, .int .i64 u126.2.1, .int .i64 u126.2.2.1, .int .i64 u126.2.2.2.1, .int .i64 u126.2.2.2.2.1], .box b124 28 [s122.v, .int .i64 y121.1.Change, .int .i64 y121.1.Clap, .int .i64 y121.1.Break, .int .i64 y121.1.Half], .row N46.R (SV.v s122) xg123, .ro (Lk N46 y121.1.Items xg123), .row N46.R (SV.v g127.1) g127.2, .ro (Lk N46 u126.2.2.2.2.2 g127.2)]) (fun u126 g127 hq => ?_) (fun J cnk129 => ?_)
                          · have hm := Sum.fin_l hq hm
                            refine cj_pure (F := Lk N46 u126.2.2.2.2.2 g127.2) (.ro 5 rfl) (fun _ h => h.1) (fun hLu126_K128 => ?_)
                            refine cj_seq ?_
                            refine cj_reg ?_
                            refine lp rfl (p_mv rfl) ?_
                            refine lp rfl (p_mv rfl) ?_
                            refine lp rfl (p_eql rfl rfl) ?_
                            refine lp rfl (p_mv rfl) ?_
                            refine lcase (i := 155) (y121.2 == u126.1) rfl (fun hb => ?_) (fun hb => ?_)
                            · have hm := ifB_t hb hm
                              refine lg true rfl rfl rfl ?_
                              refine lp rfl (p_lbw ty28 rfl (j := 1) rfl rfl) ?_
                              refine lg true rfl rfl rfl ?_
                              refine lp rfl (p_lbw ty28 rfl (j := 0) rfl rfl) ?_
                              refine lg true rfl rfl rfl ?_
                              obtain ⟨y134, hy134, hm⟩ := bindS hm
                              refine r_call [] cf19 rfl rfl (ok_gleeref2_SameProgram y121.1 s122 xg123 (TProgram.mk u126.2.2.2.2.2 u126.2.1 u126.2.2.1 u126.2.2.2.1 u126.2.2.2.2.1) g127.1 g127.2 hy134) rfl rfl (.cons (.ro 3 rfl) (.cons (.row 2 rfl) (.cons (.ro 5 rfl) (.cons (.row 4 rfl) .nil)))) (fun _ => rfl) rfl (fun _ => ?_)
                              refine lp rfl (p_pkt rfl rfl) ?_
                              refine lp rfl (p_mv rfl) ?_
                              refine lcase (i := 160) y134 rfl (fun hb => ?_) (fun hb => ?_)
                              · have hm := ifB_t hb hm
                                refine lg true rfl rfl rfl ?_
                                obtain ⟨y135, hy135, hm⟩ := bindS hm
                                refine r_call [] cf20 rfl rfl (ok_gleelaw2_sung  hy135) rfl rfl .nil (fun _ => rfl) rfl (fun _ => ?_)
                                refine lp rfl (p_pkt rfl rfl) ?_
                                refine lp rfl (p_as rfl) ?_
                                refine lj_seq ?_
                                obtain rfl := Option.some.inj hm
                                exact cj_rt () [] Tryd.results3 (.tmp rfl .nil) rfl rfl
                              · have hm := ifB_f hb hm
                                refine ls true rfl rfl rfl rfl ?_
                                refine lp rfl (p_pkf rfl rfl) ?_
                                refine lp rfl (p_as rfl) ?_
                                refine lj_seq ?_
                                obtain rfl := Option.some.inj hm
                                exact cj_rt () [] Tryd.results3 (.tmp rfl .nil) rfl rfl
                            · have hm := ifB_f hb hm
                              refine ls true rfl rfl rfl rfl ?_
                              refine ls true rfl rfl rfl rfl ?_
                              refine ls true rfl rfl rfl rfl ?_
                              refine lp rfl (p_pkf rfl rfl) ?_
                              refine lp rfl (p_mv rfl) ?_
                              refine ls true rfl rfl rfl rfl ?_
                              refine lp rfl (p_pkf rfl rfl) ?_
                              refine lp rfl (p_as rfl) ?_
                              refine lj_seq ?_
                              obtain rfl := Option.some.inj hm
                              exact cj_rt () [] Tryd.results3 (.tmp rfl .nil) rfl rfl
                          · have hm := hk129
                            refine cj_if (b := y9 == 0) rfl (fun hb => ?_) (fun hb => ?_)
                            · have hm := ifB_t hb hm
                              refine cj_reg ?_
                              refine lp rfl (p_lbw ty28 rfl (j := 5) rfl rfl) ?_
                              refine lp rfl (p_mv rfl) ?_
                              obtain ⟨y130, hy130, hm⟩ := bindS hm
                              refine r_callN [] cf18 rfl rfl (ok_gleeref2_MovedProgram y2.1 s3 xg4 g110 u109 hy130) rfl rfl (.cons (.ro 6 rfl) (.cons (.ro 4 rfl) (.cons (.ro 7 rfl) .nil))) rfl (fun ⟨s131, xg132⟩ => ?_)
                              refine r_pure (F := Lk N46 y130.1.Items xg132) (.ro 1 rfl) (fun _ h => h.1) (fun hLs131 => ?_)
                              refine lp rfl (p_mv rfl) ?_
                              refine lp rfl (p_ext rfl rfl) ?_
                              refine lp rfl (p_ext rfl rfl) ?_
                              refine r_sb (vs := [s131.v, .int .i64 y130.1.Change, .int .i64 y130.1.Clap, .int .i64 y130.1.Break, .int .i64 y130.1.Half]) (j := 2) ty28 rfl rfl rfl rfl rfl rfl rfl ?_
                              refine lp rfl (p_as rfl) ?_
                              refine lj_nil ?_
                              exact cnk129 _ _ (y130.2, y130.1.Change, y130.1.Clap, y130.1.Break, y130.1.Half, y130.1.Items) (s131, xg132) (Option.some.inj hm).symm ⟨rfl, rfl, rfl, rfl, rfl, trivial⟩ (fun _ h => h.picks [2, 2, 2, 2, 0, 0] rfl)
                            · have hm := ifB_f hb hm
                              refine cj_skip ?_
                              refine nj_fact (F := Lk N46 [] []) (.nilL N46) ?_
                              refine nj_nil N46.R ?_
                              exact cnk129 _ _ (y9, 0, 0, 0, 0, []) (nilS, []) (Option.some.inj hm).symm ⟨rfl, rfl, rfl, rfl, rfl, trivial⟩ (fun _ h => h.picks [2, 2, 2, 2, 0, 0] rfl)
                        · have hm := hk112
                          refine cj_if (b := y108.1) rfl (fun hb => ?_) (fun hb => ?_)
                          · have hm := ifB_t hb hm
                            refine cj_seq ?_
                            refine cj_reg ?_
                            refine lp rfl (p_mv rfl) ?_
                            refine lp rfl (p_mv rfl) ?_
                            refine r_bs R9 [(ByteArray.mk [97].toArray), (ByteArray.mk [122, 122].toArray)] rfl rfl rfl (fun _ => by kernel_rfl) rfl (fun s113 => ?_)
                            obtain ⟨y114, hy114, hm⟩ := bindS hm
                            refine r_call [1] cf15 rfl rfl (ok_gleemake_Stream_Some b1 s0_ a0 y108.2 s113 [(ByteArray.mk [97].toArray), (ByteArray.mk [122, 122].toArray)] hy114) rfl rfl (.cons (.ro 5 rfl) (.cons (.row 0 rfl) .nil)) (fun _ => rfl) rfl (fun _ => ?_)
                            refine r_bs R9 [y114.1] rfl rfl rfl (fun _ => by kernel_rfl) rfl (fun s115 => ?_)
                            obtain ⟨q116, hq116, hm⟩ := bindS hm
                            refine r_app (k := 8) Tryd.underlying30 ty9 rfl rfl rfl rfl (.row 0 rfl) hq116 rfl (fun s117 => ?_)
                            refine lp rfl (p_as rfl) ?_
                            refine lj_seq ?_
                            refine cj_reg ?_
                            refine lp rfl (p_mv rfl) ?_
                            refine lp rfl (p_mv rfl) ?_
                            obtain ⟨y118, hy118, hm⟩ := bindS hm
                            refine r_call [1] cf16 rfl rfl (ok_gleemake_Stream_Range b1 s0_ a0 y114.2 0 1 hy118) rfl rfl (.cons (.ro 6 rfl) .nil) (fun _ => rfl) rfl (fun _ => ?_)
                            refine lp rfl (p_min rfl rfl) ?_
                            obtain ⟨q119, hq119, hm⟩ := bindS hm
                            refine lp rfl (p_cut Tryd.underlying30 ty9 rfl rfl rfl rfl rfl (.row 8 rfl) rfl rfl hq119) ?_
                            refine lp rfl (p_as rfl) ?_
                            refine lj_nil ?_
                            refine nj_fz 8 rfl ?_
                            refine nj_fact (F := RdS R9 (SV.v (s117.sub R9.sz (min 1 y118.1).toNat (q116.length : Int).toNat)) q119) (.imp (.ro 0 rfl) (fun _ h => h.cut hq119)) ?_
                            exact cnk112 _ _ q119 (s117.sub R9.sz (min 1 y118.1).toNat (q116.length : Int).toNat) (Option.some.inj hm).symm ⟨rfl, rfl, rfl, rfl, trivial⟩ (fun _ h => h.picks [6, 6, 6, 0] rfl)
                          · have hm := ifB_f hb hm
                            refine cj_skip ?_
                            refine nj_fz 6 rfl ?_
                            exact cnk112 _ _ u98 g99 (Option.some.inj hm).symm ⟨rfl, rfl, rfl, rfl, trivial⟩ (fun _ h => h.picks [3, 3, 3, 0] rfl)
                      · have hRk100 : ∀ t, k100 = .ret t → some t = some r := fun t e => by rw [hX t e] at hm; exact hm
                        have hm := hs
                        refine cj_seq ?_
                        refine cj_reg ?_
                        refine lp rfl (p_idx Tryd.underlying22 ty3 rfl rfl (.row 0 rfl) (getI_nat.trans hx96)) ?_
                        refine lp rfl (p_lde (o := 0) ty3 rfl rfl (.row 0 rfl) hx96 rfl) ?_
                        refine lp rfl (p_as rfl) ?_
                        refine lj_seq ?_
                        refine cj_reg ?_
                        refine lp rfl (p_mv rfl) ?_
                        refine lp rfl (p_fab fl28_0 rfl) ?_
                        refine lp rfl (p_lbs ty26 rfl (j := 2) rfl rfl) ?_
                        refine lp rfl (p_mv rfl) ?_
                        obtain ⟨e103, he103, hm⟩ := bindS hm
                        obtain ⟨ge103, he103G⟩ := lk_getI hLs3 he103
                        refine lp rfl (p_idx Tryd.underlying26 ty46 rfl rfl (.row 3 rfl) he103G) ?_
                        refine lp rfl (p_fae fl46_0 rfl (.row 3 rfl) (getI_spec he103G).2) ?_
                        refine lp rfl (p_lde (o := 0) ty9 rfl rfl (.row 3 rfl) (getI_spec he103G).2 rfl) ?_
                        refine r_bs R9 [e103.Key] rfl rfl rfl (fun _ => by kernel_rfl) rfl (fun s104 => ?_)
                        obtain ⟨q105, hq105, hm⟩ := bindS hm
                        refine r_app (k := 7) Tryd.underlying30 ty9 rfl rfl rfl rfl (.row 0 rfl) hq105 rfl (fun s106 => ?_)
                        refine lp rfl (p_as rfl) ?_
                        refine lj_nil ?_
                        refine nj_blk ?_
                        exact cnk100 _ _ q105 s106 (hJk100 _ (Option.some.inj hm).symm) ⟨rfl, rfl, rfl, rfl, rfl, rfl, rfl, rfl, trivial⟩ (fun _ h => h.picks [1, 1, 1, 1, 1, 1, 1] rfl)
                  · have hm := hk90
                    refine lp rfl (p_mv rfl) ?_
                    refine lp rfl (p_mv rfl) ?_
                    refine lp rfl (p_neq rfl rfl) ?_
                    refine lp rfl (p_mv rfl) ?_
                    refine lcase (i := 77) (y6.2.2 != y12) rfl (fun hb => ?_) (fun hb => ?_)
                    · have hm := ifB_t hb hm
                      refine ls false rfl rfl rfl rfl ?_
                      refine ls false rfl rfl rfl rfl ?_
                      refine ls false rfl rfl rfl rfl ?_
                      refine ls false rfl rfl rfl rfl ?_
                      refine lp rfl (p_pkt rfl rfl) ?_
                      refine lp rfl (p_mv rfl) ?_
                      refine ls false rfl rfl rfl rfl ?_
                      refine ls false rfl rfl rfl rfl ?_
                      refine ls false rfl rfl rfl rfl ?_
                      refine lp rfl (p_pkt rfl rfl) ?_
                      refine lp rfl (p_mv rfl) ?_
                      refine ls false rfl rfl rfl rfl ?_
                      refine ls false rfl rfl rfl rfl ?_
                      refine ls false rfl rfl rfl rfl ?_
                      refine lp rfl (p_pkt rfl rfl) ?_
                      refine lp rfl (p_mv rfl) ?_
                      refine ls false rfl rfl rfl rfl ?_
                      refine ls false rfl rfl rfl rfl ?_
                      refine ls false rfl rfl rfl rfl ?_
                      refine lp rfl (p_pkt rfl rfl) ?_
                      refine lp rfl (p_mv rfl) ?_
                      refine ls false rfl rfl rfl rfl ?_
                      refine ls false rfl rfl rfl rfl ?_
                      refine ls false rfl rfl rfl rfl ?_
                      refine lp rfl (p_pkt rfl rfl) ?_
                      refine lj_nil ?_
                      exact cnk90 _ _ true () (Option.some.inj hm).symm ⟨rfl, rfl, rfl, rfl, rfl, trivial⟩ (fun _ h => h.picks [1, 1, 1, 1, 1] rfl)
                    · have hm := ifB_f hb hm
                      refine lg false rfl rfl rfl ?_
                      refine lp rfl (p_mv rfl) ?_
                      refine lg false rfl rfl rfl ?_
                      refine lp rfl (p_mv rfl) ?_
                      refine lg false rfl rfl rfl ?_
                      obtain ⟨y91, hy91, hm⟩ := bindS hm
                      refine r_call [] cf12 rfl rfl (ok_slices_Equal_string_string s7 y6.1 g78 u77.2 hy91) rfl rfl (.cons (.row 0 rfl) (.cons (.row 6 rfl) .nil)) (fun _ => rfl) rfl (fun _ => ?_)
                      refine lg false rfl rfl rfl ?_
                      refine lp rfl (p_not rfl) ?_
                      refine lp rfl (p_pkf rfl rfl) ?_
                      refine lp rfl (p_mv rfl) ?_
                      refine lcase (i := 83) (!y91) rfl (fun hb => ?_) (fun hb => ?_)
                      · have hm := ifB_t hb hm
                        refine ls false rfl rfl rfl rfl ?_
                        refine ls false rfl rfl rfl rfl ?_
                        refine ls false rfl rfl rfl rfl ?_
                        refine lp rfl (p_pkt rfl rfl) ?_
                        refine lp rfl (p_mv rfl) ?_
                        refine ls false rfl rfl rfl rfl ?_
                        refine ls false rfl rfl rfl rfl ?_
                        refine ls false rfl rfl rfl rfl ?_
                        refine lp rfl (p_pkt rfl rfl) ?_
                        refine lp rfl (p_mv rfl) ?_
                        refine ls false rfl rfl rfl rfl ?_
                        refine ls false rfl rfl rfl rfl ?_
                        refine ls false rfl rfl rfl rfl ?_
                        refine lp rfl (p_pkt rfl rfl) ?_
                        refine lp rfl (p_mv rfl) ?_
                        refine ls false rfl rfl rfl rfl ?_
                        refine ls false rfl rfl rfl rfl ?_
                        refine ls false rfl rfl rfl rfl ?_
                        refine lp rfl (p_pkt rfl rfl) ?_
                        refine lj_nil ?_
                        exact cnk90 _ _ true () (Option.some.inj hm).symm ⟨rfl, rfl, rfl, rfl, rfl, trivial⟩ (fun _ h => h.picks [1, 1, 1, 1, 1] rfl)
                      · have hm := ifB_f hb hm
                        refine lg false rfl rfl rfl ?_
                        refine lp rfl (p_mv rfl) ?_
                        refine lg false rfl rfl rfl ?_
                        refine lp rfl (p_mv rfl) ?_
                        refine lg false rfl rfl rfl ?_
                        refine lp rfl (p_neq rfl rfl) ?_
                        refine lp rfl (p_pkf rfl rfl) ?_
                        refine lp rfl (p_mv rfl) ?_
                        refine lcase (i := 88) (y6.2.1 != u77.1) rfl (fun hb => ?_) (fun hb => ?_)
                        · have hm := ifB_t hb hm
                          refine ls false rfl rfl rfl rfl ?_
                          refine ls false rfl rfl rfl rfl ?_
                          refine ls false rfl rfl rfl rfl ?_
                          refine lp rfl (p_pkt rfl rfl) ?_
                          refine lp rfl (p_mv rfl) ?_
                          refine ls false rfl rfl rfl rfl ?_
                          refine ls false rfl rfl rfl rfl ?_
                          refine ls false rfl rfl rfl rfl ?_
                          refine lp rfl (p_pkt rfl rfl) ?_
                          refine lp rfl (p_mv rfl) ?_
                          refine ls false rfl rfl rfl rfl ?_
                          refine ls false rfl rfl rfl rfl ?_
                          refine ls false rfl rfl rfl rfl ?_
                          refine lp rfl (p_pkt rfl rfl) ?_
                          refine lj_nil ?_
                          exact cnk90 _ _ true () (Option.some.inj hm).symm ⟨rfl, rfl, rfl, rfl, rfl, trivial⟩ (fun _ h => h.picks [1, 1, 1, 1, 1] rfl)
                        · have hm := ifB_f hb hm
                          refine lg false rfl rfl rfl ?_
                          refine lp rfl (p_mv rfl) ?_
                          refine lg false rfl rfl rfl ?_
                          refine lp rfl (p_mv rfl) ?_
                          refine lg false rfl rfl rfl ?_
                          refine lp rfl (p_neq rfl rfl) ?_
                          refine lp rfl (p_pkf rfl rfl) ?_
                          refine lp rfl (p_mv rfl) ?_
                          refine lcase (i := 93) (y8.2.2 != y15) rfl (fun hb => ?_) (fun hb => ?_)
                          · have hm := ifB_t hb hm
                            refine ls false rfl rfl rfl rfl ?_
                            refine ls false rfl rfl rfl rfl ?_
                            refine ls false rfl rfl rfl rfl ?_
                            refine lp rfl (p_pkt rfl rfl) ?_
                            refine lp rfl (p_mv rfl) ?_
                            refine ls false rfl rfl rfl rfl ?_
                            refine ls false rfl rfl rfl rfl ?_
                            refine ls false rfl rfl rfl rfl ?_
                            refine lp rfl (p_pkt rfl rfl) ?_
                            refine lj_nil ?_
                            exact cnk90 _ _ true () (Option.some.inj hm).symm ⟨rfl, rfl, rfl, rfl, rfl, trivial⟩ (fun _ h => h.picks [1, 1, 1, 1, 1] rfl)
                          · have hm := ifB_f hb hm
                            refine lg false rfl rfl rfl ?_
                            refine lp rfl (p_mv rfl) ?_
                            refine lg false rfl rfl rfl ?_
                            refine lp rfl (p_mv rfl) ?_
                            refine lg false rfl rfl rfl ?_
                            refine lp rfl (p_neq rfl rfl) ?_
                            refine lp rfl (p_pkf rfl rfl) ?_
                            refine lp rfl (p_mv rfl) ?_
                            refine lcase (i := 98) (y8.1 != u84.1) rfl (fun hb => ?_) (fun hb => ?_)
                            · have hm := ifB_t hb hm
                              refine ls false rfl rfl rfl rfl ?_
                              refine ls false rfl rfl rfl rfl ?_
                              refine ls false rfl rfl rfl rfl ?_
                              refine lp rfl (p_pkt rfl rfl) ?_
                              refine lj_nil ?_
                              exact cnk90 _ _ true () (Option.some.inj hm).symm ⟨rfl, rfl, rfl, rfl, rfl, trivial⟩ (fun _ h => h.picks [1, 1, 1, 1, 1] rfl)
                            · have hm := ifB_f hb hm
                              refine lg false rfl rfl rfl ?_
                              refine lp rfl (p_mv rfl) ?_
                              refine lg false rfl rfl rfl ?_
                              refine lp rfl (p_mv rfl) ?_
                              refine lg false rfl rfl rfl ?_
                              refine lp rfl (p_neq rfl rfl) ?_
                              refine lp rfl (p_pkf rfl rfl) ?_
                              refine lj_nil ?_
                              exact cnk90 _ _ (y8.2.1 != u84.2) () (Option.some.inj hm).symm ⟨rfl, rfl, rfl, rfl, rfl, trivial⟩ (fun _ h => h.picks [1, 1, 1, 1, 1] rfl)
                · have hm := hk86
                  refine cj_if (b := y15 == 0) rfl (fun hb => ?_) (fun hb => ?_)
                  · have hm := ifB_t hb hm
                    refine cj_reg ?_
                    refine lp rfl (p_lbw ty28 rfl (j := 1) rfl rfl) ?_
                    obtain ⟨y87, hy87, hm⟩ := bindS hm
                    refine r_call [] cf11 rfl rfl (ok_gleeref2_HalfOf y2.1 s3 xg4 hy87) rfl rfl (.cons (.ro 3 rfl) (.cons (.row 2 rfl) .nil)) (fun _ => rfl) rfl (fun _ => ?_)
                    refine lp rfl (p_mv rfl) ?_
                    refine lp rfl (p_ext rfl rfl) ?_
                    refine lp rfl (p_ext rfl rfl) ?_
                    refine lp rfl (p_as rfl) ?_
                    refine lp rfl (p_as rfl) ?_
                    refine lj_nil ?_
                    exact cnk86 _ _ (y87.1, y87.2) () (Option.some.inj hm).symm ⟨rfl, rfl, rfl, rfl, rfl, rfl, rfl, rfl, rfl, rfl, rfl, rfl, rfl, rfl, rfl, rfl, trivial⟩ (fun _ h => h.picks [0, 0, 0, 0, 0, 0, 0] rfl)
                  · have hm := ifB_f hb hm
                    refine cj_skip ?_
                    exact cnk86 _ _ (0, 0) () (Option.some.inj hm).symm ⟨rfl, rfl, rfl, rfl, rfl, rfl, rfl, rfl, rfl, rfl, rfl, rfl, rfl, rfl, rfl, rfl, trivial⟩ (fun _ h => h.picks [0, 0, 0, 0, 0, 0, 0] rfl)
              · have hm := hk80
                refine cj_if (b := y12 == 0) rfl (fun hb => ?_) (fun hb => ?_)
                · have hm := ifB_t hb hm
                  refine cj_reg ?_
                  refine lp rfl (p_lbw ty28 rfl (j := 3) rfl rfl) ?_
                  obtain ⟨y81, hy81, hm⟩ := bindS hm
                  refine r_call [] cf10 rfl rfl (ok_gleeref2_BestOrder y2.1 s3 xg4 hy81) rfl rfl (.cons (.ro 5 rfl) (.cons (.row 4 rfl) .nil)) (fun _ => rfl) rfl (fun s82 => ?_)
                  refine lp rfl (p_mv rfl) ?_
                  refine lp rfl (p_ext rfl rfl) ?_
                  refine lp rfl (p_ext rfl rfl) ?_
                  refine lp rfl (p_as rfl) ?_
                  refine lp rfl (p_as rfl) ?_
                  refine lj_nil ?_
                  exact cnk80 _ _ (y81.2, y81.1) s82 (Option.some.inj hm).symm ⟨rfl, rfl, rfl, rfl, rfl, rfl, rfl, rfl, rfl, rfl, rfl, rfl, rfl, rfl, rfl, rfl, trivial⟩ (fun _ h => h.picks [3, 3, 3, 3, 3, 3, 0] rfl)
                · have hm := ifB_f hb hm
                  refine cj_skip ?_
                  refine nj_nil R9 ?_
                  exact cnk80 _ _ (0, []) nilS (Option.some.inj hm).symm ⟨rfl, rfl, rfl, rfl, rfl, rfl, rfl, rfl, rfl, rfl, rfl, rfl, rfl, rfl, rfl, rfl, trivial⟩ (fun _ h => h.picks [3, 3, 3, 3, 3, 3, 0] rfl)
end Go.Proofs.YtgjbeigeejhfkaaDoor
