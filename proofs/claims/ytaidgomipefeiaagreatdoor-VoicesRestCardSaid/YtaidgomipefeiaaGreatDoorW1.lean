/- The walks. Written by program. -/
import Derived.Test.YtaidgomipefeiaaGreatDoorW
namespace Go.Proofs.YtaidgomipefeiaaGreatDoor
open Go Go.J Go.G
set_option maxRecDepth 100000
set_option linter.unusedVariables false
theorem ok_gleeref2_ItemsFault (s0_ : SV) (xg0_ : List (TItem × SV)) (a0 : (List TItem)) {r : Int} (hm : m_gleeref2_ItemsFault a0 = some r) :
    Ctr Tryz.prog 36 [s0_.v].toArray ([] : List Ent) [Lk N57 a0 xg0_, RdS N57.R (SV.v s0_) xg0_] (X := Unit) (fun _ => .int .i64 r) (fun _ => []) := by
  unfold m_gleeref2_ItemsFault at hm
  refine ctr_mk (vs := [(0, s0_.v)]) Tryz.func36 rfl Tryz.ntmps36 rfl ⟨rfl, trivial⟩ (fun w0 A => ?_)
  refine cj_pure (F := Lk N57 a0 xg0_) (.ro 0 rfl) (fun _ h => h.1) (fun hL0_ => ?_)
  refine cj_seq ?_
  refine cj_reg ?_
  refine lp rfl (p_as rfl) ?_
  refine lj_seq ?_
  refine cj_seq ?_
  refine cj_seq ?_
  refine cj_reg ?_
  refine lp rfl (p_mv rfl) ?_
  refine lp rfl (p_lenG hL0_ Tryz.underlying26 rfl (.ro 1 rfl)) ?_
  refine lp rfl (p_gtr rfl rfl) ?_
  refine lj_seq ?_
  refine cj_if (b := decide ((a0.length : Int) > 60)) rfl (fun hb => ?_) (fun hb => ?_)
  · have hm := ifB_t hb hm
    refine cj_seq ?_
    refine cj_reg ?_
    refine lp rfl (p_as rfl) ?_
    refine lj_seq ?_
    obtain rfl := Option.some.inj hm
    exact cj_rt () [] Tryz.results36 (.tmp rfl .nil) rfl rfl
  · have hm := ifB_f hb hm
    refine cj_skip ?_
    refine nj_seq ?_
    refine cj_seq ?_
    refine cj_seq ?_
    refine cj_reg ?_
    refine lp rfl (p_mv rfl) ?_
    refine lp rfl (p_lenG hL0_ Tryz.underlying26 rfl (.ro 1 rfl)) ?_
    refine lp rfl (p_mv rfl) ?_
    refine lj_seq ?_
    obtain ⟨f7, hf7, hm⟩ := bindS hm
    refine cj_range (γ := Unit) (m := (a0.length : Int)) hf7 () (fun u4 g5 => [(0, s0_.v), (2, .int .i64 0), (9, s0_.v)]) (fun u4 g5 => Sat w0 (keys ([] : List Ent)) A [.ro (Lk N57 a0 xg0_), .ro (RdS N57.R (SV.v s0_) xg0_)]) ⟨rfl, rfl, rfl, rfl, rfl, trivial⟩ (fun _ h => h.picks [0, 0] rfl) (nat_lt _) (fun _ h => by have h1 := (FactAt.get (F := RdS N57.R (SV.v s0_) xg0_) (.ro 1 rfl) h).1; rw [lk_len hL0_] at h1; exact h1) (fun _ _ => ⟨rfl, rfl, rfl, rfl⟩) ⟨rfl, rfl, rfl, rfl, rfl⟩ rfl rfl rfl (fun u4 g5 e => ?_) (fun aftk6 i1 x2 u4 g5 k6 hx3 hs J hJk6 hBk6 hX I cnk6 => ?_)
    · have hm := Flow.fin_b e hm
      refine nj_seq ?_
      refine cj_seq ?_
      refine cj_reg ?_
      refine lp rfl (p_as rfl) ?_
      refine lj_seq ?_
      obtain rfl := Option.some.inj hm
      exact cj_rt () [] Tryz.results36 (.tmp rfl .nil) rfl rfl
    · have hRk6 : ∀ t, k6 = .ret t → some t = some r := fun t e => by rw [hX t e] at hm; exact hm
      have hm := hs
      refine cj_seq ?_
      refine cj_reg ?_
      refine lp rfl (p_mv rfl) ?_
      obtain ⟨gx2, hx3G⟩ := lk_get hL0_ hx3
      refine lp rfl (p_idx Tryz.underlying26 ty57 rfl rfl (.ro 1 rfl) (getI_nat.trans hx3G)) ?_
      refine lp rfl (p_leaN (cs := [.string x2.Key, .string x2.Places, .int .i64 x2.Long, gx2.v]) ty57 rfl (.ro 1 rfl) hx3G rfl) ?_
      refine r_al ty57 rfl (fun b8 => ?_)
      refine lp rfl (p_as rfl) ?_
      refine r_sb (vs := [.string x2.Key, .string x2.Places, .int .i64 x2.Long, gx2.v]) (j := 0) ty57 rfl rfl rfl rfl rfl rfl rfl ?_
      refine lj_seq ?_
      refine cj_seq ?_
      refine cj_blk ?_
      refine cj_seq ?_
      refine cj_reg ?_
      obtain ⟨k11, hk11, hm⟩ := bindS hm
      have hRk11 : ∀ t, k11 = .inr t → some t = some k6 := fun t e => by rw [e] at hm; exact hm
      refine lj_join (σ := Bool) (γ := Unit) (fun u9 => k11 = .inl u9) (fun u9 g10 => [(0, s0_.v), (2, .int .i64 0), (3, .int .i64 (i1 : Int)), (4, .pointer (some ⟨b8, 0, none⟩)), (9, s0_.v), (10, .int .i64 (a0.length : Int)), (11, .int .i64 (i1 : Int)), (16, .bool u9)]) (fun u9 g10 => Sat w0 (keys ([] : List Ent)) A [.box b8 57 [.string x2.Key, .string x2.Places, .int .i64 x2.Long, gx2.v], .ro (Lk N57 a0 xg0_), .ro (RdS N57.R (SV.v s0_) xg0_)]) (fun u9 g10 hq => ?_) (fun J cnk11 => ?_)
      · have hm := Sum.fin_l hq hm
        refine cj_if (b := u9) rfl (fun hb => ?_) (fun hb => ?_)
        · have hm := ifB_t hb hm
          refine cj_seq ?_
          refine cj_reg ?_
          refine lp rfl (p_as rfl) ?_
          refine lj_seq ?_
          have hm := hRk6 _ (Option.some.inj hm).symm
          obtain rfl := Option.some.inj hm
          exact cj_rt () [] Tryz.results36 (.tmp rfl .nil) rfl rfl
        · have hm := ifB_f hb hm
          refine cj_seq ?_
          refine cj_quiet (by kernel_rfl) (by kernel_rfl) ?_
          refine q_p rfl (p_mv rfl) ?_
          refine q_p rfl (p_mv rfl) ?_
          obtain ⟨q14, hq14, hm⟩ := bindS hm
          obtain ⟨q14G, hq14G, hLq14, hsq14⟩ := lk_cut hL0_ hq14
          refine q_p rfl (p_cut Tryz.underlying26 ty57 rfl rfl rfl rfl rfl (.ro 2 rfl) rfl rfl hq14G) ?_
          refine q_p rfl (p_fab fl57_0 rfl) ?_
          refine q_p rfl (p_lbs ty9 rfl (j := 0) rfl rfl) ?_
          obtain ⟨y15, hy15, hm⟩ := bindS hm
          refine q_call (.int .i64 y15) cf59 rfl rfl (ok_gleeref2_ItemAt (s0_.sub N57.R.sz (0 : Int).toNat (i1 : Int).toNat) q14G q14 x2.Key hy15) (.cons (.imp (.ro 1 rfl) (fun _ h => Lk.sub h hLq14 hsq14)) (.cons (.imp (.ro 2 rfl) (fun _ h => h.cut hq14G)) .nil)) (fun _ => rfl) (fun _ => rfl) rfl ?_
          refine q_p rfl (p_geq rfl rfl) ?_
          refine q_p rfl (p_as rfl) ?_
          refine q_nil ?_
          refine nj_seq ?_
          refine cj_if (b := decide (y15 ≥ 0)) rfl (fun hb => ?_) (fun hb => ?_)
          · have hm := ifB_t hb hm
            refine cj_seq ?_
            refine cj_reg ?_
            refine lp rfl (p_as rfl) ?_
            refine lj_seq ?_
            have hm := hRk6 _ (Option.some.inj hm).symm
            obtain rfl := Option.some.inj hm
            exact cj_rt () [] Tryz.results36 (.tmp rfl .nil) rfl rfl
          · have hm := ifB_f hb hm
            refine cj_seq ?_
            refine cj_reg ?_
            refine lp rfl (p_fab fl57_2 rfl) ?_
            refine lp rfl (p_lbs ty3 rfl (j := 0) rfl rfl) ?_
            obtain ⟨y16, hy16, hm⟩ := bindS hm
            refine r_call [] cf37 rfl rfl (ok_gleeref2_in x2.Long 1 86400000 hy16) rfl rfl .nil (fun _ => rfl) rfl (fun _ => ?_)
            refine lp rfl (p_not rfl) ?_
            refine lp rfl (p_as rfl) ?_
            refine lj_seq ?_
            refine cj_if (b := !y16) rfl (fun hb => ?_) (fun hb => ?_)
            · have hm := ifB_t hb hm
              refine cj_seq ?_
              refine cj_reg ?_
              refine lp rfl (p_as rfl) ?_
              refine lj_seq ?_
              have hm := hRk6 _ (Option.some.inj hm).symm
              obtain rfl := Option.some.inj hm
              exact cj_rt () [] Tryz.results36 (.tmp rfl .nil) rfl rfl
            · have hm := ifB_f hb hm
              refine cj_seq ?_
              refine cj_reg ?_
              refine lp rfl (p_fab fl57_3 rfl) ?_
              refine lp rfl (p_lbs ty55 rfl (j := 0) rfl rfl) ?_
              refine lp rfl (p_len Tryz.underlying55 rfl (.imp (.ro 1 rfl) (fun _ h => (Lk.at_ h hx3G)))) ?_
              refine lp rfl (p_eql rfl rfl) ?_
              refine lp rfl (p_as rfl) ?_
              refine lj_seq ?_
              refine cj_if (b := (x2.Parts.length : Int) == 0) rfl (fun hb => ?_) (fun hb => ?_)
              · have hm := ifB_t hb hm
                refine cj_seq ?_
                refine cj_reg ?_
                refine lp rfl (p_as rfl) ?_
                refine lj_seq ?_
                have hm := hRk6 _ (Option.some.inj hm).symm
                obtain rfl := Option.some.inj hm
                exact cj_rt () [] Tryz.results36 (.tmp rfl .nil) rfl rfl
              · have hm := ifB_f hb hm
                refine cj_seq ?_
                refine cj_reg ?_
                refine lp rfl (p_fab fl57_3 rfl) ?_
                refine lp rfl (p_lbs ty55 rfl (j := 0) rfl rfl) ?_
                refine lp rfl (p_len Tryz.underlying55 rfl (.imp (.ro 1 rfl) (fun _ h => (Lk.at_ h hx3G)))) ?_
                refine lp rfl (p_gtr rfl rfl) ?_
                refine lp rfl (p_as rfl) ?_
                refine lj_seq ?_
                refine cj_if (b := decide ((x2.Parts.length : Int) > 12)) rfl (fun hb => ?_) (fun hb => ?_)
                · have hm := ifB_t hb hm
                  refine cj_seq ?_
                  refine cj_reg ?_
                  refine lp rfl (p_as rfl) ?_
                  refine lj_seq ?_
                  have hm := hRk6 _ (Option.some.inj hm).symm
                  obtain rfl := Option.some.inj hm
                  exact cj_rt () [] Tryz.results36 (.tmp rfl .nil) rfl rfl
                · have hm := ifB_f hb hm
                  refine cj_skip ?_
                  refine nj_blk ?_
                  refine nj_seq ?_
                  refine cj_seq ?_
                  refine cj_reg ?_
                  refine lp rfl (p_fab fl57_3 rfl) ?_
                  refine lp rfl (p_lbs ty55 rfl (j := 0) rfl rfl) ?_
                  obtain ⟨y17, hy17, hm⟩ := bindS hm
                  refine r_call [] cf60 rfl rfl (ok_gleeref2_Rising gx2 x2.Parts hy17) rfl rfl (.cons (.imp (.ro 1 rfl) (fun _ h => (Lk.at_ h hx3G))) .nil) (fun _ => rfl) rfl (fun _ => ?_)
                  refine lp rfl (p_as rfl) ?_
                  refine lj_seq ?_
                  refine cj_seq ?_
                  refine cj_reg ?_
                  refine lp rfl (p_mv rfl) ?_
                  refine lp rfl (p_neq rfl rfl) ?_
                  refine lj_seq ?_
                  refine cj_if (b := y17 != 0) rfl (fun hb => ?_) (fun hb => ?_)
                  · have hm := ifB_t hb hm
                    refine cj_seq ?_
                    refine cj_reg ?_
                    refine lp rfl (p_mv rfl) ?_
                    refine lp rfl (p_as rfl) ?_
                    refine lj_seq ?_
                    have hm := hRk6 _ (Option.some.inj hm).symm
                    obtain rfl := Option.some.inj hm
                    exact cj_rt () [] Tryz.results36 (.tmp rfl .nil) rfl rfl
                  · have hm := ifB_f hb hm
                    refine cj_skip ?_
                    refine nj_blk ?_
                    exact cnk6 _ _ () () (hJk6 _ (Option.some.inj hm).symm) ⟨rfl, rfl, rfl, rfl, rfl, trivial⟩ (fun _ h => h.picks [1, 1] rfl)
      · have hm := hk11
        refine lp rfl (p_fab fl57_0 rfl) ?_
        refine lp rfl (p_lbs ty9 rfl (j := 0) rfl rfl) ?_
        obtain ⟨y12, hy12, hm⟩ := bindS hm
        refine r_call [] cf38 rfl rfl (ok_gleeref2_Key x2.Key hy12) rfl rfl .nil (fun _ => rfl) rfl (fun _ => ?_)
        refine lp rfl (p_not rfl) ?_
        refine lp rfl (p_mv rfl) ?_
        refine lcase (i := 21) (!y12) rfl (fun hb => ?_) (fun hb => ?_)
        · have hm := ifB_t hb hm
          refine ls false rfl rfl rfl rfl ?_
          refine ls false rfl rfl rfl rfl ?_
          refine ls false rfl rfl rfl rfl ?_
          refine ls false rfl rfl rfl rfl ?_
          refine lp rfl (p_pkt rfl rfl) ?_
          refine lp rfl (p_as rfl) ?_
          refine lj_nil ?_
          exact cnk11 _ _ true () (Option.some.inj hm).symm ⟨rfl, rfl, rfl, rfl, rfl, rfl, rfl, rfl, trivial⟩ (fun _ h => h.picks [0, 0, 0] rfl)
        · have hm := ifB_f hb hm
          refine lg false rfl rfl rfl ?_
          refine lp rfl (p_fab fl57_1 rfl) ?_
          refine lg false rfl rfl rfl ?_
          refine lp rfl (p_lbs ty9 rfl (j := 0) rfl rfl) ?_
          refine lg false rfl rfl rfl ?_
          obtain ⟨y13, hy13, hm⟩ := bindS hm
          refine r_call [] cf38 rfl rfl (ok_gleeref2_Key x2.Places hy13) rfl rfl .nil (fun _ => rfl) rfl (fun _ => ?_)
          refine lg false rfl rfl rfl ?_
          refine lp rfl (p_not rfl) ?_
          refine lp rfl (p_pkf rfl rfl) ?_
          refine lp rfl (p_as rfl) ?_
          refine lj_nil ?_
          exact cnk11 _ _ (!y13) () (Option.some.inj hm).symm ⟨rfl, rfl, rfl, rfl, rfl, rfl, rfl, rfl, trivial⟩ (fun _ h => h.picks [0, 0, 0] rfl)
theorem ok_gleeref2_ProgramFault (a0 : TProgram) (s0_0_ : SV) (xg0_0_ : List (TItem × SV)) {r : Int} (hm : m_gleeref2_ProgramFault a0 = some r) :
    Ctr Tryz.prog 10 [.agg [s0_0_.v, .int .i64 a0.Change, .int .i64 a0.Clap, .int .i64 a0.Break, .int .i64 a0.Half].toArray].toArray ([] : List Ent) [Lk N57 a0.Items xg0_0_, RdS N57.R (SV.v s0_0_) xg0_0_] (X := Unit) (fun _ => .int .i64 r) (fun _ => []) := by
  unfold m_gleeref2_ProgramFault at hm
  refine ctr_mk (vs := [(0, .agg [s0_0_.v, .int .i64 a0.Change, .int .i64 a0.Clap, .int .i64 a0.Break, .int .i64 a0.Half].toArray)]) Tryz.func10 rfl Tryz.ntmps10 rfl ⟨rfl, trivial⟩ (fun w0 A => ?_)
  refine cj_pure (F := Lk N57 a0.Items xg0_0_) (.ro 0 rfl) (fun _ h => h.1) (fun hL0_0_ => ?_)
  refine cj_seq ?_
  refine cj_reg ?_
  refine r_bx (cs := [s0_0_.v, .int .i64 a0.Change, .int .i64 a0.Clap, .int .i64 a0.Break, .int .i64 a0.Half]) rfl rfl rfl (fun b1 => ?_)
  refine lp rfl (p_as rfl) ?_
  refine lj_seq ?_
  refine cj_seq ?_
  refine cj_seq ?_
  refine cj_reg ?_
  refine lp rfl (p_fab fl28_0 rfl) ?_
  refine lp rfl (p_lbs ty26 rfl (j := 0) rfl rfl) ?_
  obtain ⟨y2, hy2, hm⟩ := bindS hm
  refine r_call [] cf36 rfl rfl (ok_gleeref2_ItemsFault s0_0_ xg0_0_ a0.Items hy2) rfl rfl (.cons (.ro 1 rfl) (.cons (.ro 2 rfl) .nil)) (fun _ => rfl) rfl (fun _ => ?_)
  refine lp rfl (p_as rfl) ?_
  refine lj_seq ?_
  refine cj_seq ?_
  refine cj_reg ?_
  refine lp rfl (p_mv rfl) ?_
  refine lp rfl (p_neq rfl rfl) ?_
  refine lj_seq ?_
  refine cj_if (b := y2 != 0) rfl (fun hb => ?_) (fun hb => ?_)
  · have hm := ifB_t hb hm
    refine cj_seq ?_
    refine cj_reg ?_
    refine lp rfl (p_mv rfl) ?_
    refine lp rfl (p_as rfl) ?_
    refine lj_seq ?_
    obtain rfl := Option.some.inj hm
    exact cj_rt () [] Tryz.results10 (.tmp rfl .nil) rfl rfl
  · have hm := ifB_f hb hm
    refine cj_skip ?_
    refine nj_seq ?_
    refine cj_seq ?_
    refine cj_seq ?_
    refine cj_reg ?_
    obtain ⟨k5, hk5, hm⟩ := bindS hm
    have hRk5 : ∀ t, k5 = .inr t → some t = some r := fun t e => by rw [e] at hm; exact hm
    refine lj_join (σ := Bool) (γ := Unit) (fun u3 => k5 = .inl u3) (fun u3 g4 => [(2, .int .i64 0), (36, .bool u3)]) (fun u3 g4 => Sat w0 (keys ([] : List Ent)) A []) (fun u3 g4 hq => ?_) (fun J cnk5 => ?_)
    · have hm := Sum.fin_l hq hm
      refine cj_if (b := u3) rfl (fun hb => ?_) (fun hb => ?_)
      · have hm := ifB_t hb hm
        refine cj_seq ?_
        refine cj_reg ?_
        refine lp rfl (p_as rfl) ?_
        refine lj_seq ?_
        obtain rfl := Option.some.inj hm
        exact cj_rt () [] Tryz.results10 (.tmp rfl .nil) rfl rfl
      · have hm := ifB_f hb hm
        refine cj_skip ?_
        refine nj_seq ?_
        refine cj_seq ?_
        refine cj_reg ?_
        refine lp rfl (p_as rfl) ?_
        refine lj_seq ?_
        obtain rfl := Option.some.inj hm
        exact cj_rt () [] Tryz.results10 (.tmp rfl .nil) rfl rfl
    · have hm := hk5
      refine lp rfl (p_fab fl28_1 rfl) ?_
      refine lp rfl (p_lbs ty3 rfl (j := 0) rfl rfl) ?_
      obtain ⟨y6, hy6, hm⟩ := bindS hm
      refine r_call [] cf37 rfl rfl (ok_gleeref2_in a0.Change 0 86400000 hy6) rfl rfl .nil (fun _ => rfl) rfl (fun _ => ?_)
      refine lp rfl (p_not rfl) ?_
      refine lp rfl (p_mv rfl) ?_
      refine lcase (i := 14) (!y6) rfl (fun hb => ?_) (fun hb => ?_)
      · have hm := ifB_t hb hm
        refine ls false rfl rfl rfl rfl ?_
        refine ls false rfl rfl rfl rfl ?_
        refine ls false rfl rfl rfl rfl ?_
        refine ls false rfl rfl rfl rfl ?_
        refine lp rfl (p_pkt rfl rfl) ?_
        refine lp rfl (p_mv rfl) ?_
        refine ls false rfl rfl rfl rfl ?_
        refine ls false rfl rfl rfl rfl ?_
        refine ls false rfl rfl rfl rfl ?_
        refine ls false rfl rfl rfl rfl ?_
        refine lp rfl (p_pkt rfl rfl) ?_
        refine lp rfl (p_mv rfl) ?_
        refine ls false rfl rfl rfl rfl ?_
        refine ls false rfl rfl rfl rfl ?_
        refine ls false rfl rfl rfl rfl ?_
        refine ls false rfl rfl rfl rfl ?_
        refine ls false rfl rfl rfl rfl ?_
        refine ls false rfl rfl rfl rfl ?_
        refine ls false rfl rfl rfl rfl ?_
        refine ls false rfl rfl rfl rfl ?_
        refine ls false rfl rfl rfl rfl ?_
        refine lp rfl (p_pkt rfl rfl) ?_
        refine lj_nil ?_
        exact cnk5 _ _ true () (Option.some.inj hm).symm ⟨rfl, rfl, trivial⟩ (fun _ h => h.picks [] rfl)
      · have hm := ifB_f hb hm
        refine lg false rfl rfl rfl ?_
        refine lp rfl (p_fab fl28_2 rfl) ?_
        refine lg false rfl rfl rfl ?_
        refine lp rfl (p_lbs ty3 rfl (j := 0) rfl rfl) ?_
        refine lg false rfl rfl rfl ?_
        obtain ⟨y7, hy7, hm⟩ := bindS hm
        refine r_call [] cf37 rfl rfl (ok_gleeref2_in a0.Clap 0 86400000 hy7) rfl rfl .nil (fun _ => rfl) rfl (fun _ => ?_)
        refine lg false rfl rfl rfl ?_
        refine lp rfl (p_not rfl) ?_
        refine lp rfl (p_pkf rfl rfl) ?_
        refine lp rfl (p_mv rfl) ?_
        refine lcase (i := 20) (!y7) rfl (fun hb => ?_) (fun hb => ?_)
        · have hm := ifB_t hb hm
          refine ls false rfl rfl rfl rfl ?_
          refine ls false rfl rfl rfl rfl ?_
          refine ls false rfl rfl rfl rfl ?_
          refine ls false rfl rfl rfl rfl ?_
          refine lp rfl (p_pkt rfl rfl) ?_
          refine lp rfl (p_mv rfl) ?_
          refine ls false rfl rfl rfl rfl ?_
          refine ls false rfl rfl rfl rfl ?_
          refine ls false rfl rfl rfl rfl ?_
          refine ls false rfl rfl rfl rfl ?_
          refine ls false rfl rfl rfl rfl ?_
          refine ls false rfl rfl rfl rfl ?_
          refine ls false rfl rfl rfl rfl ?_
          refine ls false rfl rfl rfl rfl ?_
          refine ls false rfl rfl rfl rfl ?_
          refine lp rfl (p_pkt rfl rfl) ?_
          refine lj_nil ?_
          exact cnk5 _ _ true () (Option.some.inj hm).symm ⟨rfl, rfl, trivial⟩ (fun _ h => h.picks [] rfl)
        · have hm := ifB_f hb hm
          refine lg false rfl rfl rfl ?_
          refine lp rfl (p_fab fl28_3 rfl) ?_
          refine lg false rfl rfl rfl ?_
          refine lp rfl (p_lbs ty3 rfl (j := 0) rfl rfl) ?_
          refine lg false rfl rfl rfl ?_
          obtain ⟨y8, hy8, hm⟩ := bindS hm
          refine r_call [] cf37 rfl rfl (ok_gleeref2_in a0.Break 0 86400000 hy8) rfl rfl .nil (fun _ => rfl) rfl (fun _ => ?_)
          refine lg false rfl rfl rfl ?_
          refine lp rfl (p_not rfl) ?_
          refine lp rfl (p_pkf rfl rfl) ?_
          refine lp rfl (p_mv rfl) ?_
          refine lcase (i := 26) (!y8) rfl (fun hb => ?_) (fun hb => ?_)
          · have hm := ifB_t hb hm
            refine ls false rfl rfl rfl rfl ?_
            refine ls false rfl rfl rfl rfl ?_
            refine ls false rfl rfl rfl rfl ?_
            refine ls false rfl rfl rfl rfl ?_
            refine ls false rfl rfl rfl rfl ?_
            refine ls false rfl rfl rfl rfl ?_
            refine ls false rfl rfl rfl rfl ?_
            refine ls false rfl rfl rfl rfl ?_
            refine ls false rfl rfl rfl rfl ?_
            refine lp rfl (p_pkt rfl rfl) ?_
            refine lj_nil ?_
            exact cnk5 _ _ true () (Option.some.inj hm).symm ⟨rfl, rfl, trivial⟩ (fun _ h => h.picks [] rfl)
          · have hm := ifB_f hb hm
            refine lg false rfl rfl rfl ?_
            refine lp rfl (p_fab fl28_4 rfl) ?_
            refine lg false rfl rfl rfl ?_
            refine lp rfl (p_lbs ty3 rfl (j := 0) rfl rfl) ?_
            refine lg false rfl rfl rfl ?_
            refine lp rfl (p_fab fl28_0 rfl) ?_
            refine lg false rfl rfl rfl ?_
            refine lp rfl (p_lbs ty26 rfl (j := 0) rfl rfl) ?_
            refine lg false rfl rfl rfl ?_
            refine lp rfl (p_lenG hL0_0_ Tryz.underlying26 rfl (.ro 2 rfl)) ?_
            refine lg false rfl rfl rfl ?_
            refine lp rfl (p_sub rfl rfl) ?_
            refine lg false rfl rfl rfl ?_
            refine lp rfl (p_max rfl rfl) ?_
            refine lg false rfl rfl rfl ?_
            obtain ⟨y9, hy9, hm⟩ := bindS hm
            refine r_call [] cf37 rfl rfl (ok_gleeref2_in a0.Half (-1) (max (-1) (w64 ((a0.Items.length : Int) - 2))) hy9) rfl rfl .nil (fun _ => rfl) rfl (fun _ => ?_)
            refine lg false rfl rfl rfl ?_
            refine lp rfl (p_not rfl) ?_
            refine lp rfl (p_pkf rfl rfl) ?_
            refine lj_nil ?_
            exact cnk5 _ _ (!y9) () (Option.some.inj hm).symm ⟨rfl, rfl, trivial⟩ (fun _ h => h.picks [] rfl)
theorem ok_gleelaw2_when (a0 : Bool) (a1 : Int) {r : Int} (hm : m_gleelaw2_when a0 a1 = some r) :
    Ctr Tryz.prog 13 [.bool a0, .int .i64 a1].toArray ([] : List Ent) [] (X := Unit) (fun _ => .int .i64 r) (fun _ => []) := by
  unfold m_gleelaw2_when at hm
  refine ctr_mk (vs := [(0, .bool a0), (1, .int .i64 a1)]) Tryz.func13 rfl Tryz.ntmps13 rfl ⟨rfl, rfl, trivial⟩ (fun w0 A => ?_)
  refine cj_seq ?_
  refine cj_reg ?_
  refine lp rfl (p_as rfl) ?_
  refine lj_seq ?_
  refine cj_seq ?_
  refine cj_seq ?_
  refine cj_reg ?_
  refine lp rfl (p_mv rfl) ?_
  refine lj_seq ?_
  refine cj_if (b := a0) rfl (fun hb => ?_) (fun hb => ?_)
  · have hm := ifB_t hb hm
    refine cj_seq ?_
    refine cj_reg ?_
    refine lp rfl (p_mv rfl) ?_
    refine lp rfl (p_as rfl) ?_
    refine lj_seq ?_
    obtain rfl := Option.some.inj hm
    exact cj_rt () [] Tryz.results13 (.tmp rfl .nil) rfl rfl
  · have hm := ifB_f hb hm
    refine cj_skip ?_
    refine nj_seq ?_
    refine cj_seq ?_
    refine cj_reg ?_
    refine lp rfl (p_as rfl) ?_
    refine lj_seq ?_
    obtain rfl := Option.some.inj hm
    exact cj_rt () [] Tryz.results13 (.tmp rfl .nil) rfl rfl
theorem ok_gleelaw2_nameFault (a0 : ByteArray) {r : Int} (hm : m_gleelaw2_nameFault a0 = some r) :
    Ctr Tryz.prog 12 [.string a0].toArray ([] : List Ent) [] (X := Unit) (fun _ => .int .i64 r) (fun _ => []) := by
  unfold m_gleelaw2_nameFault at hm
  refine ctr_mk (vs := [(0, .string a0)]) Tryz.func12 rfl Tryz.ntmps12 rfl ⟨rfl, trivial⟩ (fun w0 A => ?_)
  refine cj_seq ?_
  refine cj_reg ?_
  refine lp rfl (p_as rfl) ?_
  refine lj_seq ?_
  refine cj_seq ?_
  refine cj_reg ?_
  refine lp rfl (p_mv rfl) ?_
  obtain ⟨y1, hy1, hm⟩ := bindS hm
  refine r_call [] cf38 rfl rfl (ok_gleeref2_Key a0 hy1) rfl rfl .nil (fun _ => rfl) rfl (fun _ => ?_)
  refine lp rfl (p_not rfl) ?_
  obtain ⟨y2, hy2, hm⟩ := bindS hm
  refine r_call [] cf13 rfl rfl (ok_gleelaw2_when (!y1) 5 hy2) rfl rfl .nil (fun _ => rfl) rfl (fun _ => ?_)
  refine lp rfl (p_as rfl) ?_
  refine lj_seq ?_
  obtain rfl := Option.some.inj hm
  exact cj_rt () [] Tryz.results12 (.tmp rfl .nil) rfl rfl
theorem ok_gleelaw2_errs (s0_ : SV) (a0 : (List Int)) {r : Int} (hm : m_gleelaw2_errs a0 = some r) :
    Ctr Tryz.prog 11 [s0_.v].toArray ([] : List Ent) [RdS R33 (SV.v s0_) a0] (X := Unit) (fun _ => .int .i64 r) (fun _ => []) := by
  unfold m_gleelaw2_errs at hm
  refine ctr_mk (vs := [(0, s0_.v)]) Tryz.func11 rfl Tryz.ntmps11 rfl ⟨rfl, trivial⟩ (fun w0 A => ?_)
  refine cj_seq ?_
  refine cj_reg ?_
  refine lp rfl (p_as rfl) ?_
  refine lj_seq ?_
  refine cj_seq ?_
  refine cj_seq ?_
  refine cj_reg ?_
  refine lp rfl (p_mv rfl) ?_
  refine lp rfl (p_len Tryz.underlying73 rfl (.ro 0 rfl)) ?_
  refine lp rfl (p_mv rfl) ?_
  refine lj_seq ?_
  obtain ⟨f7, hf7, hm⟩ := bindS hm
  refine cj_range (γ := Unit) (m := (a0.length : Int)) hf7 () (fun u4 g5 => [(2, .int .i64 0), (5, s0_.v)]) (fun u4 g5 => Sat w0 (keys ([] : List Ent)) A [.ro (RdS R33 (SV.v s0_) a0)]) ⟨rfl, rfl, rfl, rfl, trivial⟩ (fun _ h => h.picks [0] rfl) (nat_lt _) (fun _ h => (FactAt.get (F := RdS R33 (SV.v s0_) a0) (.ro 0 rfl) h).1) (fun _ _ => ⟨rfl, rfl, rfl, rfl⟩) ⟨rfl, rfl, rfl, rfl, rfl⟩ rfl rfl rfl (fun u4 g5 e => ?_) (fun aftk6 i1 x2 u4 g5 k6 hx3 hs J hJk6 hBk6 hX I cnk6 => ?_)
  · have hm := Flow.fin_b e hm
    refine nj_seq ?_
    refine cj_seq ?_
    refine cj_reg ?_
    refine lp rfl (p_as rfl) ?_
    refine lj_seq ?_
    obtain rfl := Option.some.inj hm
    exact cj_rt () [] Tryz.results11 (.tmp rfl .nil) rfl rfl
  · have hRk6 : ∀ t, k6 = .ret t → some t = some r := fun t e => by rw [hX t e] at hm; exact hm
    have hm := hs
    refine cj_seq ?_
    refine cj_reg ?_
    refine lp rfl (p_idx Tryz.underlying73 ty33 rfl rfl (.ro 0 rfl) (getI_nat.trans hx3)) ?_
    refine lp rfl (p_lde (o := 0) ty33 rfl rfl (.ro 0 rfl) hx3 rfl) ?_
    refine lp rfl (p_as rfl) ?_
    refine lj_seq ?_
    refine cj_seq ?_
    refine cj_reg ?_
    refine lp rfl (p_mv rfl) ?_
    refine lp rfl (p_neq rfl rfl) ?_
    refine lj_seq ?_
    refine cj_if (b := x2 != 0) rfl (fun hb => ?_) (fun hb => ?_)
    · have hm := ifB_t hb hm
      refine cj_seq ?_
      refine cj_reg ?_
      refine lp rfl (p_mv rfl) ?_
      refine lp rfl (p_as rfl) ?_
      refine lj_seq ?_
      have hm := hRk6 _ (Option.some.inj hm).symm
      obtain rfl := Option.some.inj hm
      exact cj_rt () [] Tryz.results11 (.tmp rfl .nil) rfl rfl
    · have hm := ifB_f hb hm
      refine cj_skip ?_
      refine nj_blk ?_
      exact cnk6 _ _ () () (hJk6 _ (Option.some.inj hm).symm) ⟨rfl, rfl, rfl, rfl, trivial⟩ (fun _ h => h.picks [0] rfl)
theorem ok_gleeref2_partsIn (s0_ : SV) (xg0_ : List (TItem × SV)) (a0 : (List TItem)) {r : (List ByteArray)} (hm : m_gleeref2_partsIn a0 = some r) :
    Ctr Tryz.prog 39 [s0_.v].toArray ([] : List Ent) [Lk N57 a0 xg0_, RdS N57.R (SV.v s0_) xg0_] (X := SV) (fun s => s.v) (fun s => [.row R9 (SV.v s) r]) := by
  unfold m_gleeref2_partsIn at hm
  refine ctr_mk (vs := [(0, s0_.v)]) Tryz.func39 rfl Tryz.ntmps39 rfl ⟨rfl, trivial⟩ (fun w0 A => ?_)
  refine cj_pure (F := Lk N57 a0 xg0_) (.ro 0 rfl) (fun _ h => h.1) (fun hL0_ => ?_)
  refine cj_seq ?_
  refine cj_reg ?_
  refine lp rfl (p_as rfl) ?_
  refine lj_seq ?_
  refine cj_seq ?_
  refine cj_reg ?_
  refine lp rfl (p_as rfl) ?_
  refine lj_seq ?_
  refine cj_seq ?_
  refine cj_seq ?_
  refine cj_reg ?_
  refine lp rfl (p_mv rfl) ?_
  refine lp rfl (p_lenG hL0_ Tryz.underlying26 rfl (.ro 1 rfl)) ?_
  refine lp rfl (p_mv rfl) ?_
  refine lj_seq ?_
  refine cj_nil R9 ?_
  obtain ⟨f8, hf8, hm⟩ := bindS hm
  refine cj_range (γ := SV) (m := (a0.length : Int)) hf8 nilS (fun u5 g6 => [(2, .slice none 0 0), (3, g6.v), (6, s0_.v)]) (fun u5 g6 => Sat w0 (keys ([] : List Ent)) A [.ro (Lk N57 a0 xg0_), .ro (RdS N57.R (SV.v s0_) xg0_), .row R9 (SV.v g6) u5]) ⟨rfl, rfl, rfl, rfl, rfl, trivial⟩ (fun _ h => h.picks [1, 1, 0] rfl) (nat_lt _) (fun _ h => by have h1 := (FactAt.get (F := RdS N57.R (SV.v s0_) xg0_) (.ro 2 rfl) h).1; rw [lk_len hL0_] at h1; exact h1) (fun _ _ => ⟨rfl, rfl, rfl, rfl⟩) ⟨rfl, rfl, rfl, rfl, rfl⟩ rfl rfl rfl (fun u5 g6 e => ?_) (fun aftk7 i1 x2 u5 g6 k7 hx3 hs J hJk7 hBk7 hX I cnk7 => ?_)
  · have hm := Flow.fin_b e hm
    refine nj_seq ?_
    refine cj_seq ?_
    refine cj_reg ?_
    refine lp rfl (p_mv rfl) ?_
    obtain ⟨y14, hy14, hm⟩ := bindS hm
    refine r_call [2] cf62 rfl rfl (ok_slices_Sort_string_string g6 u5 hy14) rfl rfl .nil (fun _ => rfl) rfl (fun _ => ?_)
    refine lj_seq ?_
    refine cj_seq ?_
    refine cj_reg ?_
    refine lp rfl (p_mv rfl) ?_
    obtain ⟨y15, hy15, hm⟩ := bindS hm
    refine r_call [0] cf63 rfl rfl (ok_slices_Compact_string_string g6 y14 hy15) rfl rfl .nil (fun _ => rfl) rfl (fun s16 => ?_)
    refine lp rfl (p_as rfl) ?_
    refine lj_seq ?_
    obtain rfl := Option.some.inj hm
    exact cj_rt s16 [0] Tryz.results39 (.tmp rfl .nil) rfl rfl
  · have hRk7 : ∀ t, k7 = .ret t → some t = some r := fun t e => by rw [hX t e] at hm; exact hm
    have hm := hs
    refine cj_seq ?_
    refine cj_reg ?_
    obtain ⟨gx2, hx3G⟩ := lk_get hL0_ hx3
    refine lp rfl (p_idx Tryz.underlying26 ty57 rfl rfl (.ro 1 rfl) (getI_nat.trans hx3G)) ?_
    refine lp rfl (p_leaN (cs := [.string x2.Key, .string x2.Places, .int .i64 x2.Long, gx2.v]) ty57 rfl (.ro 1 rfl) hx3G rfl) ?_
    refine r_al ty57 rfl (fun b10 => ?_)
    refine r_sb (vs := [.string x2.Key, .string x2.Places, .int .i64 x2.Long, gx2.v]) (j := 0) ty57 rfl rfl rfl rfl rfl rfl rfl ?_
    refine lj_seq ?_
    refine cj_reg ?_
    refine lp rfl (p_mv rfl) ?_
    refine lp rfl (p_fab fl57_3 rfl) ?_
    refine lp rfl (p_lbs ty55 rfl (j := 0) rfl rfl) ?_
    obtain ⟨q11, hq11, hm⟩ := bindS hm
    refine r_app (k := 3) Tryz.underlying55 ty9 rfl rfl rfl rfl (.imp (.ro 1 rfl) (fun _ h => (Lk.at_ h hx3G))) hq11 rfl (fun s12 => ?_)
    refine lp rfl (p_as rfl) ?_
    refine lj_nil ?_
    refine nj_blk ?_
    exact cnk7 _ _ q11 s12 (hJk7 _ (Option.some.inj hm).symm) ⟨rfl, rfl, rfl, rfl, rfl, trivial⟩ (fun _ h => h.picks [1, 1, 1] rfl)
theorem ok_gleeref2_sign (a0 : Int) {r : Int} (hm : m_gleeref2_sign a0 = some r) :
    Ctr Tryz.prog 42 [.int .i64 a0].toArray ([] : List Ent) [] (X := Unit) (fun _ => .int .i64 r) (fun _ => []) := by
  unfold m_gleeref2_sign at hm
  refine ctr_mk (vs := [(0, .int .i64 a0)]) Tryz.func42 rfl Tryz.ntmps42 rfl ⟨rfl, trivial⟩ (fun w0 A => ?_)
  refine cj_seq ?_
  refine cj_reg ?_
  refine lp rfl (p_as rfl) ?_
  refine lj_seq ?_
  refine cj_seq ?_
  refine cj_blk ?_
  refine cj_seq ?_
  refine cj_reg ?_
  refine lp rfl (p_mv rfl) ?_
  refine lp rfl (p_lss rfl rfl) ?_
  refine lp rfl (p_as rfl) ?_
  refine lj_seq ?_
  refine cj_if (b := decide (a0 < 0)) rfl (fun hb => ?_) (fun hb => ?_)
  · have hm := ifB_t hb hm
    refine cj_seq ?_
    refine cj_reg ?_
    refine lp rfl (p_as rfl) ?_
    refine lj_seq ?_
    obtain rfl := Option.some.inj hm
    exact cj_rt () [] Tryz.results42 (.tmp rfl .nil) rfl rfl
  · have hm := ifB_f hb hm
    refine cj_seq ?_
    refine cj_reg ?_
    refine lp rfl (p_mv rfl) ?_
    refine lp rfl (p_gtr rfl rfl) ?_
    refine lp rfl (p_as rfl) ?_
    refine lj_seq ?_
    refine cj_if (b := decide (a0 > 0)) rfl (fun hb => ?_) (fun hb => ?_)
    · have hm := ifB_t hb hm
      refine cj_seq ?_
      refine cj_reg ?_
      refine lp rfl (p_as rfl) ?_
      refine lj_seq ?_
      obtain rfl := Option.some.inj hm
      exact cj_rt () [] Tryz.results42 (.tmp rfl .nil) rfl rfl
    · have hm := ifB_f hb hm
      refine cj_skip ?_
      refine nj_blk ?_
      refine nj_seq ?_
      refine cj_seq ?_
      refine cj_reg ?_
      refine lp rfl (p_as rfl) ?_
      refine lj_seq ?_
      obtain rfl := Option.some.inj hm
      exact cj_rt () [] Tryz.results42 (.tmp rfl .nil) rfl rfl
theorem ok_gleeref2_SungBy_1 (a0 : TPair) (a1 : TPair) (b2_ : Nat) (b2_0_ : Nat) (es2_0_ : Array MapEntry) (cl2_0_ : Nat) (a2_0 : (List (ByteArray × Int))) {r : Int} (hm : m_gleeref2_SungBy_1 a0 a1 a2_0 = some r) :
    Ctr Tryz.prog 41 [.agg (R48.enc a0).toArray, .agg (R48.enc a1).toArray, .pointer (some ⟨b2_, 0, none⟩)].toArray ([] : List Ent) [BoxS b2_ 59 [.map (some b2_0_)], MapAt kv9 b2_0_ (mpV vv3 a2_0) es2_0_ cl2_0_] (X := Unit) (fun _ => .int .i64 r) (fun _ => []) := by
  unfold m_gleeref2_SungBy_1 at hm
  refine ctr_mk (vs := [(0, .agg (R48.enc a0).toArray), (1, .agg (R48.enc a1).toArray), (2, .pointer (some ⟨b2_, 0, none⟩))]) Tryz.func41 rfl Tryz.ntmps41 rfl ⟨rfl, rfl, rfl, trivial⟩ (fun w0 A => ?_)
  refine cj_seq ?_
  refine cj_reg ?_
  refine r_bx (cs := [.string a0.Name, .string a0.Value]) rfl rfl rfl (fun b1 => ?_)
  refine r_bx (cs := [.string a1.Name, .string a1.Value]) rfl rfl rfl (fun b2 => ?_)
  refine lp rfl (p_as rfl) ?_
  refine lj_seq ?_
  refine cj_seq ?_
  refine cj_reg ?_
  refine lp rfl (p_rbs ty59 rfl (.ro 2 rfl) rfl) ?_
  refine lp rfl (p_fab fl48_0 rfl) ?_
  refine lp rfl (p_lbs ty9 rfl (j := 0) rfl rfl) ?_
  refine lp rfl (p_lkm (vv := vv3) (k := a1.Name) (z := 0) Tryz.underlying59 (keyF9) (fun _ => by kernel_rfl) (.ro 3 rfl) rfl rfl) ?_
  refine lp rfl (p_rbs ty59 rfl (.ro 2 rfl) rfl) ?_
  refine lp rfl (p_fab fl48_0 rfl) ?_
  refine lp rfl (p_lbs ty9 rfl (j := 1) rfl rfl) ?_
  refine lp rfl (p_lkm (vv := vv3) (k := a0.Name) (z := 0) Tryz.underlying59 (keyF9) (fun _ => by kernel_rfl) (.ro 3 rfl) rfl rfl) ?_
  refine lp rfl (p_sub rfl rfl) ?_
  obtain ⟨y3, hy3, hm⟩ := bindS hm
  refine r_call [] cf42 rfl rfl (ok_gleeref2_sign (w64 (((lkM a2_0 a1.Name).getD 0) - ((lkM a2_0 a0.Name).getD 0))) hy3) rfl rfl .nil (fun _ => rfl) rfl (fun _ => ?_)
  refine lp rfl (p_as rfl) ?_
  refine lj_seq ?_
  obtain rfl := Option.some.inj hm
  exact cj_rt () [] Tryz.results41 (.tmp rfl .nil) rfl rfl
theorem ok_slices_insertionSortCmpFunc_api_Pair__gleeref2_SungBy_1 (s0_ : SV) (a0 : (List TPair)) (a1 : Int) (a2 : Int) (b3_c0_ : Nat) (b3_c0_0_ : Nat) (es3_c0_0_ : Array MapEntry) (cl3_c0_0_ : Nat) (a3_c0_0 : (List (ByteArray × Int))) {r : (List TPair)} (hm : m_slices_insertionSortCmpFunc_api_Pair__gleeref2_SungBy_1 a0 a1 a2 a3_c0_0 = some r) :
    Ctr Tryz.prog 95 [s0_.v, .int .i64 a1, .int .i64 a2, .func (.func 41) #[] [.pointer (some ⟨b3_c0_, 0, none⟩)].toArray].toArray [.row R48 (SV.v s0_) a0] [BoxS b3_c0_ 59 [.map (some b3_c0_0_)], MapAt kv9 b3_c0_0_ (mpV vv3 a3_c0_0) es3_c0_0_ cl3_c0_0_] (X := Unit) (fun _ => .tuple [].toArray) (fun _ => [.row R48 (SV.v s0_) r]) := by
  unfold m_slices_insertionSortCmpFunc_api_Pair__gleeref2_SungBy_1 at hm
  refine ctr_mk (vs := [(0, s0_.v), (1, .int .i64 a1), (2, .int .i64 a2), (3, .func (.func 41) #[] [.pointer (some ⟨b3_c0_, 0, none⟩)].toArray)]) Tryz.func95 rfl Tryz.ntmps95 rfl ⟨rfl, rfl, rfl, rfl, trivial⟩ (fun w0 A => ?_)
  refine cj_seq ?_
  refine cj_reg ?_
  refine lp rfl (p_mv rfl) ?_
  refine lp rfl (p_add rfl rfl) ?_
  refine lp rfl (p_as rfl) ?_
  refine lj_seq ?_
  obtain ⟨f4, hf4, hm⟩ := bindS hm
  refine cj_whileA (γ := Unit) hf4 () (fun u1 g2 => [(0, s0_.v), (1, .int .i64 a1), (2, .int .i64 a2), (3, .func (.func 41) #[] [.pointer (some ⟨b3_c0_, 0, none⟩)].toArray), (8, .int .i64 u1.1)]) (fun u1 g2 => Sat w0 (keys [.row R48 (SV.v s0_) a0]) A [.ro (BoxS b3_c0_ 59 [.map (some b3_c0_0_)]), .ro (MapAt kv9 b3_c0_0_ (mpV vv3 a3_c0_0) es3_c0_0_ cl3_c0_0_), .row R48 (SV.v s0_) u1.2]) ⟨rfl, rfl, rfl, rfl, rfl, trivial⟩ (fun _ h => h.picks [1, 1, 0] rfl) (fun u1 g2 e => ?_) (fun aftk3 u1 g2 k3 hs J hJk3 hBk3 hX I cnk3 => ?_)
  · have hm := Flow.fin_b e hm
    obtain rfl := Option.some.inj hm
    exact nj_rt () [2] Tryz.results95 .nil rfl rfl
  · have hRk3 : ∀ t, k3 = .ret t → some t = some r := fun t e => by rw [hX t e] at hm; exact hm
    have hm := hs
    refine cj_seq ?_
    refine cj_seq ?_
    refine cj_reg ?_
    refine lp rfl (p_mv rfl) ?_
    refine lp rfl (p_mv rfl) ?_
    refine lp rfl (p_lss rfl rfl) ?_
    refine lj_seq ?_
    refine cj_if (b := decide (u1.1 < a2)) rfl (fun hb => ?_) (fun hb => ?_)
    · have hm := ifB_t hb hm
      refine cj_skip ?_
      refine nj_seq ?_
      refine cj_seq ?_
      refine cj_blk ?_
      refine cj_seq ?_
      refine cj_reg ?_
      refine lp rfl (p_mv rfl) ?_
      refine lp rfl (p_as rfl) ?_
      refine lj_seq ?_
      obtain ⟨f8, hf8, hm⟩ := bindS hm
      refine cj_whileA (γ := Unit) hf8 () (fun u5 g6 => [(0, s0_.v), (1, .int .i64 a1), (2, .int .i64 a2), (3, .func (.func 41) #[] [.pointer (some ⟨b3_c0_, 0, none⟩)].toArray), (8, .int .i64 u1.1), (9, .int .i64 u5.1)]) (fun u5 g6 => Sat w0 (keys [.row R48 (SV.v s0_) a0]) A [.ro (BoxS b3_c0_ 59 [.map (some b3_c0_0_)]), .ro (MapAt kv9 b3_c0_0_ (mpV vv3 a3_c0_0) es3_c0_0_ cl3_c0_0_), .row R48 (SV.v s0_) u5.2]) ⟨rfl, rfl, rfl, rfl, rfl, rfl, trivial⟩ (fun _ h => h.picks [0, 0, 0] rfl) (fun u5 g6 e => ?_) (fun aftk7 u5 g6 k7 hs J hJk7 hBk7 hX I cnk7 => ?_)
      · have hm := Flow.fin_b e hm
        refine nj_blk ?_
        refine nj_seq ?_
        refine cj_reg ?_
        refine lp rfl (p_mv rfl) ?_
        refine lp rfl (p_add rfl rfl) ?_
        refine lp rfl (p_as rfl) ?_
        refine lj_nil ?_
        exact cnk3 _ _ (w64 (u1.1 + 1), u5.2) () (hJk3 _ (Option.some.inj hm).symm) ⟨rfl, rfl, rfl, rfl, rfl, trivial⟩ (fun _ h => h.picks [0, 0, 0] rfl)
      · have hRk7 : ∀ t, k7 = .ret t → some t = some k3 := fun t e => by rw [hX t e] at hm; exact hm
        have hm := hs
        refine cj_seq ?_
        refine cj_seq ?_
        refine cj_quiet (by kernel_rfl) (by kernel_rfl) ?_
        refine q_p rfl (p_mv rfl) ?_
        refine q_p rfl (p_mv rfl) ?_
        refine q_p rfl (p_gtr rfl rfl) ?_
        refine q_p rfl (p_mv rfl) ?_
        refine q_case (i := 21) (decide (u5.1 > a1)) rfl (fun hb => ?_) (fun hb => ?_)
        · have hm := ifB_t hb hm
          refine q_g true rfl rfl rfl ?_
          refine q_p rfl (p_mv rfl) ?_
          refine q_g true rfl rfl rfl ?_
          refine q_p rfl (p_mv rfl) ?_
          refine q_g true rfl rfl rfl ?_
          refine q_p rfl (p_mv rfl) ?_
          refine q_g true rfl rfl rfl ?_
          obtain ⟨e9, he9, hm⟩ := bindS hm
          refine q_p rfl (p_idx Tryz.underlying32 ty48 rfl rfl (.row 2 rfl) he9) ?_
          refine q_g true rfl rfl rfl ?_
          refine q_p rfl (p_lea ty48 rfl (.row 2 rfl) (getI_spec he9).2) ?_
          refine q_g true rfl rfl rfl ?_
          refine q_p rfl (p_mv rfl) ?_
          refine q_g true rfl rfl rfl ?_
          refine q_p rfl (p_mv rfl) ?_
          refine q_g true rfl rfl rfl ?_
          refine q_p rfl (p_sub rfl rfl) ?_
          refine q_g true rfl rfl rfl ?_
          obtain ⟨e10, he10, hm⟩ := bindS hm
          refine q_p rfl (p_idx Tryz.underlying32 ty48 rfl rfl (.row 2 rfl) he10) ?_
          refine q_g true rfl rfl rfl ?_
          refine q_p rfl (p_lea ty48 rfl (.row 2 rfl) (getI_spec he10).2) ?_
          refine q_g true rfl rfl rfl ?_
          obtain ⟨y11, hy11, hm⟩ := bindS hm
          refine q_call (.int .i64 y11) cf41 rfl rfl (ok_gleeref2_SungBy_1 e9 e10 b3_c0_ b3_c0_0_ es3_c0_0_ cl3_c0_0_ a3_c0_0 hy11) (.cons (.ro 0 rfl) (.cons (.ro 1 rfl) .nil)) (fun _ => rfl) (fun _ => rfl) rfl ?_
          refine q_g true rfl rfl rfl ?_
          refine q_p rfl (p_lss rfl rfl) ?_
          refine q_p rfl (p_pkt rfl rfl) ?_
          refine q_nil ?_
          refine nj_seq ?_
          refine cj_if (b := decide (y11 < 0)) rfl (fun hb => ?_) (fun hb => ?_)
          · have hm := ifB_t hb hm
            refine cj_skip ?_
            refine nj_seq ?_
            refine cj_seq ?_
            refine cj_blk ?_
            refine cj_pure (F := RdS R48 (SV.v s0_) u5.2) (.row 2 rfl) (fun _ h => h.some_of (getI_spec he9).2) (fun hp16 => ?_)
            refine cj_pure (F := RdS R48 (SV.v s0_) u5.2) (.row 2 rfl) (fun _ h => h.pures) (fun hq17 => ?_)
            obtain ⟨e12, he12, hm⟩ := bindS hm
            obtain ⟨e13, he13, hm⟩ := bindS hm
            obtain ⟨e14, he14, hm⟩ := bindS hm
            obtain ⟨e15, he15, hm⟩ := bindS hm
            refine cj_anyT [0, 1, 2, 3, 4, 5, 6, 7, 8, 9, 10, 11, 13, 14] [15, 16, 17] (Sat w0 (keys [.row R48 (SV.v s0_) a0]) A [.ro (BoxS b3_c0_ 59 [.map (some b3_c0_0_)]), .ro (MapAt kv9 b3_c0_0_ (mpV vv3 a3_c0_0) es3_c0_0_ cl3_c0_0_), .row R48 (SV.v s0_) u5.2]) (Sat w0 (keys [.row R48 (SV.v s0_) a0]) A [.ro (BoxS b3_c0_ 59 [.map (some b3_c0_0_)]), .ro (MapAt kv9 b3_c0_0_ (mpV vv3 a3_c0_0) es3_c0_0_ cl3_c0_0_)]) (by kernel_rfl) ?_
            refine at_take2 0 rfl (by kernel_rfl) (by kernel_rfl) (by kernel_rfl) (fun _ h => h.picks [0, 0] rfl) rfl rfl (p_mv rfl) (fun _ h => h.picks [0, 0] rfl) ?_
            refine at_take2 1 rfl (by kernel_rfl) (by kernel_rfl) (by kernel_rfl) (fun _ h => h.picks [0, 0] rfl) rfl rfl (p_mv rfl) (fun _ h => h.picks [0, 0] rfl) ?_
            refine at_take2 2 rfl (by kernel_rfl) (by kernel_rfl) (by kernel_rfl) (fun _ h => h.picks [0, 0] rfl) rfl rfl (p_mv rfl) (fun _ h => h.picks [0, 0] rfl) ?_
            refine at_take2 3 rfl (by kernel_rfl) (by kernel_rfl) (by kernel_rfl) (fun _ h => h.picks [0, 0] rfl) rfl rfl (p_mv rfl) (fun _ h => h.picks [0, 0] rfl) ?_
            refine at_take2 4 rfl (by kernel_rfl) (by kernel_rfl) (by kernel_rfl) (fun _ h => h.picks [0, 0] rfl) rfl rfl (p_sub rfl rfl) (fun _ h => h.picks [0, 0] rfl) ?_
            refine at_take2 5 rfl (by kernel_rfl) (by kernel_rfl) (by kernel_rfl) (fun _ h => h.picks [0, 0] rfl) rfl rfl (p_mv rfl) (fun _ h => h.picks [0, 0] rfl) ?_
            refine at_take2 6 rfl (by kernel_rfl) (by kernel_rfl) (by kernel_rfl) (fun _ h => h.picks [0, 0] rfl) rfl rfl (p_mv rfl) (fun _ h => h.picks [0, 0] rfl) ?_
            refine at_take2 7 rfl (by kernel_rfl) (by kernel_rfl) (by kernel_rfl) (fun _ h => h.picks [0, 0] rfl) rfl rfl (p_sub rfl rfl) (fun _ h => h.picks [0, 0] rfl) ?_
            refine at_take1 8 rfl (by kernel_rfl) (by kernel_rfl) (by kernel_rfl) (by kernel_rfl) rfl rfl (p_idxP (R := R48) Tryz.underlying32 ty48 rfl rfl hq17 he12) (fun _ h => h.picks [0, 0, 0] rfl) ?_
            refine at_take1 9 rfl (by kernel_rfl) (by kernel_rfl) (by kernel_rfl) (by kernel_rfl) rfl rfl (p_lea ty48 rfl (.row 2 rfl) (getI_spec he12).2) (fun _ h => h.picks [0, 0, 0] rfl) ?_
            refine at_take2 10 rfl (by kernel_rfl) (by kernel_rfl) (by kernel_rfl) (fun _ h => h.picks [0, 0] rfl) rfl rfl (p_mv rfl) (fun _ h => h.picks [0, 0] rfl) ?_
            refine at_take2 11 rfl (by kernel_rfl) (by kernel_rfl) (by kernel_rfl) (fun _ h => h.picks [0, 0] rfl) rfl rfl (p_mv rfl) (fun _ h => h.picks [0, 0] rfl) ?_
            refine at_each (rs := [12]) (by kernel_rfl) (by decide) ?_
            refine (.cons rfl (fun I cnI => ?_) .nil)
            · refine lp rfl (p_idxP (R := R48) Tryz.underlying32 ty48 rfl rfl hq17 he13) ?_
              refine lj_nil ?_
              refine cnI _ _ (sof1 rfl rfl (fun _ h => h.picks [0, 0, 0] rfl)) ?_
              refine at_take1 13 rfl (by kernel_rfl) (by kernel_rfl) (by kernel_rfl) (by kernel_rfl) rfl rfl (p_lea ty48 rfl (.row 2 rfl) (getI_spec he13).2) (fun _ h => h.picks [0, 0, 0] rfl) ?_
              refine at_take1 14 rfl (by kernel_rfl) (by kernel_rfl) (by kernel_rfl) (by kernel_rfl) rfl rfl (p_idxP (R := R48) Tryz.underlying32 ty48 rfl rfl hq17 he14) (fun _ h => h.picks [0, 0, 0] rfl) ?_
              refine at_each (rs := [15]) (by kernel_rfl) (by decide) ?_
              refine (.cons rfl (fun I cnI => ?_) .nil)
              · refine r_ste (k := 2) (o := 0) (vs := [.string e12.Name, .string e12.Value]) ty48 rfl rfl rfl rfl rfl rfl rfl (getI_spec he14).2 e12 rfl rfl ?_
                refine lj_nil ?_
                refine cnI _ _ (sof2 rfl rfl (fun _ h => h.picks [0, 0] rfl)) ?_
                refine at_each (rs := [16]) (by kernel_rfl) (by decide) ?_
                refine (.cons rfl (fun I cnI => ?_) .nil)
                · refine lp rfl (p_idx Tryz.underlying32 ty48 rfl rfl (.row 2 rfl) he15) ?_
                  refine lj_nil ?_
                  refine cnI _ _ (sof2 rfl rfl (fun _ h => h.picks [0, 0] rfl)) ?_
                  refine at_each (rs := [17]) (by kernel_rfl) (by decide) ?_
                  refine (.cons rfl (fun I cnI => ?_) .nil)
                  · refine r_ste (k := 2) (o := 0) (vs := [.string e13.Name, .string e13.Value]) ty48 rfl rfl rfl rfl rfl rfl rfl (getI_spec he15).2 e13 rfl rfl ?_
                    refine lj_nil ?_
                    refine cnI _ _ (sof2 rfl rfl (fun _ h => h.picks [0, 0] rfl)) ?_
                    refine at_done (by kernel_rfl) ?_
                    refine nj_blk ?_
                    refine nj_seq ?_
                    refine cj_reg ?_
                    refine lp rfl (p_mv rfl) ?_
                    refine lp rfl (p_sub rfl rfl) ?_
                    refine lp rfl (p_as rfl) ?_
                    refine lj_nil ?_
                    exact cnk7 _ _ (w64 (u5.1 - 1), ((u5.2.set u5.1.toNat e12).set ((w64 (u5.1 - 1)).toNat) e13)) () (hJk7 _ (Option.some.inj hm).symm) ⟨rfl, rfl, rfl, rfl, rfl, rfl, trivial⟩ (fun _ h => h.picks [0, 0, 0] rfl)
          · have hm := ifB_f hb hm
            refine cj_exit rfl ?_
            exact (aftk7 (u5.1, u5.2) () (hBk7 _ (Option.some.inj hm).symm)).sub ⟨rfl, rfl, rfl, rfl, rfl, rfl, trivial⟩ (fun _ h => h.picks [0, 0, 0] rfl)
        · have hm := ifB_f hb hm
          refine q_s true rfl rfl rfl rfl ?_
          refine q_s true rfl rfl rfl rfl ?_
          refine q_s true rfl rfl rfl rfl ?_
          refine q_s true rfl rfl rfl rfl ?_
          refine q_s true rfl rfl rfl rfl ?_
          refine q_s true rfl rfl rfl rfl ?_
          refine q_s true rfl rfl rfl rfl ?_
          refine q_s true rfl rfl rfl rfl ?_
          refine q_s true rfl rfl rfl rfl ?_
          refine q_s true rfl rfl rfl rfl ?_
          refine q_s true rfl rfl rfl rfl ?_
          refine q_s true rfl rfl rfl rfl ?_
          refine q_p rfl (p_pkf rfl rfl) ?_
          refine q_nil ?_
          refine nj_seq ?_
          refine cj_if_f rfl ?_
          refine cj_exit rfl ?_
          exact (aftk7 (u5.1, u5.2) () (hBk7 _ (Option.some.inj hm).symm)).sub ⟨rfl, rfl, rfl, rfl, rfl, rfl, trivial⟩ (fun _ h => h.picks [0, 0, 0] rfl)
    · have hm := ifB_f hb hm
      refine cj_exit rfl ?_
      exact (aftk3 (u1.1, u1.2) () (hBk3 _ (Option.some.inj hm).symm)).sub ⟨rfl, rfl, rfl, rfl, rfl, trivial⟩ (fun _ h => h.picks [0, 0, 0] rfl)
theorem ok_slices_stableCmpFunc_api_Pair__gleeref2_SungBy_1 (s0_ : SV) (a0 : (List TPair)) (a1 : Int) (b2_c0_ : Nat) (b2_c0_0_ : Nat) (es2_c0_0_ : Array MapEntry) (cl2_c0_0_ : Nat) (a2_c0_0 : (List (ByteArray × Int))) {r : (List TPair)} (hm : m_slices_stableCmpFunc_api_Pair__gleeref2_SungBy_1 a0 a1 a2_c0_0 = some r) :
    Ctr Tryz.prog 64 [s0_.v, .int .i64 a1, .func (.func 41) #[] [.pointer (some ⟨b2_c0_, 0, none⟩)].toArray].toArray [.row R48 (SV.v s0_) a0] [BoxS b2_c0_ 59 [.map (some b2_c0_0_)], MapAt kv9 b2_c0_0_ (mpV vv3 a2_c0_0) es2_c0_0_ cl2_c0_0_] (X := Unit) (fun _ => .tuple [].toArray) (fun _ => [.row R48 (SV.v s0_) r]) := by
  unfold m_slices_stableCmpFunc_api_Pair__gleeref2_SungBy_1 at hm
  refine ctr_mk (vs := [(0, s0_.v), (1, .int .i64 a1), (2, .func (.func 41) #[] [.pointer (some ⟨b2_c0_, 0, none⟩)].toArray)]) Tryz.func64 rfl Tryz.ntmps64 rfl ⟨rfl, rfl, rfl, trivial⟩ (fun w0 A => ?_)
  refine cj_seq ?_
  refine cj_reg ?_
  refine lp rfl (p_as rfl) ?_
  refine lj_seq ?_
  refine cj_seq ?_
  refine cj_reg ?_
  refine lp rfl (p_mv rfl) ?_
  refine lp rfl (p_as rfl) ?_
  refine lp rfl (p_as rfl) ?_
  refine lj_seq ?_
  refine cj_seq ?_
  obtain ⟨f4, hf4, hm⟩ := bindS hm
  refine cj_whileA (γ := Unit) hf4 () (fun u1 g2 => [(0, s0_.v), (1, .int .i64 a1), (2, .func (.func 41) #[] [.pointer (some ⟨b2_c0_, 0, none⟩)].toArray), (6, .int .i64 20), (7, .int .i64 u1.1), (8, .int .i64 u1.2.1)]) (fun u1 g2 => Sat w0 (keys [.row R48 (SV.v s0_) a0]) A [.ro (BoxS b2_c0_ 59 [.map (some b2_c0_0_)]), .ro (MapAt kv9 b2_c0_0_ (mpV vv3 a2_c0_0) es2_c0_0_ cl2_c0_0_), .row R48 (SV.v s0_) u1.2.2]) ⟨rfl, rfl, rfl, rfl, rfl, rfl, trivial⟩ (fun _ h => h.picks [1, 1, 0] rfl) (fun u1 g2 e => ?_) (fun aftk3 u1 g2 k3 hs J hJk3 hBk3 hX I cnk3 => ?_)
  · have hm := Flow.fin_b e hm
    refine nj_seq ?_
    refine cj_seq ?_
    refine cj_reg ?_
    refine lp rfl (p_mv rfl) ?_
    refine lp rfl (p_mv rfl) ?_
    refine lp rfl (p_mv rfl) ?_
    refine lp rfl (p_mv rfl) ?_
    obtain ⟨y6, hy6, hm⟩ := bindS hm
    refine r_call [2] cf95 rfl rfl (ok_slices_insertionSortCmpFunc_api_Pair__gleeref2_SungBy_1 s0_ u1.2.2 u1.1 a1 b2_c0_ b2_c0_0_ es2_c0_0_ cl2_c0_0_ a2_c0_0 hy6) rfl rfl (.cons (.ro 0 rfl) (.cons (.ro 1 rfl) .nil)) (fun _ => rfl) rfl (fun _ => ?_)
    refine lj_seq ?_
    obtain ⟨f10, hf10, hm⟩ := bindS hm
    refine cj_whileA (γ := Unit) hf10 () (fun u7 g8 => [(0, s0_.v), (1, .int .i64 a1), (2, .func (.func 41) #[] [.pointer (some ⟨b2_c0_, 0, none⟩)].toArray), (6, .int .i64 u7.1), (7, .int .i64 u7.2.1), (8, .int .i64 u7.2.2)]) (fun u7 g8 => Sat w0 (keys [.row R48 (SV.v s0_) a0]) A [.row R48 (SV.v s0_) y6, .ro (BoxS b2_c0_ 59 [.map (some b2_c0_0_)]), .ro (MapAt kv9 b2_c0_0_ (mpV vv3 a2_c0_0) es2_c0_0_ cl2_c0_0_)]) ⟨rfl, rfl, rfl, rfl, rfl, rfl, trivial⟩ (fun _ h => h.picks [0, 0, 0] rfl) (fun u7 g8 e => ?_) (fun aftk9 u7 g8 k9 hs J hJk9 hBk9 hX I cnk9 => ?_)
    · have hm := Flow.fin_b e hm
      obtain rfl := Option.some.inj hm
      exact nj_rt () [0] Tryz.results64 .nil rfl rfl
    · have hRk9 : ∀ t, k9 = .ret t → some t = some r := fun t e => by rw [hX t e] at hm; exact hm
      have hm := hs
      refine cj_seq ?_
      refine cj_seq ?_
      refine cj_reg ?_
      refine lp rfl (p_mv rfl) ?_
      refine lp rfl (p_mv rfl) ?_
      refine lp rfl (p_lss rfl rfl) ?_
      refine lj_seq ?_
      refine cj_if (b := decide (u7.1 < a1)) rfl (fun hb => ?_) (fun hb => ?_)
      · have hm := ifB_t hb hm
        refine cj_skip ?_
        refine nj_seq ?_
        refine cj_blk ?_
        refine cj_seq ?_
        refine cj_reg ?_
        refine lp rfl (p_mv rfl) ?_
        refine lp rfl (p_mul rfl rfl) ?_
        refine lp rfl (p_as rfl) ?_
        refine lp rfl (p_as rfl) ?_
        refine lj_seq ?_
        refine cj_seq ?_
        obtain ⟨f14, hf14, hm⟩ := bindS hm
        refine cj_whileA (γ := Unit) hf14 () (fun u11 g12 => [(0, s0_.v), (1, .int .i64 a1), (2, .func (.func 41) #[] [.pointer (some ⟨b2_c0_, 0, none⟩)].toArray), (6, .int .i64 u7.1), (7, .int .i64 0), (8, .int .i64 (w64 (2 * u7.1)))]) (fun u11 g12 => Sat w0 (keys [.row R48 (SV.v s0_) a0]) A [.row R48 (SV.v s0_) y6, .ro (BoxS b2_c0_ 59 [.map (some b2_c0_0_)]), .ro (MapAt kv9 b2_c0_0_ (mpV vv3 a2_c0_0) es2_c0_0_ cl2_c0_0_)]) ⟨rfl, rfl, rfl, rfl, rfl, rfl, trivial⟩ (fun _ h => h.picks [0, 0, 0] rfl) (fun u11 g12 e => ?_) (fun aftk13 u11 g12 k13 hs J hJk13 hBk13 hX I cnk13 => ?_)
        · have hm := Flow.fin_b e hm
          refine nj_seq ?_
          refine cj_seq ?_
          refine cj_seq ?_
          refine cj_reg ?_
          refine lp rfl (p_mv rfl) ?_
          refine lp rfl (p_mv rfl) ?_
          refine lp rfl (p_add rfl rfl) ?_
          refine lp rfl (p_as rfl) ?_
          refine lj_seq ?_
          refine cj_seq ?_
          refine cj_reg ?_
          refine lp rfl (p_mv rfl) ?_
          refine lp rfl (p_mv rfl) ?_
          refine lp rfl (p_lss rfl rfl) ?_
          refine lj_seq ?_
          refine cj_if (b := decide ((w64 (0 + u7.1)) < a1)) rfl (fun hb => ?_) (fun hb => ?_)
          · have hm := ifB_t hb hm
            refine cj_reg ?_
            refine lp rfl (p_mv rfl) ?_
            refine lp rfl (p_mv rfl) ?_
            refine lp rfl (p_mv rfl) ?_
            refine lp rfl (p_mv rfl) ?_
            refine lp rfl (p_mv rfl) ?_
            cases hm
          · have hm := ifB_f hb hm
            refine cj_skip ?_
            refine nj_seq ?_
            refine cj_reg ?_
            refine lp rfl (p_mv rfl) ?_
            refine lp rfl (p_mul rfl rfl) ?_
            refine lp rfl (p_as rfl) ?_
            refine lj_nil ?_
            refine nj_blk ?_
            exact cnk9 _ _ (w64 (u7.1 * 2), 0, w64 (2 * u7.1)) () (hJk9 _ (Option.some.inj hm).symm) ⟨rfl, rfl, rfl, rfl, rfl, rfl, trivial⟩ (fun _ h => h.picks [0, 0, 0] rfl)
        · have hRk13 : ∀ t, k13 = .ret t → some t = some k9 := fun t e => by rw [hX t e] at hm; exact hm
          have hm := hs
          refine cj_seq ?_
          refine cj_seq ?_
          refine cj_reg ?_
          refine lp rfl (p_mv rfl) ?_
          refine lp rfl (p_mv rfl) ?_
          refine lp rfl (p_leq rfl rfl) ?_
          refine lj_seq ?_
          refine cj_if (b := decide ((w64 (2 * u7.1)) ≤ a1)) rfl (fun hb => ?_) (fun hb => ?_)
          · have hm := ifB_t hb hm
            refine cj_skip ?_
            refine nj_seq ?_
            refine cj_blk ?_
            refine cj_seq ?_
            refine cj_reg ?_
            refine lp rfl (p_mv rfl) ?_
            refine lp rfl (p_mv rfl) ?_
            refine lp rfl (p_mv rfl) ?_
            refine lp rfl (p_mv rfl) ?_
            refine lp rfl (p_add rfl rfl) ?_
            refine lp rfl (p_mv rfl) ?_
            refine lp rfl (p_mv rfl) ?_
            cases hm
          · have hm := ifB_f hb hm
            refine cj_exit rfl ?_
            exact (aftk13 () () (hBk13 _ (Option.some.inj hm).symm)).sub ⟨rfl, rfl, rfl, rfl, rfl, rfl, trivial⟩ (fun _ h => h.picks [0, 0, 0] rfl)
      · have hm := ifB_f hb hm
        refine cj_exit rfl ?_
        exact (aftk9 (u7.1, u7.2.1, u7.2.2) () (hBk9 _ (Option.some.inj hm).symm)).sub ⟨rfl, rfl, rfl, rfl, rfl, rfl, trivial⟩ (fun _ h => h.picks [0, 0, 0] rfl)
  · have hRk3 : ∀ t, k3 = .ret t → some t = some r := fun t e => by rw [hX t e] at hm; exact hm
    have hm := hs
    refine cj_seq ?_
    refine cj_seq ?_
    refine cj_reg ?_
    refine lp rfl (p_mv rfl) ?_
    refine lp rfl (p_mv rfl) ?_
    refine lp rfl (p_leq rfl rfl) ?_
    refine lj_seq ?_
    refine cj_if (b := decide (u1.2.1 ≤ a1)) rfl (fun hb => ?_) (fun hb => ?_)
    · have hm := ifB_t hb hm
      refine cj_skip ?_
      refine nj_seq ?_
      refine cj_blk ?_
      refine cj_seq ?_
      refine cj_reg ?_
      refine lp rfl (p_mv rfl) ?_
      refine lp rfl (p_mv rfl) ?_
      refine lp rfl (p_mv rfl) ?_
      refine lp rfl (p_mv rfl) ?_
      obtain ⟨y5, hy5, hm⟩ := bindS hm
      refine r_call [2] cf95 rfl rfl (ok_slices_insertionSortCmpFunc_api_Pair__gleeref2_SungBy_1 s0_ u1.2.2 u1.1 u1.2.1 b2_c0_ b2_c0_0_ es2_c0_0_ cl2_c0_0_ a2_c0_0 hy5) rfl rfl (.cons (.ro 0 rfl) (.cons (.ro 1 rfl) .nil)) (fun _ => rfl) rfl (fun _ => ?_)
      refine lj_seq ?_
      refine cj_seq ?_
      refine cj_reg ?_
      refine lp rfl (p_mv rfl) ?_
      refine lp rfl (p_as rfl) ?_
      refine lj_seq ?_
      refine cj_reg ?_
      refine lp rfl (p_mv rfl) ?_
      refine lp rfl (p_mv rfl) ?_
      refine lp rfl (p_add rfl rfl) ?_
      refine lp rfl (p_as rfl) ?_
      refine lj_nil ?_
      refine nj_blk ?_
      exact cnk3 _ _ (u1.2.1, w64 (u1.2.1 + 20), y5) () (hJk3 _ (Option.some.inj hm).symm) ⟨rfl, rfl, rfl, rfl, rfl, rfl, trivial⟩ (fun _ h => h.picks [1, 1, 0] rfl)
    · have hm := ifB_f hb hm
      refine cj_exit rfl ?_
      exact (aftk3 (u1.1, u1.2.1, u1.2.2) () (hBk3 _ (Option.some.inj hm).symm)).sub ⟨rfl, rfl, rfl, rfl, rfl, rfl, trivial⟩ (fun _ h => h.picks [0, 0, 0] rfl)
theorem ok_slices_SortStableFunc_api_Pair_api_Pair__gleeref2_SungBy_1 (s0_ : SV) (a0 : (List TPair)) (b1_c0_ : Nat) (b1_c0_0_ : Nat) (es1_c0_0_ : Array MapEntry) (cl1_c0_0_ : Nat) (a1_c0_0 : (List (ByteArray × Int))) {r : (List TPair)} (hm : m_slices_SortStableFunc_api_Pair_api_Pair__gleeref2_SungBy_1 a0 a1_c0_0 = some r) :
    Ctr Tryz.prog 40 [s0_.v, .func (.func 41) #[] [.pointer (some ⟨b1_c0_, 0, none⟩)].toArray].toArray [.row R48 (SV.v s0_) a0] [BoxS b1_c0_ 59 [.map (some b1_c0_0_)], MapAt kv9 b1_c0_0_ (mpV vv3 a1_c0_0) es1_c0_0_ cl1_c0_0_] (X := Unit) (fun _ => .tuple [].toArray) (fun _ => [.row R48 (SV.v s0_) r]) := by
  unfold m_slices_SortStableFunc_api_Pair_api_Pair__gleeref2_SungBy_1 at hm
  refine ctr_mk (vs := [(0, s0_.v), (1, .func (.func 41) #[] [.pointer (some ⟨b1_c0_, 0, none⟩)].toArray)]) Tryz.func40 rfl Tryz.ntmps40 rfl ⟨rfl, rfl, trivial⟩ (fun w0 A => ?_)
  refine cj_reg ?_
  refine lp rfl (p_mv rfl) ?_
  refine lp rfl (p_mv rfl) ?_
  refine lp rfl (p_len Tryz.underlying32 rfl (.row 0 rfl)) ?_
  refine lp rfl (p_mv rfl) ?_
  obtain ⟨y1, hy1, hm⟩ := bindS hm
  refine r_call [0] cf64 rfl rfl (ok_slices_stableCmpFunc_api_Pair__gleeref2_SungBy_1 s0_ a0 (a0.length : Int) b1_c0_ b1_c0_0_ es1_c0_0_ cl1_c0_0_ a1_c0_0 hy1) rfl rfl (.cons (.ro 0 rfl) (.cons (.ro 1 rfl) .nil)) (fun _ => rfl) rfl (fun _ => ?_)
  refine lj_nil ?_
  obtain rfl := Option.some.inj hm
  exact nj_rt () [0] Tryz.results40 .nil rfl rfl
theorem ok_gleeref2_SungBy (a0 : TProgram) (s0_0_ : SV) (xg0_0_ : List (TItem × SV)) {r : (List TPair)} (hm : m_gleeref2_SungBy a0 = some r) :
    Ctr Tryz.prog 14 [.agg [s0_0_.v, .int .i64 a0.Change, .int .i64 a0.Clap, .int .i64 a0.Break, .int .i64 a0.Half].toArray].toArray ([] : List Ent) [Lk N57 a0.Items xg0_0_, RdS N57.R (SV.v s0_0_) xg0_0_, PowT] (X := SV) (fun s => s.v) (fun s => [.row R48 (SV.v s) r]) := by
  unfold m_gleeref2_SungBy at hm
  refine ctr_mk (vs := [(0, .agg [s0_0_.v, .int .i64 a0.Change, .int .i64 a0.Clap, .int .i64 a0.Break, .int .i64 a0.Half].toArray)]) Tryz.func14 rfl Tryz.ntmps14 rfl ⟨rfl, trivial⟩ (fun w0 A => ?_)
  refine cj_pure (F := Lk N57 a0.Items xg0_0_) (.ro 0 rfl) (fun _ h => h.1) (fun hL0_0_ => ?_)
  refine cj_seq ?_
  refine cj_reg ?_
  refine r_bx (cs := [s0_0_.v, .int .i64 a0.Change, .int .i64 a0.Clap, .int .i64 a0.Break, .int .i64 a0.Half]) rfl rfl rfl (fun b1 => ?_)
  refine lp rfl (p_as rfl) ?_
  refine lj_seq ?_
  refine cj_seq ?_
  refine cj_reg ?_
  refine r_mkmap kv9 vv3 rfl (fun b2 => ?_)
  refine r_al ty59 rfl (fun b3 => ?_)
  refine r_sb (vs := [.map (some b2)]) (j := 0) ty59 rfl rfl rfl rfl rfl rfl rfl ?_
  refine lj_seq ?_
  refine cj_seq ?_
  refine cj_seq ?_
  refine cj_reg ?_
  refine lp rfl (p_fab fl28_0 rfl) ?_
  refine lp rfl (p_lbs ty26 rfl (j := 2) rfl rfl) ?_
  refine lp rfl (p_lenG hL0_0_ Tryz.underlying26 rfl (.ro 4 rfl)) ?_
  refine lp rfl (p_mv rfl) ?_
  refine lj_seq ?_
  obtain ⟨f10, hf10, hm⟩ := bindS hm
  refine cj_range (γ := (Array MapEntry × Nat)) (m := (a0.Items.length : Int)) hf10 (#[], 0) (fun u7 g8 => [(1, .pointer (some ⟨b1, 0, none⟩)), (2, .slice none 0 0), (3, .pointer (some ⟨b3, 0, none⟩)), (13, s0_0_.v)]) (fun u7 g8 => Sat w0 (keys ([] : List Ent)) A [.box b3 59 [.map (some b2)], .obj (mapO kv9 b2 (mpV vv3 u7) g8.1 g8.2), .box b1 28 [s0_0_.v, .int .i64 a0.Change, .int .i64 a0.Clap, .int .i64 a0.Break, .int .i64 a0.Half], .ro (Lk N57 a0.Items xg0_0_), .ro (RdS N57.R (SV.v s0_0_) xg0_0_), .ro PowT]) ⟨rfl, rfl, rfl, rfl, rfl, rfl, trivial⟩ (fun _ h => h.picks [0, 0, 0, 0, 0, 0] rfl) (nat_lt _) (fun _ h => by have h1 := (FactAt.get (F := RdS N57.R (SV.v s0_0_) xg0_0_) (.ro 4 rfl) h).1; rw [lk_len hL0_0_] at h1; exact h1) (fun _ _ => ⟨rfl, rfl, rfl, rfl⟩) ⟨rfl, rfl, rfl, rfl, rfl⟩ rfl rfl rfl (fun u7 g8 e => ?_) (fun aftk9 i4 x5 u7 g8 k9 hx6 hs J hJk9 hBk9 hX I cnk9 => ?_)
  · have hm := Flow.fin_b e hm
    refine nj_seq ?_
    refine cj_seq ?_
    refine cj_reg ?_
    refine lp rfl (p_as rfl) ?_
    refine lj_seq ?_
    refine cj_seq ?_
    refine cj_seq ?_
    refine cj_reg ?_
    refine lp rfl (p_fab fl28_0 rfl) ?_
    refine lp rfl (p_lbs ty26 rfl (j := 2) rfl rfl) ?_
    obtain ⟨y21, hy21, hm⟩ := bindS hm
    refine r_call [] cf39 rfl rfl (ok_gleeref2_partsIn s0_0_ xg0_0_ a0.Items hy21) rfl rfl (.cons (.ro 3 rfl) (.cons (.ro 4 rfl) .nil)) (fun _ => rfl) rfl (fun s22 => ?_)
    refine lp rfl (p_len Tryz.underlying55 rfl (.row 0 rfl)) ?_
    refine lp rfl (p_mv rfl) ?_
    refine lj_seq ?_
    refine cj_nil R48 ?_
    obtain ⟨f30, hf30, hm⟩ := bindS hm
    refine cj_range (γ := SV) (m := (y21.length : Int)) hf30 nilS (fun u27 g28 => [(2, .slice none 0 0), (3, .pointer (some ⟨b3, 0, none⟩)), (8, g28.v), (36, s22.v)]) (fun u27 g28 => Sat w0 (keys ([] : List Ent)) A [.row R9 (SV.v s22) y21, .box b3 59 [.map (some b2)], .obj (mapO kv9 b2 (mpV vv3 u7) g8.1 g8.2), .ro PowT, .row R48 (SV.v g28) u27]) ⟨rfl, rfl, rfl, rfl, rfl, rfl, trivial⟩ (fun _ h => h.picks [1, 1, 1, 4, 0] rfl) (nat_lt _) (fun _ h => (FactAt.get (F := RdS R9 (SV.v s22) y21) (.row 1 rfl) h).1) (fun _ _ => ⟨rfl, rfl, rfl, rfl⟩) ⟨rfl, rfl, rfl, rfl, rfl⟩ rfl rfl rfl (fun u27 g28 e => ?_) (fun aftk29 i23 x24 u27 g28 k29 hx25 hs J hJk29 hBk29 hX I cnk29 => ?_)
    · have hm := Flow.fin_b e hm
      refine nj_seq ?_
      refine cj_seq ?_
      refine cj_reg ?_
      refine lp rfl (p_mv rfl) ?_
      refine lp rfl (p_fn (cv := [.pointer (some ⟨b3, 0, none⟩)]) rfl) ?_
      obtain ⟨y37, hy37, hm⟩ := bindS hm
      refine r_call [4] cf40 rfl rfl (ok_slices_SortStableFunc_api_Pair_api_Pair__gleeref2_SungBy_1 g28 u27 b3 b2 g8.1 g8.2 u7 hy37) rfl rfl (.cons (.imp (.box 1 rfl) (fun _ h => h)) (.cons (.map 2 rfl) .nil)) (fun _ => rfl) rfl (fun _ => ?_)
      refine lj_seq ?_
      refine cj_seq ?_
      refine cj_reg ?_
      refine lp rfl (p_mv rfl) ?_
      refine lp rfl (p_as rfl) ?_
      refine lj_seq ?_
      obtain rfl := Option.some.inj hm
      exact cj_rt g28 [0] Tryz.results14 (.tmp rfl .nil) rfl rfl
    · have hRk29 : ∀ t, k29 = .ret t → some t = some r := fun t e => by rw [hX t e] at hm; exact hm
      have hm := hs
      refine cj_seq ?_
      refine cj_reg ?_
      refine lp rfl (p_idx Tryz.underlying55 ty9 rfl rfl (.row 0 rfl) (getI_nat.trans hx25)) ?_
      refine lp rfl (p_lde (o := 0) ty9 rfl rfl (.row 0 rfl) hx25 rfl) ?_
      refine lp rfl (p_as rfl) ?_
      refine lj_seq ?_
      refine cj_reg ?_
      refine lp rfl (p_mv rfl) ?_
      refine lp rfl (p_mv rfl) ?_
      refine lp rfl (p_lbs ty59 rfl (j := 1) rfl rfl) ?_
      refine lp rfl (p_mv rfl) ?_
      refine lp rfl (p_lkm (vv := vv3) (k := x24) (z := 0) Tryz.underlying59 (keyF9) (fun _ => by kernel_rfl) (.map 2 rfl) rfl rfl) ?_
      obtain ⟨y32, hy32, hm⟩ := bindS hm
      refine r_call [] cf30 rfl rfl (ok_strconv_Itoa ((lkM u7 x24).getD 0) hy32) rfl rfl (.cons (.ro 3 rfl) .nil) (fun _ => rfl) rfl (fun _ => ?_)
      refine lp rfl (p_bld [.string x24, .string y32] rfl (fun _ => by kernel_rfl)) ?_
      refine r_bs R48 [(TPair.mk x24 y32)] rfl rfl rfl (fun _ => by kernel_rfl) rfl (fun s33 => ?_)
      obtain ⟨q34, hq34, hm⟩ := bindS hm
      refine r_app (k := 5) Tryz.underlying32 ty48 rfl rfl rfl rfl (.row 0 rfl) hq34 rfl (fun s35 => ?_)
      refine lp rfl (p_as rfl) ?_
      refine lj_nil ?_
      refine nj_blk ?_
      exact cnk29 _ _ q34 s35 (hJk29 _ (Option.some.inj hm).symm) ⟨rfl, rfl, rfl, rfl, rfl, rfl, trivial⟩ (fun _ h => h.picks [1, 1, 1, 1, 1] rfl)
  · have hRk9 : ∀ t, k9 = .ret t → some t = some r := fun t e => by rw [hX t e] at hm; exact hm
    have hm := hs
    refine cj_seq ?_
    refine cj_reg ?_
    obtain ⟨gx5, hx6G⟩ := lk_get hL0_0_ hx6
    refine lp rfl (p_idx Tryz.underlying26 ty57 rfl rfl (.ro 4 rfl) (getI_nat.trans hx6G)) ?_
    refine lp rfl (p_leaN (cs := [.string x5.Key, .string x5.Places, .int .i64 x5.Long, gx5.v]) ty57 rfl (.ro 4 rfl) hx6G rfl) ?_
    refine r_al ty57 rfl (fun b11 => ?_)
    refine r_sb (vs := [.string x5.Key, .string x5.Places, .int .i64 x5.Long, gx5.v]) (j := 0) ty57 rfl rfl rfl rfl rfl rfl rfl ?_
    refine lj_seq ?_
    refine cj_seq ?_
    refine cj_reg ?_
    refine lp rfl (p_fab fl57_3 rfl) ?_
    refine lp rfl (p_lbs ty55 rfl (j := 0) rfl rfl) ?_
    refine lp rfl (p_len Tryz.underlying55 rfl (.imp (.ro 4 rfl) (fun _ h => (Lk.at_ h hx6G)))) ?_
    refine lp rfl (p_mv rfl) ?_
    refine lj_seq ?_
    obtain ⟨f18, hf18, hm⟩ := bindS hm
    refine cj_range (γ := (Array MapEntry × Nat)) (m := (x5.Parts.length : Int)) hf18 (g8.1, g8.2) (fun u15 g16 => [(1, .pointer (some ⟨b1, 0, none⟩)), (2, .slice none 0 0), (3, .pointer (some ⟨b3, 0, none⟩)), (5, .pointer (some ⟨b11, 0, none⟩)), (13, s0_0_.v), (14, .int .i64 (a0.Items.length : Int)), (15, .int .i64 (i4 : Int)), (20, gx5.v)]) (fun u15 g16 => Sat w0 (keys ([] : List Ent)) A [.box b11 57 [.string x5.Key, .string x5.Places, .int .i64 x5.Long, gx5.v], .box b3 59 [.map (some b2)], .obj (mapO kv9 b2 (mpV vv3 u15) g16.1 g16.2), .box b1 28 [s0_0_.v, .int .i64 a0.Change, .int .i64 a0.Clap, .int .i64 a0.Break, .int .i64 a0.Half], .ro (Lk N57 a0.Items xg0_0_), .ro (RdS N57.R (SV.v s0_0_) xg0_0_), .ro PowT]) ⟨rfl, rfl, rfl, rfl, rfl, rfl, rfl, rfl, rfl, rfl, trivial⟩ (fun _ h => h.picks [0, 0, 0, 0, 0, 0, 0] rfl) (nat_lt _) (fun _ h => (FactAt.get (F := RdS R9 (SV.v gx5) x5.Parts) (.imp (.ro 4 rfl) (fun _ h => (Lk.at_ h hx6G))) h).1) (fun _ _ => ⟨rfl, rfl, rfl, rfl⟩) ⟨rfl, rfl, rfl, rfl, rfl⟩ rfl rfl rfl (fun u15 g16 e => ?_) (fun aftk17 i12 x13 u15 g16 k17 hx14 hs J hJk17 hBk17 hX I cnk17 => ?_)
    · have hm := Flow.fin_b e hm
      refine nj_blk ?_
      exact cnk9 _ _ u15 (g16.1, g16.2) (hJk9 _ (Option.some.inj hm).symm) ⟨rfl, rfl, rfl, rfl, rfl, rfl, trivial⟩ (fun _ h => h.picks [1, 1, 1, 1, 1, 1] rfl)
    · have hRk17 : ∀ t, k17 = .ret t → some t = some k9 := fun t e => by rw [hX t e] at hm; exact hm
      have hm := hs
      refine cj_seq ?_
      refine cj_reg ?_
      refine lp rfl (p_idx Tryz.underlying55 ty9 rfl rfl (.imp (.ro 4 rfl) (fun _ h => (Lk.at_ h hx6G))) (getI_nat.trans hx14)) ?_
      refine lp rfl (p_lde (o := 0) ty9 rfl rfl (.imp (.ro 4 rfl) (fun _ h => (Lk.at_ h hx6G))) hx14 rfl) ?_
      refine lp rfl (p_as rfl) ?_
      refine lj_seq ?_
      refine cj_reg ?_
      refine lp rfl (p_lbs ty59 rfl (j := 1) rfl rfl) ?_
      refine lp rfl (p_mv rfl) ?_
      refine lp rfl (p_lkm (vv := vv3) (k := x13) (z := 0) Tryz.underlying59 (keyF9) (fun _ => by kernel_rfl) (.map 2 rfl) rfl rfl) ?_
      refine lp rfl (p_fab fl57_2 rfl) ?_
      refine lp rfl (p_lbs ty3 rfl (j := 0) rfl rfl) ?_
      refine lp rfl (p_add rfl rfl) ?_
      refine r_mpu (j := 2) (vv := vv3) (k := x13) (v := (w64 (((lkM u15 x13).getD 0) + x5.Long))) Tryz.underlying59 keyF9 rfl rfl rfl rfl (fun es19 cl20 => ?_)
      refine lj_nil ?_
      refine nj_blk ?_
      exact cnk17 _ _ (putM u15 x13 (w64 (((lkM u15 x13).getD 0) + x5.Long))) (es19, cl20) (hJk17 _ (Option.some.inj hm).symm) ⟨rfl, rfl, rfl, rfl, rfl, rfl, rfl, rfl, rfl, rfl, trivial⟩ (fun _ h => h.picks [0, 0, 0, 0, 0, 0, 0] rfl)
theorem ok_gleeref2_LongestOf (a0 : TProgram) (s0_0_ : SV) (xg0_0_ : List (TItem × SV)) (a1 : ByteArray) {r : Int} (hm : m_gleeref2_LongestOf a0 a1 = some r) :
    Ctr Tryz.prog 15 [.agg [s0_0_.v, .int .i64 a0.Change, .int .i64 a0.Clap, .int .i64 a0.Break, .int .i64 a0.Half].toArray, .string a1].toArray ([] : List Ent) [Lk N57 a0.Items xg0_0_, RdS N57.R (SV.v s0_0_) xg0_0_] (X := Unit) (fun _ => .int .i64 r) (fun _ => []) := by
  unfold m_gleeref2_LongestOf at hm
  refine ctr_mk (vs := [(0, .agg [s0_0_.v, .int .i64 a0.Change, .int .i64 a0.Clap, .int .i64 a0.Break, .int .i64 a0.Half].toArray), (1, .string a1)]) Tryz.func15 rfl Tryz.ntmps15 rfl ⟨rfl, rfl, trivial⟩ (fun w0 A => ?_)
  refine cj_pure (F := Lk N57 a0.Items xg0_0_) (.ro 0 rfl) (fun _ h => h.1) (fun hL0_0_ => ?_)
  refine cj_seq ?_
  refine cj_reg ?_
  refine r_bx (cs := [s0_0_.v, .int .i64 a0.Change, .int .i64 a0.Clap, .int .i64 a0.Break, .int .i64 a0.Half]) rfl rfl rfl (fun b1 => ?_)
  refine lp rfl (p_as rfl) ?_
  refine lj_seq ?_
  refine cj_seq ?_
  refine cj_reg ?_
  refine lp rfl (p_as rfl) ?_
  refine lp rfl (p_as rfl) ?_
  refine lj_seq ?_
  refine cj_seq ?_
  refine cj_seq ?_
  refine cj_reg ?_
  refine lp rfl (p_fab fl28_0 rfl) ?_
  refine lp rfl (p_lbs ty26 rfl (j := 0) rfl rfl) ?_
  refine lp rfl (p_lenG hL0_0_ Tryz.underlying26 rfl (.ro 2 rfl)) ?_
  refine lp rfl (p_mv rfl) ?_
  refine lj_seq ?_
  obtain ⟨f8, hf8, hm⟩ := bindS hm
  refine cj_range (γ := Unit) (m := (a0.Items.length : Int)) hf8 () (fun u5 g6 => [(1, .string a1), (2, .pointer (some ⟨b1, 0, none⟩)), (4, .int .i64 0), (5, .int .i64 u5.1), (6, .int .i64 u5.2), (10, s0_0_.v)]) (fun u5 g6 => Sat w0 (keys ([] : List Ent)) A [.box b1 28 [s0_0_.v, .int .i64 a0.Change, .int .i64 a0.Clap, .int .i64 a0.Break, .int .i64 a0.Half], .ro (Lk N57 a0.Items xg0_0_), .ro (RdS N57.R (SV.v s0_0_) xg0_0_)]) ⟨rfl, rfl, rfl, rfl, rfl, rfl, rfl, rfl, trivial⟩ (fun _ h => h.picks [0, 0, 0] rfl) (nat_lt _) (fun _ h => by have h1 := (FactAt.get (F := RdS N57.R (SV.v s0_0_) xg0_0_) (.ro 2 rfl) h).1; rw [lk_len hL0_0_] at h1; exact h1) (fun _ _ => ⟨rfl, rfl, rfl, rfl⟩) ⟨rfl, rfl, rfl, rfl, rfl⟩ rfl rfl rfl (fun u5 g6 e => ?_) (fun aftk7 i2 x3 u5 g6 k7 hx4 hs J hJk7 hBk7 hX I cnk7 => ?_)
  · have hm := Flow.fin_b e hm
    refine nj_seq ?_
    refine cj_seq ?_
    refine cj_reg ?_
    refine lp rfl (p_mv rfl) ?_
    refine lp rfl (p_as rfl) ?_
    refine lj_seq ?_
    obtain rfl := Option.some.inj hm
    exact cj_rt () [] Tryz.results15 (.tmp rfl .nil) rfl rfl
  · have hRk7 : ∀ t, k7 = .ret t → some t = some r := fun t e => by rw [hX t e] at hm; exact hm
    have hm := hs
    refine cj_seq ?_
    refine cj_reg ?_
    refine lp rfl (p_mv rfl) ?_
    obtain ⟨gx3, hx4G⟩ := lk_get hL0_0_ hx4
    refine lp rfl (p_idx Tryz.underlying26 ty57 rfl rfl (.ro 2 rfl) (getI_nat.trans hx4G)) ?_
    refine lp rfl (p_leaN (cs := [.string x3.Key, .string x3.Places, .int .i64 x3.Long, gx3.v]) ty57 rfl (.ro 2 rfl) hx4G rfl) ?_
    refine r_al ty57 rfl (fun b9 => ?_)
    refine lp rfl (p_as rfl) ?_
    refine r_sb (vs := [.string x3.Key, .string x3.Places, .int .i64 x3.Long, gx3.v]) (j := 0) ty57 rfl rfl rfl rfl rfl rfl rfl ?_
    refine lj_seq ?_
    refine cj_seq ?_
    refine cj_seq ?_
    refine cj_reg ?_
    refine lp rfl (p_fab fl57_3 rfl) ?_
    refine lp rfl (p_lbs ty55 rfl (j := 0) rfl rfl) ?_
    refine lp rfl (p_mv rfl) ?_
    obtain ⟨y10, hy10, hm⟩ := bindS hm
    refine r_call [] cf32 rfl rfl (ok_slices_Contains_string_string gx3 x3.Parts a1 hy10) rfl rfl (.cons (.imp (.ro 2 rfl) (fun _ h => (Lk.at_ h hx4G))) .nil) (fun _ => rfl) rfl (fun _ => ?_)
    refine lj_seq ?_
    obtain ⟨k13, hk13, hm⟩ := bindS hm
    have hRk13 : ∀ t, k13 = .inr t → some t = some k7 := fun t e => by rw [e] at hm; exact hm
    refine cj_joinK (σ := Int) (γ := Unit) (fun u11 => k13 = .inl u11) (fun u11 g12 => [(1, .string a1), (2, .pointer (some ⟨b1, 0, none⟩)), (4, .int .i64 0), (5, .int .i64 u11), (6, .int .i64 u5.2), (7, .int .i64 (i2 : Int)), (10, s0_0_.v), (11, .int .i64 (a0.Items.length : Int)), (12, .int .i64 (i2 : Int))]) (fun u11 g12 => Sat w0 (keys ([] : List Ent)) A [.box b1 28 [s0_0_.v, .int .i64 a0.Change, .int .i64 a0.Clap, .int .i64 a0.Break, .int .i64 a0.Half], .ro (Lk N57 a0.Items xg0_0_), .ro (RdS N57.R (SV.v s0_0_) xg0_0_)]) (fun u11 g12 hq => ?_) (fun J cnk13 => ?_)
    · have hm := Sum.fin_l hq hm
      refine cj_seq ?_
      refine cj_reg ?_
      refine lp rfl (p_mv rfl) ?_
      refine lp rfl (p_mv rfl) ?_
      refine lp rfl (p_max rfl rfl) ?_
      refine lp rfl (p_as rfl) ?_
      refine lj_seq ?_
      refine cj_seq ?_
      refine cj_reg ?_
      refine lp rfl (p_mv rfl) ?_
      refine lp rfl (p_fab fl28_4 rfl) ?_
      refine lp rfl (p_lbs ty3 rfl (j := 0) rfl rfl) ?_
      refine lp rfl (p_eql rfl rfl) ?_
      refine lj_seq ?_
      refine cj_if (b := (i2 : Int) == a0.Half) rfl (fun hb => ?_) (fun hb => ?_)
      · have hm := ifB_t hb hm
        refine cj_reg ?_
        refine lp rfl (p_as rfl) ?_
        refine lj_nil ?_
        refine nj_blk ?_
        exact cnk7 _ _ (0, max u5.2 u11) () (hJk7 _ (Option.some.inj hm).symm) ⟨rfl, rfl, rfl, rfl, rfl, rfl, rfl, rfl, trivial⟩ (fun _ h => h.picks [0, 0, 0] rfl)
      · have hm := ifB_f hb hm
        refine cj_skip ?_
        refine nj_blk ?_
        exact cnk7 _ _ (u11, max u5.2 u11) () (hJk7 _ (Option.some.inj hm).symm) ⟨rfl, rfl, rfl, rfl, rfl, rfl, rfl, rfl, trivial⟩ (fun _ h => h.picks [0, 0, 0] rfl)
    · have hm := hk13
      refine cj_if (b := y10) rfl (fun hb => ?_) (fun hb => ?_)
      · have hm := ifB_t hb hm
        refine cj_reg ?_
        refine lp rfl (p_mv rfl) ?_
        refine lp rfl (p_fab fl57_2 rfl) ?_
        refine lp rfl (p_lbs ty3 rfl (j := 0) rfl rfl) ?_
        refine lp rfl (p_add rfl rfl) ?_
        refine lp rfl (p_as rfl) ?_
        refine lj_nil ?_
        exact cnk13 _ _ (w64 (u5.1 + x3.Long)) () (Option.some.inj hm).symm ⟨rfl, rfl, rfl, rfl, rfl, rfl, rfl, rfl, rfl, trivial⟩ (fun _ h => h.picks [1, 1, 1] rfl)
      · have hm := ifB_f hb hm
        refine cj_reg ?_
        refine lp rfl (p_as rfl) ?_
        refine lj_nil ?_
        exact cnk13 _ _ 0 () (Option.some.inj hm).symm ⟨rfl, rfl, rfl, rfl, rfl, rfl, rfl, rfl, rfl, trivial⟩ (fun _ h => h.picks [1, 1, 1] rfl)
theorem ok_gleeref2_between (a0 : TProgram) (s0_0_ : SV) (xg0_0_ : List (TItem × SV)) (a1 : Int) {r : Int} (hm : m_gleeref2_between a0 a1 = some r) :
    Ctr Tryz.prog 65 [.agg [s0_0_.v, .int .i64 a0.Change, .int .i64 a0.Clap, .int .i64 a0.Break, .int .i64 a0.Half].toArray, .int .i64 a1].toArray ([] : List Ent) [Lk N57 a0.Items xg0_0_, RdS N57.R (SV.v s0_0_) xg0_0_] (X := Unit) (fun _ => .int .i64 r) (fun _ => []) := by
  unfold m_gleeref2_between at hm
  refine ctr_mk (vs := [(0, .agg [s0_0_.v, .int .i64 a0.Change, .int .i64 a0.Clap, .int .i64 a0.Break, .int .i64 a0.Half].toArray), (1, .int .i64 a1)]) Tryz.func65 rfl Tryz.ntmps65 rfl ⟨rfl, rfl, trivial⟩ (fun w0 A => ?_)
  refine cj_pure (F := Lk N57 a0.Items xg0_0_) (.ro 0 rfl) (fun _ h => h.1) (fun hL0_0_ => ?_)
  refine cj_seq ?_
  refine cj_reg ?_
  refine r_bx (cs := [s0_0_.v, .int .i64 a0.Change, .int .i64 a0.Clap, .int .i64 a0.Break, .int .i64 a0.Half]) rfl rfl rfl (fun b1 => ?_)
  refine lp rfl (p_as rfl) ?_
  refine lj_seq ?_
  refine cj_seq ?_
  refine cj_blk ?_
  refine cj_seq ?_
  refine cj_reg ?_
  refine lp rfl (p_mv rfl) ?_
  refine lp rfl (p_fab fl28_4 rfl) ?_
  refine lp rfl (p_lbs ty3 rfl (j := 0) rfl rfl) ?_
  refine lp rfl (p_eql rfl rfl) ?_
  refine lp rfl (p_as rfl) ?_
  refine lj_seq ?_
  refine cj_if (b := a1 == a0.Half) rfl (fun hb => ?_) (fun hb => ?_)
  · have hm := ifB_t hb hm
    refine cj_seq ?_
    refine cj_reg ?_
    refine lp rfl (p_fab fl28_3 rfl) ?_
    refine lp rfl (p_lbs ty3 rfl (j := 0) rfl rfl) ?_
    refine lp rfl (p_as rfl) ?_
    refine lj_seq ?_
    obtain rfl := Option.some.inj hm
    exact cj_rt () [] Tryz.results65 (.tmp rfl .nil) rfl rfl
  · have hm := ifB_f hb hm
    refine cj_seq ?_
    refine cj_quiet (by kernel_rfl) (by kernel_rfl) ?_
    refine q_p rfl (p_fab fl28_0 rfl) ?_
    refine q_p rfl (p_lbs ty26 rfl (j := 0) rfl rfl) ?_
    refine q_p rfl (p_mv rfl) ?_
    obtain ⟨e2, he2, hm⟩ := bindS hm
    obtain ⟨ge2, he2G⟩ := lk_getI hL0_0_ he2
    refine q_p rfl (p_idx Tryz.underlying26 ty57 rfl rfl (.ro 2 rfl) he2G) ?_
    refine q_p rfl (p_fae fl57_1 rfl (.ro 2 rfl) (getI_spec he2G).2) ?_
    refine q_p rfl (p_lde (o := 1) ty9 rfl rfl (.ro 2 rfl) (getI_spec he2G).2 rfl) ?_
    refine q_p rfl (p_fab fl28_0 rfl) ?_
    refine q_p rfl (p_lbs ty26 rfl (j := 0) rfl rfl) ?_
    refine q_p rfl (p_mv rfl) ?_
    refine q_p rfl (p_add rfl rfl) ?_
    obtain ⟨e3, he3, hm⟩ := bindS hm
    obtain ⟨ge3, he3G⟩ := lk_getI hL0_0_ he3
    refine q_p rfl (p_idx Tryz.underlying26 ty57 rfl rfl (.ro 2 rfl) he3G) ?_
    refine q_p rfl (p_fae fl57_1 rfl (.ro 2 rfl) (getI_spec he3G).2) ?_
    refine q_p rfl (p_lde (o := 1) ty9 rfl rfl (.ro 2 rfl) (getI_spec he3G).2 rfl) ?_
    refine q_p rfl (p_nes rfl rfl) ?_
    refine q_p rfl (p_as rfl) ?_
    refine q_nil ?_
    refine nj_seq ?_
    refine cj_if (b := !(e2.Places.toList == e3.Places.toList)) rfl (fun hb => ?_) (fun hb => ?_)
    · have hm := ifB_t hb hm
      refine cj_seq ?_
      refine cj_reg ?_
      refine lp rfl (p_fab fl28_1 rfl) ?_
      refine lp rfl (p_lbs ty3 rfl (j := 0) rfl rfl) ?_
      refine lp rfl (p_as rfl) ?_
      refine lj_seq ?_
      obtain rfl := Option.some.inj hm
      exact cj_rt () [] Tryz.results65 (.tmp rfl .nil) rfl rfl
    · have hm := ifB_f hb hm
      refine cj_skip ?_
      refine nj_blk ?_
      refine nj_seq ?_
      refine cj_seq ?_
      refine cj_reg ?_
      refine lp rfl (p_fab fl28_2 rfl) ?_
      refine lp rfl (p_lbs ty3 rfl (j := 0) rfl rfl) ?_
      refine lp rfl (p_as rfl) ?_
      refine lj_seq ?_
      obtain rfl := Option.some.inj hm
      exact cj_rt () [] Tryz.results65 (.tmp rfl .nil) rfl rfl
theorem ok_gleeref2_TimedOf (a0 : TProgram) (s0_0_ : SV) (xg0_0_ : List (TItem × SV)) (a1 : Int) {r : (List TTimed)} (hm : m_gleeref2_TimedOf a0 a1 = some r) :
    Ctr Tryz.prog 43 [.agg [s0_0_.v, .int .i64 a0.Change, .int .i64 a0.Clap, .int .i64 a0.Break, .int .i64 a0.Half].toArray, .int .i64 a1].toArray ([] : List Ent) [Lk N57 a0.Items xg0_0_, RdS N57.R (SV.v s0_0_) xg0_0_] (X := SV) (fun s => s.v) (fun s => [.row R82 (SV.v s) r]) := by
  unfold m_gleeref2_TimedOf at hm
  refine ctr_mk (vs := [(0, .agg [s0_0_.v, .int .i64 a0.Change, .int .i64 a0.Clap, .int .i64 a0.Break, .int .i64 a0.Half].toArray), (1, .int .i64 a1)]) Tryz.func43 rfl Tryz.ntmps43 rfl ⟨rfl, rfl, trivial⟩ (fun w0 A => ?_)
  refine cj_pure (F := Lk N57 a0.Items xg0_0_) (.ro 0 rfl) (fun _ h => h.1) (fun hL0_0_ => ?_)
  refine cj_seq ?_
  refine cj_reg ?_
  refine r_bx (cs := [s0_0_.v, .int .i64 a0.Change, .int .i64 a0.Clap, .int .i64 a0.Break, .int .i64 a0.Half]) rfl rfl rfl (fun b1 => ?_)
  refine lp rfl (p_as rfl) ?_
  refine lj_seq ?_
  refine cj_seq ?_
  refine cj_reg ?_
  refine lp rfl (p_as rfl) ?_
  refine lj_seq ?_
  refine cj_seq ?_
  refine cj_seq ?_
  refine cj_reg ?_
  refine lp rfl (p_fab fl28_0 rfl) ?_
  refine lp rfl (p_lbs ty26 rfl (j := 0) rfl rfl) ?_
  refine lp rfl (p_lenG hL0_0_ Tryz.underlying26 rfl (.ro 2 rfl)) ?_
  refine lp rfl (p_mv rfl) ?_
  refine lj_seq ?_
  refine cj_nil R82 ?_
  obtain ⟨f9, hf9, hm⟩ := bindS hm
  refine cj_range (γ := SV) (m := (a0.Items.length : Int)) hf9 nilS (fun u6 g7 => [(1, .int .i64 u6.1), (2, .pointer (some ⟨b1, 0, none⟩)), (4, .slice none 0 0), (5, g7.v), (9, s0_0_.v)]) (fun u6 g7 => Sat w0 (keys ([] : List Ent)) A [.box b1 28 [s0_0_.v, .int .i64 a0.Change, .int .i64 a0.Clap, .int .i64 a0.Break, .int .i64 a0.Half], .ro (Lk N57 a0.Items xg0_0_), .ro (RdS N57.R (SV.v s0_0_) xg0_0_), .row R82 (SV.v g7) u6.2]) ⟨rfl, rfl, rfl, rfl, rfl, rfl, rfl, trivial⟩ (fun _ h => h.picks [1, 1, 1, 0] rfl) (nat_lt _) (fun _ h => by have h1 := (FactAt.get (F := RdS N57.R (SV.v s0_0_) xg0_0_) (.ro 3 rfl) h).1; rw [lk_len hL0_0_] at h1; exact h1) (fun _ _ => ⟨rfl, rfl, rfl, rfl⟩) ⟨rfl, rfl, rfl, rfl, rfl⟩ rfl rfl rfl (fun u6 g7 e => ?_) (fun aftk8 i2 x3 u6 g7 k8 hx4 hs J hJk8 hBk8 hX I cnk8 => ?_)
  · have hm := Flow.fin_b e hm
    refine nj_seq ?_
    refine cj_seq ?_
    refine cj_reg ?_
    refine lp rfl (p_mv rfl) ?_
    refine lp rfl (p_as rfl) ?_
    refine lj_seq ?_
    obtain rfl := Option.some.inj hm
    exact cj_rt g7 [3] Tryz.results43 (.tmp rfl .nil) rfl rfl
  · have hRk8 : ∀ t, k8 = .ret t → some t = some r := fun t e => by rw [hX t e] at hm; exact hm
    have hm := hs
    refine cj_seq ?_
    refine cj_reg ?_
    refine lp rfl (p_mv rfl) ?_
    obtain ⟨gx3, hx4G⟩ := lk_get hL0_0_ hx4
    refine lp rfl (p_idx Tryz.underlying26 ty57 rfl rfl (.ro 2 rfl) (getI_nat.trans hx4G)) ?_
    refine lp rfl (p_leaN (cs := [.string x3.Key, .string x3.Places, .int .i64 x3.Long, gx3.v]) ty57 rfl (.ro 2 rfl) hx4G rfl) ?_
    refine r_al ty57 rfl (fun b11 => ?_)
    refine lp rfl (p_as rfl) ?_
    refine r_sb (vs := [.string x3.Key, .string x3.Places, .int .i64 x3.Long, gx3.v]) (j := 0) ty57 rfl rfl rfl rfl rfl rfl rfl ?_
    refine lj_seq ?_
    refine cj_seq ?_
    refine cj_reg ?_
    refine lp rfl (p_mv rfl) ?_
    refine lp rfl (p_fab fl57_0 rfl) ?_
    refine lp rfl (p_lbs ty9 rfl (j := 0) rfl rfl) ?_
    refine lp rfl (p_mv rfl) ?_
    refine lp rfl (p_mv rfl) ?_
    refine lp rfl (p_fab fl57_2 rfl) ?_
    refine lp rfl (p_lbs ty3 rfl (j := 0) rfl rfl) ?_
    refine lp rfl (p_add rfl rfl) ?_
    refine lp rfl (p_bld [.int .i64 u6.1, .int .i64 (w64 (u6.1 + x3.Long))] rfl (fun _ => by kernel_rfl)) ?_
    refine lp rfl (p_bld [.string x3.Key, .int .i64 u6.1, .int .i64 (w64 (u6.1 + x3.Long))] rfl (fun _ => by kernel_rfl)) ?_
    refine r_bs R82 [(TTimed.mk x3.Key (TWindow.mk u6.1 (w64 (u6.1 + x3.Long))))] rfl rfl rfl (fun _ => by kernel_rfl) rfl (fun s12 => ?_)
    obtain ⟨q13, hq13, hm⟩ := bindS hm
    refine r_app (k := 5) Tryz.underlying77 ty82 rfl rfl rfl rfl (.row 0 rfl) hq13 rfl (fun s14 => ?_)
    refine lp rfl (p_as rfl) ?_
    refine lj_seq ?_
    refine cj_seq ?_
    refine cj_reg ?_
    refine lp rfl (p_mv rfl) ?_
    refine lp rfl (p_fab fl57_2 rfl) ?_
    refine lp rfl (p_lbs ty3 rfl (j := 1) rfl rfl) ?_
    refine lp rfl (p_add rfl rfl) ?_
    refine lp rfl (p_as rfl) ?_
    refine lj_seq ?_
    refine cj_seq ?_
    refine cj_reg ?_
    refine lp rfl (p_mv rfl) ?_
    refine lp rfl (p_add rfl rfl) ?_
    refine lp rfl (p_fab fl28_0 rfl) ?_
    refine lp rfl (p_lbs ty26 rfl (j := 2) rfl rfl) ?_
    refine lp rfl (p_lenG hL0_0_ Tryz.underlying26 rfl (.ro 4 rfl)) ?_
    refine lp rfl (p_lss rfl rfl) ?_
    refine lj_seq ?_
    refine cj_if (b := decide ((w64 ((i2 : Int) + 1)) < (a0.Items.length : Int))) rfl (fun hb => ?_) (fun hb => ?_)
    · have hm := ifB_t hb hm
      refine cj_reg ?_
      refine lp rfl (p_mv rfl) ?_
      refine lp rfl (p_lbw ty28 rfl (j := 2) rfl rfl) ?_
      refine lp rfl (p_mv rfl) ?_
      obtain ⟨y15, hy15, hm⟩ := bindS hm
      refine r_call [] cf65 rfl rfl (ok_gleeref2_between a0 s0_0_ xg0_0_ (i2 : Int) hy15) rfl rfl (.cons (.ro 3 rfl) (.cons (.ro 4 rfl) .nil)) (fun _ => rfl) rfl (fun _ => ?_)
      refine lp rfl (p_add rfl rfl) ?_
      refine lp rfl (p_as rfl) ?_
      refine lj_nil ?_
      refine nj_blk ?_
      exact cnk8 _ _ (w64 ((w64 (u6.1 + x3.Long)) + y15), q13) s14 (hJk8 _ (Option.some.inj hm).symm) ⟨rfl, rfl, rfl, rfl, rfl, rfl, rfl, trivial⟩ (fun _ h => h.picks [2, 2, 2, 2] rfl)
    · have hm := ifB_f hb hm
      refine cj_skip ?_
      refine nj_blk ?_
      exact cnk8 _ _ (w64 (u6.1 + x3.Long), q13) s14 (hJk8 _ (Option.some.inj hm).symm) ⟨rfl, rfl, rfl, rfl, rfl, rfl, rfl, trivial⟩ (fun _ h => h.picks [2, 2, 2, 2] rfl)
theorem ok_gleeref2_TiredIn (a0 : TProgram) (s0_0_ : SV) (xg0_0_ : List (TItem × SV)) (a1 : Int) (a2 : Int) {r : (List TPair)} (hm : m_gleeref2_TiredIn a0 a1 a2 = some r) :
    Ctr Tryz.prog 16 [.agg [s0_0_.v, .int .i64 a0.Change, .int .i64 a0.Clap, .int .i64 a0.Break, .int .i64 a0.Half].toArray, .int .i64 a1, .int .i64 a2].toArray ([] : List Ent) [Lk N57 a0.Items xg0_0_, RdS N57.R (SV.v s0_0_) xg0_0_] (X := SV) (fun s => s.v) (fun s => [.row R48 (SV.v s) r]) := by
  unfold m_gleeref2_TiredIn at hm
  refine ctr_mk (vs := [(0, .agg [s0_0_.v, .int .i64 a0.Change, .int .i64 a0.Clap, .int .i64 a0.Break, .int .i64 a0.Half].toArray), (1, .int .i64 a1), (2, .int .i64 a2)]) Tryz.func16 rfl Tryz.ntmps16 rfl ⟨rfl, rfl, rfl, trivial⟩ (fun w0 A => ?_)
  refine cj_pure (F := Lk N57 a0.Items xg0_0_) (.ro 0 rfl) (fun _ h => h.1) (fun hL0_0_ => ?_)
  refine cj_seq ?_
  refine cj_reg ?_
  refine r_bx (cs := [s0_0_.v, .int .i64 a0.Change, .int .i64 a0.Clap, .int .i64 a0.Break, .int .i64 a0.Half]) rfl rfl rfl (fun b1 => ?_)
  refine lp rfl (p_as rfl) ?_
  refine lj_seq ?_
  refine cj_seq ?_
  refine cj_reg ?_
  refine lp rfl (p_lbw ty28 rfl (j := 0) rfl rfl) ?_
  obtain ⟨y2, hy2, hm⟩ := bindS hm
  refine r_call [] cf43 rfl rfl (ok_gleeref2_TimedOf a0 s0_0_ xg0_0_ 0 hy2) rfl rfl (.cons (.ro 1 rfl) (.cons (.ro 2 rfl) .nil)) (fun _ => rfl) rfl (fun s3 => ?_)
  refine lp rfl (p_as rfl) ?_
  refine lj_seq ?_
  refine cj_seq ?_
  refine cj_reg ?_
  refine lp rfl (p_as rfl) ?_
  refine lj_seq ?_
  refine cj_seq ?_
  refine cj_seq ?_
  refine cj_reg ?_
  refine lp rfl (p_fab fl28_0 rfl) ?_
  refine lp rfl (p_lbs ty26 rfl (j := 1) rfl rfl) ?_
  obtain ⟨y4, hy4, hm⟩ := bindS hm
  refine r_call [] cf39 rfl rfl (ok_gleeref2_partsIn s0_0_ xg0_0_ a0.Items hy4) rfl rfl (.cons (.ro 2 rfl) (.cons (.ro 3 rfl) .nil)) (fun _ => rfl) rfl (fun s5 => ?_)
  refine lp rfl (p_len Tryz.underlying55 rfl (.row 0 rfl)) ?_
  refine lp rfl (p_mv rfl) ?_
  refine lj_seq ?_
  refine cj_nil R48 ?_
  obtain ⟨f13, hf13, hm⟩ := bindS hm
  refine cj_range (γ := SV) (m := (y4.length : Int)) hf13 nilS (fun u10 g11 => [(1, .int .i64 a1), (2, .int .i64 a2), (3, .pointer (some ⟨b1, 0, none⟩)), (6, .slice none 0 0), (7, s3.v), (8, g11.v), (19, s5.v)]) (fun u10 g11 => Sat w0 (keys ([] : List Ent)) A [.row R9 (SV.v s5) y4, .row R82 (SV.v s3) y2, .box b1 28 [s0_0_.v, .int .i64 a0.Change, .int .i64 a0.Clap, .int .i64 a0.Break, .int .i64 a0.Half], .ro (Lk N57 a0.Items xg0_0_), .ro (RdS N57.R (SV.v s0_0_) xg0_0_), .row R48 (SV.v g11) u10]) ⟨rfl, rfl, rfl, rfl, rfl, rfl, rfl, rfl, rfl, trivial⟩ (fun _ h => h.picks [1, 1, 1, 1, 1, 0] rfl) (nat_lt _) (fun _ h => (FactAt.get (F := RdS R9 (SV.v s5) y4) (.row 1 rfl) h).1) (fun _ _ => ⟨rfl, rfl, rfl, rfl⟩) ⟨rfl, rfl, rfl, rfl, rfl⟩ rfl rfl rfl (fun u10 g11 e => ?_) (fun aftk12 i6 x7 u10 g11 k12 hx8 hs J hJk12 hBk12 hX I cnk12 => ?_)
  · have hm := Flow.fin_b e hm
    refine nj_seq ?_
    refine cj_seq ?_
    refine cj_reg ?_
    refine lp rfl (p_mv rfl) ?_
    refine lp rfl (p_as rfl) ?_
    refine lj_seq ?_
    obtain rfl := Option.some.inj hm
    exact cj_rt g11 [5] Tryz.results16 (.tmp rfl .nil) rfl rfl
  · have hRk12 : ∀ t, k12 = .ret t → some t = some r := fun t e => by rw [hX t e] at hm; exact hm
    have hm := hs
    refine cj_seq ?_
    refine cj_reg ?_
    refine lp rfl (p_idx Tryz.underlying55 ty9 rfl rfl (.row 0 rfl) (getI_nat.trans hx8)) ?_
    refine lp rfl (p_lde (o := 0) ty9 rfl rfl (.row 0 rfl) hx8 rfl) ?_
    refine lp rfl (p_as rfl) ?_
    refine lj_seq ?_
    refine cj_seq ?_
    refine cj_reg ?_
    refine lp rfl (p_as rfl) ?_
    refine lp rfl (p_as rfl) ?_
    refine lj_seq ?_
    refine cj_seq ?_
    refine cj_reg ?_
    refine lp rfl (p_fab fl28_0 rfl) ?_
    refine lp rfl (p_lbs ty26 rfl (j := 2) rfl rfl) ?_
    refine lp rfl (p_lenG hL0_0_ Tryz.underlying26 rfl (.ro 4 rfl)) ?_
    refine lp rfl (p_mv rfl) ?_
    refine lj_seq ?_
    obtain ⟨f21, hf21, hm⟩ := bindS hm
    refine cj_range (γ := SV) (m := (a0.Items.length : Int)) hf21 g11 (fun u18 g19 => [(1, .int .i64 a1), (2, .int .i64 a2), (3, .pointer (some ⟨b1, 0, none⟩)), (6, .slice none 0 0), (7, s3.v), (8, g19.v), (10, .string x7), (11, .int .i64 u18.1), (12, .int .i64 u18.2.1), (19, s5.v), (20, .int .i64 (y4.length : Int)), (21, .int .i64 (i6 : Int)), (26, s0_0_.v)]) (fun u18 g19 => Sat w0 (keys ([] : List Ent)) A [.row R9 (SV.v s5) y4, .row R82 (SV.v s3) y2, .box b1 28 [s0_0_.v, .int .i64 a0.Change, .int .i64 a0.Clap, .int .i64 a0.Break, .int .i64 a0.Half], .ro (Lk N57 a0.Items xg0_0_), .ro (RdS N57.R (SV.v s0_0_) xg0_0_), .row R48 (SV.v g19) u18.2.2]) ⟨rfl, rfl, rfl, rfl, rfl, rfl, rfl, rfl, rfl, rfl, rfl, rfl, rfl, rfl, rfl, trivial⟩ (fun _ h => h.picks [0, 0, 0, 0, 0, 0] rfl) (nat_lt _) (fun _ h => by have h1 := (FactAt.get (F := RdS N57.R (SV.v s0_0_) xg0_0_) (.ro 4 rfl) h).1; rw [lk_len hL0_0_] at h1; exact h1) (fun _ _ => ⟨rfl, rfl, rfl, rfl⟩) ⟨rfl, rfl, rfl, rfl, rfl⟩ rfl rfl rfl (fun u18 g19 e => ?_) (fun aftk20 i15 x16 u18 g19 k20 hx17 hs J hJk20 hBk20 hX I cnk20 => ?_)
    · have hm := Flow.fin_b e hm
      refine nj_blk ?_
      exact cnk12 _ _ u18.2.2 g19 (hJk12 _ (Option.some.inj hm).symm) ⟨rfl, rfl, rfl, rfl, rfl, rfl, rfl, rfl, rfl, trivial⟩ (fun _ h => h.picks [0, 0, 0, 0, 0, 0] rfl)
    · have hRk20 : ∀ t, k20 = .ret t → some t = some k12 := fun t e => by rw [hX t e] at hm; exact hm
      have hm := hs
      refine cj_seq ?_
      refine cj_reg ?_
      refine lp rfl (p_mv rfl) ?_
      obtain ⟨gx16, hx17G⟩ := lk_get hL0_0_ hx17
      refine lp rfl (p_idx Tryz.underlying26 ty57 rfl rfl (.ro 4 rfl) (getI_nat.trans hx17G)) ?_
      refine lp rfl (p_leaN (cs := [.string x16.Key, .string x16.Places, .int .i64 x16.Long, gx16.v]) ty57 rfl (.ro 4 rfl) hx17G rfl) ?_
      refine r_al ty57 rfl (fun b23 => ?_)
      refine lp rfl (p_as rfl) ?_
      refine r_sb (vs := [.string x16.Key, .string x16.Places, .int .i64 x16.Long, gx16.v]) (j := 0) ty57 rfl rfl rfl rfl rfl rfl rfl ?_
      refine lj_seq ?_
      refine cj_seq ?_
      refine cj_seq ?_
      refine cj_reg ?_
      refine lp rfl (p_fab fl57_3 rfl) ?_
      refine lp rfl (p_lbs ty55 rfl (j := 0) rfl rfl) ?_
      refine lp rfl (p_mv rfl) ?_
      obtain ⟨y24, hy24, hm⟩ := bindS hm
      refine r_call [] cf32 rfl rfl (ok_slices_Contains_string_string gx16 x16.Parts x7 hy24) rfl rfl (.cons (.imp (.ro 4 rfl) (fun _ h => (Lk.at_ h hx17G))) .nil) (fun _ => rfl) rfl (fun _ => ?_)
      refine lp rfl (p_not rfl) ?_
      refine lj_seq ?_
      refine cj_if (b := !y24) rfl (fun hb => ?_) (fun hb => ?_)
      · have hm := ifB_t hb hm
        refine cj_exit rfl ?_
        exact cnk20 _ _ (u18.1, u18.2.1, u18.2.2) g19 (hJk20 _ (Option.some.inj hm).symm) ⟨rfl, rfl, rfl, rfl, rfl, rfl, rfl, rfl, rfl, rfl, rfl, rfl, rfl, rfl, rfl, trivial⟩ (fun _ h => h.picks [1, 1, 1, 1, 1, 1] rfl)
      · have hm := ifB_f hb hm
        refine cj_skip ?_
        refine nj_seq ?_
        refine cj_seq ?_
        refine cj_seq ?_
        refine cj_reg ?_
        refine lp rfl (p_mv rfl) ?_
        refine lp rfl (p_mv rfl) ?_
        obtain ⟨e25, he25, hm⟩ := bindS hm
        refine lp rfl (p_idx Tryz.underlying77 ty82 rfl rfl (.row 2 rfl) he25) ?_
        refine lp rfl (p_fae fl82_1 rfl (.row 2 rfl) (getI_spec he25).2) ?_
        refine lp rfl (p_fae fl80_0 rfl (.row 2 rfl) (getI_spec he25).2) ?_
        refine lp rfl (p_lde (o := 1) ty3 rfl rfl (.row 2 rfl) (getI_spec he25).2 rfl) ?_
        refine lp rfl (p_mv rfl) ?_
        refine lp rfl (p_sub rfl rfl) ?_
        refine lp rfl (p_mv rfl) ?_
        refine lp rfl (p_geq rfl rfl) ?_
        refine lj_seq ?_
        obtain ⟨k28, hk28, hm⟩ := bindS hm
        have hRk28 : ∀ t, k28 = .inr t → some t = some k20 := fun t e => by rw [e] at hm; exact hm
        refine cj_joinK (σ := Int) (γ := Unit) (fun u26 => k28 = .inl u26) (fun u26 g27 => [(1, .int .i64 a1), (2, .int .i64 a2), (3, .pointer (some ⟨b1, 0, none⟩)), (6, .slice none 0 0), (7, s3.v), (8, g19.v), (10, .string x7), (11, .int .i64 u26), (12, .int .i64 u18.2.1), (13, .int .i64 (i15 : Int)), (14, .pointer (some ⟨b23, 0, none⟩)), (19, s5.v), (20, .int .i64 (y4.length : Int)), (21, .int .i64 (i6 : Int)), (26, s0_0_.v), (27, .int .i64 (a0.Items.length : Int)), (28, .int .i64 (i15 : Int))]) (fun u26 g27 => Sat w0 (keys ([] : List Ent)) A [.box b23 57 [.string x16.Key, .string x16.Places, .int .i64 x16.Long, gx16.v], .row R9 (SV.v s5) y4, .row R82 (SV.v s3) y2, .box b1 28 [s0_0_.v, .int .i64 a0.Change, .int .i64 a0.Clap, .int .i64 a0.Break, .int .i64 a0.Half], .ro (Lk N57 a0.Items xg0_0_), .ro (RdS N57.R (SV.v s0_0_) xg0_0_), .row R48 (SV.v g19) u18.2.2]) (fun u26 g27 hq => ?_) (fun J cnk28 => ?_)
        · have hm := Sum.fin_l hq hm
          refine cj_seq ?_
          refine cj_quiet (by kernel_rfl) (by kernel_rfl) ?_
          refine q_p rfl (p_mv rfl) ?_
          refine q_p rfl (p_fab fl57_2 rfl) ?_
          refine q_p rfl (p_lbs ty3 rfl (j := 0) rfl rfl) ?_
          refine q_p rfl (p_add rfl rfl) ?_
          refine q_p rfl (p_mv rfl) ?_
          refine q_p rfl (p_mv rfl) ?_
          obtain ⟨e29, he29, hm⟩ := bindS hm
          refine q_p rfl (p_idx Tryz.underlying77 ty82 rfl rfl (.row 2 rfl) he29) ?_
          refine q_p rfl (p_fae fl82_1 rfl (.row 2 rfl) (getI_spec he29).2) ?_
          refine q_p rfl (p_fae fl80_1 rfl (.row 2 rfl) (getI_spec he29).2) ?_
          refine q_p rfl (p_lde (o := 2) ty3 rfl rfl (.row 2 rfl) (getI_spec he29).2 rfl) ?_
          refine q_p rfl (p_as rfl) ?_
          refine q_p rfl (p_as rfl) ?_
          refine q_nil ?_
          refine nj_seq ?_
          refine cj_seq ?_
          refine cj_reg ?_
          refine lp rfl (p_mv rfl) ?_
          refine lp rfl (p_mv rfl) ?_
          refine lp rfl (p_gtr rfl rfl) ?_
          refine lj_seq ?_
          refine cj_if (b := decide ((w64 (u26 + x16.Long)) > a1)) rfl (fun hb => ?_) (fun hb => ?_)
          · have hm := ifB_t hb hm
            refine cj_seq ?_
            refine cj_reg ?_
            refine lp rfl (p_mv rfl) ?_
            refine lp rfl (p_mv rfl) ?_
            refine lp rfl (p_fab fl57_0 rfl) ?_
            refine lp rfl (p_lbs ty9 rfl (j := 0) rfl rfl) ?_
            refine lp rfl (p_bld [.string x7, .string x16.Key] rfl (fun _ => by kernel_rfl)) ?_
            refine r_bs R48 [(TPair.mk x7 x16.Key)] rfl rfl rfl (fun _ => by kernel_rfl) rfl (fun s30 => ?_)
            obtain ⟨q31, hq31, hm⟩ := bindS hm
            refine r_app (k := 7) Tryz.underlying32 ty48 rfl rfl rfl rfl (.row 0 rfl) hq31 rfl (fun s32 => ?_)
            refine lp rfl (p_as rfl) ?_
            refine lj_seq ?_
            refine cj_exit rfl ?_
            exact (aftk20 (w64 (u26 + x16.Long), e29.Time.To, q31) s32 (hBk20 _ (Option.some.inj hm).symm)).sub ⟨rfl, rfl, rfl, rfl, rfl, rfl, rfl, rfl, rfl, rfl, rfl, rfl, rfl, trivial⟩ (fun _ h => h.picks [2, 2, 2, 2, 2, 2] rfl)
          · have hm := ifB_f hb hm
            refine cj_skip ?_
            refine nj_blk ?_
            exact cnk20 _ _ (w64 (u26 + x16.Long), e29.Time.To, u18.2.2) g19 (hJk20 _ (Option.some.inj hm).symm) ⟨rfl, rfl, rfl, rfl, rfl, rfl, rfl, rfl, rfl, rfl, rfl, rfl, rfl, rfl, rfl, trivial⟩ (fun _ h => h.picks [1, 1, 1, 1, 1, 1] rfl)
        · have hm := hk28
          refine cj_if (b := decide ((w64 (e25.Time.From - u18.2.1)) ≥ a2)) rfl (fun hb => ?_) (fun hb => ?_)
          · have hm := ifB_t hb hm
            refine cj_reg ?_
            refine lp rfl (p_as rfl) ?_
            refine lj_nil ?_
            exact cnk28 _ _ 0 () (Option.some.inj hm).symm ⟨rfl, rfl, rfl, rfl, rfl, rfl, rfl, rfl, rfl, rfl, rfl, rfl, rfl, rfl, rfl, rfl, rfl, trivial⟩ (fun _ h => h.picks [0, 0, 0, 0, 0, 0, 0] rfl)
          · have hm := ifB_f hb hm
            refine cj_skip ?_
            exact cnk28 _ _ u18.1 () (Option.some.inj hm).symm ⟨rfl, rfl, rfl, rfl, rfl, rfl, rfl, rfl, rfl, rfl, rfl, rfl, rfl, rfl, rfl, rfl, rfl, trivial⟩ (fun _ h => h.picks [0, 0, 0, 0, 0, 0, 0] rfl)
theorem ok_slices_Equal_api_Pair_api_Pair (s0_ : SV) (a0 : (List TPair)) (s1_ : SV) (a1 : (List TPair)) {r : Bool} (hm : m_slices_Equal_api_Pair_api_Pair a0 a1 = some r) :
    Ctr Tryz.prog 17 [s0_.v, s1_.v].toArray ([] : List Ent) [RdS R48 (SV.v s0_) a0, RdS R48 (SV.v s1_) a1] (X := Unit) (fun _ => .bool r) (fun _ => []) := by
  unfold m_slices_Equal_api_Pair_api_Pair at hm
  refine ctr_mk (vs := [(0, s0_.v), (1, s1_.v)]) Tryz.func17 rfl Tryz.ntmps17 rfl ⟨rfl, rfl, trivial⟩ (fun w0 A => ?_)
  refine cj_seq ?_
  refine cj_reg ?_
  refine lp rfl (p_as rfl) ?_
  refine lj_seq ?_
  refine cj_seq ?_
  refine cj_seq ?_
  refine cj_reg ?_
  refine lp rfl (p_mv rfl) ?_
  refine lp rfl (p_len Tryz.underlying32 rfl (.ro 0 rfl)) ?_
  refine lp rfl (p_mv rfl) ?_
  refine lp rfl (p_len Tryz.underlying32 rfl (.ro 1 rfl)) ?_
  refine lp rfl (p_neq rfl rfl) ?_
  refine lj_seq ?_
  refine cj_if (b := (a0.length : Int) != (a1.length : Int)) rfl (fun hb => ?_) (fun hb => ?_)
  · have hm := ifB_t hb hm
    refine cj_seq ?_
    refine cj_reg ?_
    refine lp rfl (p_as rfl) ?_
    refine lj_seq ?_
    obtain rfl := Option.some.inj hm
    exact cj_rt () [] Tryz.results17 (.tmp rfl .nil) rfl rfl
  · have hm := ifB_f hb hm
    refine cj_skip ?_
    refine nj_seq ?_
    refine cj_seq ?_
    refine cj_seq ?_
    refine cj_reg ?_
    refine lp rfl (p_mv rfl) ?_
    refine lp rfl (p_len Tryz.underlying32 rfl (.ro 0 rfl)) ?_
    refine lp rfl (p_mv rfl) ?_
    refine lj_seq ?_
    obtain ⟨f7, hf7, hm⟩ := bindS hm
    refine cj_range (γ := Unit) (m := (a0.length : Int)) hf7 () (fun u4 g5 => [(0, s0_.v), (1, s1_.v), (4, .bool false)]) (fun u4 g5 => Sat w0 (keys ([] : List Ent)) A [.ro (RdS R48 (SV.v s0_) a0), .ro (RdS R48 (SV.v s1_) a1)]) ⟨rfl, rfl, rfl, rfl, rfl, trivial⟩ (fun _ h => h.picks [0, 0] rfl) (nat_lt _) (fun _ h => (FactAt.get (F := RdS R48 (SV.v s0_) a0) (.ro 0 rfl) h).1) (fun _ _ => ⟨rfl, rfl, rfl, rfl⟩) ⟨rfl, rfl, rfl, rfl, rfl⟩ rfl rfl rfl (fun u4 g5 e => ?_) (fun aftk6 i1 x2 u4 g5 k6 hx3 hs J hJk6 hBk6 hX I cnk6 => ?_)
    · have hm := Flow.fin_b e hm
      refine nj_seq ?_
      refine cj_seq ?_
      refine cj_reg ?_
      refine lp rfl (p_as rfl) ?_
      refine lj_seq ?_
      obtain rfl := Option.some.inj hm
      exact cj_rt () [] Tryz.results17 (.tmp rfl .nil) rfl rfl
    · have hRk6 : ∀ t, k6 = .ret t → some t = some r := fun t e => by rw [hX t e] at hm; exact hm
      have hm := hs
      refine cj_seq ?_
      refine cj_reg ?_
      refine lp rfl (p_mv rfl) ?_
      refine lp rfl (p_as rfl) ?_
      refine lj_seq ?_
      refine cj_seq ?_
      refine cj_quiet (by kernel_rfl) (by kernel_rfl) ?_
      refine q_p rfl (p_mv rfl) ?_
      refine q_p rfl (p_mv rfl) ?_
      refine q_p rfl (p_idx Tryz.underlying32 ty48 rfl rfl (.ro 0 rfl) (getI_nat.trans hx3)) ?_
      refine q_p rfl (p_lea ty48 rfl (.ro 0 rfl) hx3) ?_
      refine q_p rfl (p_mv rfl) ?_
      refine q_p rfl (p_mv rfl) ?_
      obtain ⟨e8, he8, hm⟩ := bindS hm
      refine q_p rfl (p_idx Tryz.underlying32 ty48 rfl rfl (.ro 1 rfl) he8) ?_
      refine q_p rfl (p_lea ty48 rfl (.ro 1 rfl) (getI_spec he8).2) ?_
      refine q_p rfl (p_nest (by kernel_rfl) rfl rfl (eqst48 x2 e8)) ?_
      refine q_nil ?_
      refine nj_seq ?_
      refine cj_if (b := !(decide (x2 = e8))) rfl (fun hb => ?_) (fun hb => ?_)
      · have hm := ifB_t hb hm
        refine cj_seq ?_
        refine cj_reg ?_
        refine lp rfl (p_as rfl) ?_
        refine lj_seq ?_
        have hm := hRk6 _ (Option.some.inj hm).symm
        obtain rfl := Option.some.inj hm
        exact cj_rt () [] Tryz.results17 (.tmp rfl .nil) rfl rfl
      · have hm := ifB_f hb hm
        refine cj_skip ?_
        refine nj_blk ?_
        exact cnk6 _ _ () () (hJk6 _ (Option.some.inj hm).symm) ⟨rfl, rfl, rfl, rfl, rfl, trivial⟩ (fun _ h => h.picks [0, 0] rfl)
theorem ok_concert_Long (a0 : TProgram) (s0_0_ : SV) (xg0_0_ : List (TItem × SV)) {r : Int × Int} (hm : m_concert_Long a0 = some r) :
    Ctr Tryz.prog 44 [.agg [s0_0_.v, .int .i64 a0.Change, .int .i64 a0.Clap, .int .i64 a0.Break, .int .i64 a0.Half].toArray].toArray ([] : List Ent) [Lk N57 a0.Items xg0_0_, RdS N57.R (SV.v s0_0_) xg0_0_] (X := Unit) (fun _ => .tuple [.int .i64 r.1, .int .i64 r.2].toArray) (fun _ => []) := by
  unfold m_concert_Long at hm
  refine ctr_mk (vs := [(0, .agg [s0_0_.v, .int .i64 a0.Change, .int .i64 a0.Clap, .int .i64 a0.Break, .int .i64 a0.Half].toArray)]) Tryz.func44 rfl Tryz.ntmps44 rfl ⟨rfl, trivial⟩ (fun w0 A => ?_)
  refine cj_pure (F := Lk N57 a0.Items xg0_0_) (.ro 0 rfl) (fun _ h => h.1) (fun hL0_0_ => ?_)
  refine cj_seq ?_
  refine cj_reg ?_
  refine r_bx (cs := [s0_0_.v, .int .i64 a0.Change, .int .i64 a0.Clap, .int .i64 a0.Break, .int .i64 a0.Half]) rfl rfl rfl (fun b1 => ?_)
  refine lp rfl (p_as rfl) ?_
  refine lp rfl (p_as rfl) ?_
  refine lj_seq ?_
  refine cj_seq ?_
  refine cj_seq ?_
  refine cj_reg ?_
  refine lp rfl (p_lbw ty28 rfl (j := 0) rfl rfl) ?_
  obtain ⟨y2, hy2, hm⟩ := bindS hm
  refine r_call [] cf24 rfl rfl (ok_concert_CheckProgram a0 s0_0_ xg0_0_ hy2) rfl rfl (.cons (.ro 1 rfl) (.cons (.ro 2 rfl) .nil)) (fun _ => rfl) rfl (fun _ => ?_)
  refine lp rfl (p_as rfl) ?_
  refine lj_seq ?_
  refine cj_seq ?_
  refine cj_reg ?_
  refine lp rfl (p_mv rfl) ?_
  refine lp rfl (p_neq rfl rfl) ?_
  refine lj_seq ?_
  refine cj_if (b := y2 != 0) rfl (fun hb => ?_) (fun hb => ?_)
  · have hm := ifB_t hb hm
    refine cj_seq ?_
    refine cj_reg ?_
    refine lp rfl (p_mv rfl) ?_
    refine lp rfl (p_as rfl) ?_
    refine lp rfl (p_as rfl) ?_
    refine lj_seq ?_
    obtain rfl := Option.some.inj hm
    exact cj_rt () [] Tryz.results44 (.tmp rfl (.tmp rfl .nil)) rfl rfl
  · have hm := ifB_f hb hm
    refine cj_skip ?_
    refine nj_seq ?_
    refine cj_seq ?_
    refine cj_reg ?_
    refine lp rfl (p_lbw ty28 rfl (j := 0) rfl rfl) ?_
    obtain ⟨y3, hy3, hm⟩ := bindS hm
    refine r_call [] cf58 rfl rfl (ok_concert_begins a0 s0_0_ xg0_0_ hy3) rfl rfl (.cons (.ro 1 rfl) (.cons (.ro 2 rfl) .nil)) (fun _ => rfl) rfl (fun s4 => ?_)
    refine lp rfl (p_mv rfl) ?_
    refine lp rfl (p_ext rfl rfl) ?_
    refine lp rfl (p_ext rfl rfl) ?_
    refine lp rfl (p_as rfl) ?_
    refine lp rfl (p_as rfl) ?_
    refine lj_seq ?_
    refine cj_seq ?_
    refine cj_reg ?_
    refine lp rfl (p_mv rfl) ?_
    refine lp rfl (p_as rfl) ?_
    refine lp rfl (p_as rfl) ?_
    refine lj_seq ?_
    obtain rfl := Option.some.inj hm
    exact cj_rt () [] Tryz.results44 (.tmp rfl (.tmp rfl .nil)) rfl rfl
theorem ok_gleelaw2_sung  {r : Bool} (hm : m_gleelaw2_sung  = some r) :
    Ctr Tryz.prog 18 [].toArray ([] : List Ent) [] (X := Unit) (fun _ => .bool r) (fun _ => []) := by
  unfold m_gleelaw2_sung at hm
  refine ctr_mk (vs := []) Tryz.func18 rfl Tryz.ntmps18 rfl trivial (fun w0 A => ?_)
  refine cj_seq ?_
  refine cj_reg ?_
  refine lp rfl (p_as rfl) ?_
  refine lj_seq ?_
  refine cj_seq ?_
  refine cj_reg ?_
  refine r_bs R9 [(ByteArray.mk [97, 108, 116, 111].toArray)] rfl rfl rfl (fun _ => by kernel_rfl) rfl (fun s1 => ?_)
  refine lp rfl (p_bld [.string (ByteArray.mk [97].toArray), .string (ByteArray.mk [112].toArray), .int .i64 7, s1.v] rfl (fun _ => by kernel_rfl)) ?_
  refine r_fz 0 rfl ?_
  refine r_fact (F := Lk N57 [(TItem.mk (ByteArray.mk [97].toArray) (ByteArray.mk [112].toArray) 7 [(ByteArray.mk [97, 108, 116, 111].toArray)])] [((TItem.mk (ByteArray.mk [97].toArray) (ByteArray.mk [112].toArray) 7 [(ByteArray.mk [97, 108, 116, 111].toArray)]), s1)]) (.imp (.and (.ro 0 rfl) (.nilL N57)) (fun _ h => Lk.cons h.1 h.2)) ?_
  have hLs2 : (([((TItem.mk (ByteArray.mk [97].toArray) (ByteArray.mk [112].toArray) 7 [(ByteArray.mk [97, 108, 116, 111].toArray)]), s1)] : List (TItem × SV)).map Prod.fst) = ([(TItem.mk (ByteArray.mk [97].toArray) (ByteArray.mk [112].toArray) 7 [(ByteArray.mk [97, 108, 116, 111].toArray)])] : List TItem) := rfl
  refine r_bs N57.R [((TItem.mk (ByteArray.mk [97].toArray) (ByteArray.mk [112].toArray) 7 [(ByteArray.mk [97, 108, 116, 111].toArray)]), s1)] rfl rfl rfl (fun _ => by kernel_rfl) rfl (fun s2 => ?_)
  refine lp rfl (p_bld [s2.v, .int .i64 0, .int .i64 0, .int .i64 0, .int .i64 (-1)] rfl (fun _ => by kernel_rfl)) ?_
  obtain ⟨y3, hy3, hm⟩ := bindS hm
  refine r_call [] cf44 rfl rfl (ok_concert_Long (TProgram.mk [(TItem.mk (ByteArray.mk [97].toArray) (ByteArray.mk [112].toArray) 7 [(ByteArray.mk [97, 108, 116, 111].toArray)])] 0 0 0 (-1)) s2 [((TItem.mk (ByteArray.mk [97].toArray) (ByteArray.mk [112].toArray) 7 [(ByteArray.mk [97, 108, 116, 111].toArray)]), s1)] hy3) rfl rfl (.cons (.ro 1 rfl) (.cons (.row 0 rfl) .nil)) (fun _ => rfl) rfl (fun _ => ?_)
  refine lp rfl (p_mv rfl) ?_
  refine lp rfl (p_ext rfl rfl) ?_
  refine lp rfl (p_ext rfl rfl) ?_
  refine lp rfl (p_as rfl) ?_
  refine lp rfl (p_as rfl) ?_
  refine lj_seq ?_
  refine cj_seq ?_
  refine cj_reg ?_
  refine lp rfl (p_mv rfl) ?_
  refine lp rfl (p_eql rfl rfl) ?_
  refine lp rfl (p_mv rfl) ?_
  refine lcase (i := 13) (y3.2 == 0) rfl (fun hb => ?_) (fun hb => ?_)
  · have hm := ifB_t hb hm
    refine lg true rfl rfl rfl ?_
    refine lp rfl (p_mv rfl) ?_
    refine lg true rfl rfl rfl ?_
    refine lp rfl (p_eql rfl rfl) ?_
    refine lp rfl (p_pkt rfl rfl) ?_
    refine lp rfl (p_as rfl) ?_
    refine lj_seq ?_
    obtain rfl := Option.some.inj hm
    exact cj_rt () [] Tryz.results18 (.tmp rfl .nil) rfl rfl
  · have hm := ifB_f hb hm
    refine ls true rfl rfl rfl rfl ?_
    refine ls true rfl rfl rfl rfl ?_
    refine lp rfl (p_pkf rfl rfl) ?_
    refine lp rfl (p_as rfl) ?_
    refine lj_seq ?_
    obtain rfl := Option.some.inj hm
    exact cj_rt () [] Tryz.results18 (.tmp rfl .nil) rfl rfl
theorem ok_gleelaw2_VoicesRest (s0_ : SV) (a0 : (List Int)) {r : Bool} (hm : m_gleelaw2_VoicesRest a0 = some r) :
    Ctr Tryz.prog 3 [s0_.v].toArray ([] : List Ent) [RdS R3 (SV.v s0_) a0, PowT] (X := Unit) (fun _ => .bool r) (fun _ => []) := by
  unfold m_gleelaw2_VoicesRest at hm
  refine ctr_mk (vs := [(0, s0_.v)]) Tryz.func3 rfl Tryz.ntmps3 rfl ⟨rfl, trivial⟩ (fun w0 A => ?_)
  refine cj_seq ?_
  refine cj_reg ?_
  refine lp rfl (p_as rfl) ?_
  refine lj_seq ?_
  refine cj_seq ?_
  refine cj_reg ?_
  refine lp rfl (p_mv rfl) ?_
  refine lp rfl (p_bld [s0_.v, .int .i64 0] rfl (fun _ => by kernel_rfl)) ?_
  refine r_bx (cs := [s0_.v, .int .i64 0]) rfl rfl rfl (fun b1 => ?_)
  refine lp rfl (p_as rfl) ?_
  refine lj_seq ?_
  refine cj_seq ?_
  refine cj_reg ?_
  refine lp rfl (p_mv rfl) ?_
  obtain ⟨y2, hy2, hm⟩ := bindS hm
  refine r_callN [0] cf4 rfl rfl (ok_gleemake_Stream_AProgram b1 s0_ a0 0 5 hy2) rfl rfl (.cons (.ro 0 rfl) .nil) rfl (fun ⟨s3, xg4⟩ => ?_)
  refine r_pure (F := Lk N57 y2.1.Items xg4) (.ro 1 rfl) (fun _ h => h.1) (fun hLs3 => ?_)
  refine lp rfl (p_mv rfl) ?_
  refine r_bs R9 [(ByteArray.mk [97, 108, 116, 111].toArray), (ByteArray.mk [98, 97, 115, 115].toArray), (ByteArray.mk [115, 111, 108, 105].toArray), (ByteArray.mk [122, 122].toArray), ByteArray.empty] rfl rfl rfl (fun _ => by kernel_rfl) rfl (fun s5 => ?_)
  obtain ⟨y6, hy6, hm⟩ := bindS hm
  refine r_call [3] cf5 rfl rfl (ok_gleemake_Stream_Some b1 s0_ a0 y2.2 s5 [(ByteArray.mk [97, 108, 116, 111].toArray), (ByteArray.mk [98, 97, 115, 115].toArray), (ByteArray.mk [115, 111, 108, 105].toArray), (ByteArray.mk [122, 122].toArray), ByteArray.empty] hy6) rfl rfl (.cons (.ro 3 rfl) (.cons (.row 0 rfl) .nil)) (fun _ => rfl) rfl (fun _ => ?_)
  refine lp rfl (p_mv rfl) ?_
  refine r_bs R3 [50, 100, 200, 300, 0, 86400001] rfl rfl rfl (fun _ => by kernel_rfl) rfl (fun s7 => ?_)
  obtain ⟨y8, hy8, hm⟩ := bindS hm
  refine r_call [1] cf6 rfl rfl (ok_gleemake_Stream_Pick b1 s0_ a0 y6.2 s7 [50, 100, 200, 300, 0, 86400001] hy8) rfl rfl (.cons (.ro 4 rfl) (.cons (.row 0 rfl) .nil)) (fun _ => rfl) rfl (fun _ => ?_)
  refine lp rfl (p_mv rfl) ?_
  refine r_bs R3 [1, 10, 30, 100, 200, 0, 86400001] rfl rfl rfl (fun _ => by kernel_rfl) rfl (fun s9 => ?_)
  obtain ⟨y10, hy10, hm⟩ := bindS hm
  refine r_call [1] cf6 rfl rfl (ok_gleemake_Stream_Pick b1 s0_ a0 y8.2 s9 [1, 10, 30, 100, 200, 0, 86400001] hy10) rfl rfl (.cons (.ro 5 rfl) (.cons (.row 0 rfl) .nil)) (fun _ => rfl) rfl (fun _ => ?_)
  refine r_al ty28 rfl (fun b11 => ?_)
  refine r_sb (vs := [s3.v, .int .i64 y2.1.Change, .int .i64 y2.1.Clap, .int .i64 y2.1.Break, .int .i64 y2.1.Half]) (j := 0) ty28 rfl rfl rfl rfl rfl rfl rfl ?_
  refine lp rfl (p_as rfl) ?_
  refine lp rfl (p_as rfl) ?_
  refine lp rfl (p_as rfl) ?_
  refine lj_seq ?_
  refine cj_seq ?_
  refine cj_reg ?_
  refine lp rfl (p_lbw ty28 rfl (j := 0) rfl rfl) ?_
  obtain ⟨y12, hy12, hm⟩ := bindS hm
  refine r_call [] cf7 rfl rfl (ok_concert_Sung y2.1 s3 xg4 hy12) rfl rfl (.cons (.ro 6 rfl) (.cons (.row 5 rfl) (.cons (.ro 8 rfl) .nil))) (fun _ => rfl) rfl (fun s13 => ?_)
  refine lp rfl (p_mv rfl) ?_
  refine lp rfl (p_ext rfl rfl) ?_
  refine lp rfl (p_ext rfl rfl) ?_
  refine lp rfl (p_as rfl) ?_
  refine lp rfl (p_as rfl) ?_
  refine lj_seq ?_
  refine cj_seq ?_
  refine cj_reg ?_
  refine lp rfl (p_lbw ty28 rfl (j := 1) rfl rfl) ?_
  refine lp rfl (p_mv rfl) ?_
  obtain ⟨y14, hy14, hm⟩ := bindS hm
  refine r_call [] cf8 rfl rfl (ok_concert_Longest y2.1 s3 xg4 y6.1 hy14) rfl rfl (.cons (.ro 7 rfl) (.cons (.row 6 rfl) .nil)) (fun _ => rfl) rfl (fun _ => ?_)
  refine lp rfl (p_mv rfl) ?_
  refine lp rfl (p_ext rfl rfl) ?_
  refine lp rfl (p_ext rfl rfl) ?_
  refine lp rfl (p_as rfl) ?_
  refine lp rfl (p_as rfl) ?_
  refine lj_seq ?_
  refine cj_seq ?_
  refine cj_reg ?_
  refine lp rfl (p_lbw ty28 rfl (j := 1) rfl rfl) ?_
  refine lp rfl (p_mv rfl) ?_
  refine lp rfl (p_mv rfl) ?_
  obtain ⟨y15, hy15, hm⟩ := bindS hm
  refine r_call [] cf9 rfl rfl (ok_concert_Tired y2.1 s3 xg4 y8.1 y10.1 hy15) rfl rfl (.cons (.ro 7 rfl) (.cons (.row 6 rfl) .nil)) (fun _ => rfl) rfl (fun s16 => ?_)
  refine lp rfl (p_mv rfl) ?_
  refine lp rfl (p_ext rfl rfl) ?_
  refine lp rfl (p_ext rfl rfl) ?_
  refine lp rfl (p_as rfl) ?_
  refine lp rfl (p_as rfl) ?_
  refine lj_seq ?_
  refine cj_seq ?_
  refine cj_reg ?_
  refine lp rfl (p_lbw ty28 rfl (j := 2) rfl rfl) ?_
  obtain ⟨y17, hy17, hm⟩ := bindS hm
  refine r_call [] cf10 rfl rfl (ok_gleeref2_ProgramFault y2.1 s3 xg4 hy17) rfl rfl (.cons (.ro 8 rfl) (.cons (.row 7 rfl) .nil)) (fun _ => rfl) rfl (fun _ => ?_)
  refine lp rfl (p_as rfl) ?_
  refine lj_seq ?_
  refine cj_seq ?_
  refine cj_reg ?_
  refine lp rfl (p_mv rfl) ?_
  refine lp rfl (p_mv rfl) ?_
  obtain ⟨y18, hy18, hm⟩ := bindS hm
  refine r_call [] cf12 rfl rfl (ok_gleelaw2_nameFault y6.1 hy18) rfl rfl .nil (fun _ => rfl) rfl (fun _ => ?_)
  refine r_bs R33 [y17, y18] rfl rfl rfl (fun _ => by kernel_rfl) rfl (fun s19 => ?_)
  obtain ⟨y20, hy20, hm⟩ := bindS hm
  refine r_call [] cf11 rfl rfl (ok_gleelaw2_errs s19 [y17, y18] hy20) rfl rfl (.cons (.row 0 rfl) .nil) (fun _ => rfl) rfl (fun _ => ?_)
  refine lp rfl (p_as rfl) ?_
  refine lj_seq ?_
  refine cj_seq ?_
  refine cj_reg ?_
  obtain ⟨k23, hk23, hm⟩ := bindS hm
  have hRk23 : ∀ t, k23 = .inr t → some t = some r := fun t e => by rw [e] at hm; exact hm
  refine lj_join (σ := Int) (γ := Unit) (fun u21 => k23 = .inl u21) (fun u21 g22 => [(2, .bool false), (4, .pointer (some ⟨b11, 0, none⟩)), (5, .string y6.1), (6, .int .i64 y8.1), (7, .int .i64 y10.1), (8, s13.v), (9, .int .i64 y12.2), (10, .int .i64 y14.1), (11, .int .i64 y14.2), (12, s16.v), (13, .int .i64 y15.2), (14, .int .i64 y17), (15, .int .i64 y20), (16, .int .i64 u21)]) (fun u21 g22 => Sat w0 (keys ([] : List Ent)) A [.row R48 (SV.v s16) y15.1, .row R48 (SV.v s13) y12.1, .box b11 28 [s3.v, .int .i64 y2.1.Change, .int .i64 y2.1.Clap, .int .i64 y2.1.Break, .int .i64 y2.1.Half], .row N57.R (SV.v s3) xg4, .ro (Lk N57 y2.1.Items xg4), .ro PowT]) (fun u21 g22 hq => ?_) (fun J cnk23 => ?_)
  · have hm := Sum.fin_l hq hm
    refine cj_seq ?_
    refine cj_reg ?_
    refine lp rfl (p_as rfl) ?_
    refine lp rfl (p_as rfl) ?_
    refine lj_seq ?_
    refine cj_seq ?_
    refine cj_reg ?_
    refine lp rfl (p_as rfl) ?_
    refine lj_seq ?_
    refine cj_seq ?_
    refine cj_seq ?_
    refine cj_reg ?_
    refine lp rfl (p_mv rfl) ?_
    refine lp rfl (p_eql rfl rfl) ?_
    refine lj_seq ?_
    obtain ⟨k39, hk39, hm⟩ := bindS hm
    have hRk39 : ∀ t, k39 = .inr t → some t = some r := fun t e => by rw [e] at hm; exact hm
    refine cj_joinK (σ := (List TPair)) (γ := SV) (fun u36 => k39 = .inl u36) (fun u36 g37 => [(2, .bool false), (4, .pointer (some ⟨b11, 0, none⟩)), (5, .string y6.1), (6, .int .i64 y8.1), (7, .int .i64 y10.1), (8, s13.v), (9, .int .i64 y12.2), (10, .int .i64 y14.1), (11, .int .i64 y14.2), (12, s16.v), (13, .int .i64 y15.2), (14, .int .i64 y17), (15, .int .i64 y20), (16, .int .i64 u21), (17, g37.v), (18, .slice none 0 0), (19, .int .i64 0)]) (fun u36 g37 => Sat w0 (keys ([] : List Ent)) A [.row R48 (SV.v s16) y15.1, .row R48 (SV.v s13) y12.1, .box b11 28 [s3.v, .int .i64 y2.1.Change, .int .i64 y2.1.Clap, .int .i64 y2.1.Break, .int .i64 y2.1.Half], .row N57.R (SV.v s3) xg4, .ro (Lk N57 y2.1.Items xg4), .ro PowT, .row R48 (SV.v g37) u36]) (fun u36 g37 hq => ?_) (fun J cnk39 => ?_)
    · have hm := Sum.fin_l hq hm
      refine cj_seq ?_
      refine cj_seq ?_
      refine cj_reg ?_
      refine lp rfl (p_mv rfl) ?_
      refine lp rfl (p_eql rfl rfl) ?_
      refine lj_seq ?_
      obtain ⟨k45, hk45, hm⟩ := bindS hm
      have hRk45 : ∀ t, k45 = .inr t → some t = some r := fun t e => by rw [e] at hm; exact hm
      refine cj_joinK (σ := Int) (γ := Unit) (fun u43 => k45 = .inl u43) (fun u43 g44 => [(2, .bool false), (4, .pointer (some ⟨b11, 0, none⟩)), (6, .int .i64 y8.1), (7, .int .i64 y10.1), (8, s13.v), (9, .int .i64 y12.2), (10, .int .i64 y14.1), (11, .int .i64 y14.2), (12, s16.v), (13, .int .i64 y15.2), (14, .int .i64 y17), (15, .int .i64 y20), (16, .int .i64 u21), (17, g37.v), (18, .slice none 0 0), (19, .int .i64 u43)]) (fun u43 g44 => Sat w0 (keys ([] : List Ent)) A [.row R48 (SV.v s16) y15.1, .row R48 (SV.v s13) y12.1, .box b11 28 [s3.v, .int .i64 y2.1.Change, .int .i64 y2.1.Clap, .int .i64 y2.1.Break, .int .i64 y2.1.Half], .row N57.R (SV.v s3) xg4, .ro (Lk N57 y2.1.Items xg4), .ro PowT, .row R48 (SV.v g37) u36]) (fun u43 g44 hq => ?_) (fun J cnk45 => ?_)
      · have hm := Sum.fin_l hq hm
        refine cj_seq ?_
        refine cj_seq ?_
        refine cj_reg ?_
        refine lp rfl (p_mv rfl) ?_
        refine lp rfl (p_eql rfl rfl) ?_
        refine lj_seq ?_
        obtain ⟨k50, hk50, hm⟩ := bindS hm
        have hRk50 : ∀ t, k50 = .inr t → some t = some r := fun t e => by rw [e] at hm; exact hm
        refine cj_joinK (σ := (List TPair)) (γ := SV) (fun u47 => k50 = .inl u47) (fun u47 g48 => [(2, .bool false), (8, s13.v), (9, .int .i64 y12.2), (10, .int .i64 y14.1), (11, .int .i64 y14.2), (12, s16.v), (13, .int .i64 y15.2), (14, .int .i64 y17), (15, .int .i64 y20), (16, .int .i64 u21), (17, g37.v), (18, g48.v), (19, .int .i64 u43)]) (fun u47 g48 => Sat w0 (keys ([] : List Ent)) A [.row R48 (SV.v s16) y15.1, .row R48 (SV.v s13) y12.1, .ro PowT, .row R48 (SV.v g37) u36, .row R48 (SV.v g48) u47]) (fun u47 g48 hq => ?_) (fun J cnk50 => ?_)
        · have hm := Sum.fin_l hq hm
          refine cj_seq ?_
          refine cj_reg ?_
          refine lp rfl (p_mv rfl) ?_
          refine lp rfl (p_mv rfl) ?_
          refine lp rfl (p_eql rfl rfl) ?_
          refine lp rfl (p_mv rfl) ?_
          refine lcase (i := 95) (y12.2 == y17) rfl (fun hb => ?_) (fun hb => ?_)
          · have hm := ifB_t hb hm
            refine lg true rfl rfl rfl ?_
            refine lp rfl (p_mv rfl) ?_
            refine lg true rfl rfl rfl ?_
            refine lp rfl (p_mv rfl) ?_
            refine lg true rfl rfl rfl ?_
            obtain ⟨y54, hy54, hm⟩ := bindS hm
            refine r_call [] cf17 rfl rfl (ok_slices_Equal_api_Pair_api_Pair s13 y12.1 g37 u36 hy54) rfl rfl (.cons (.row 1 rfl) (.cons (.row 3 rfl) .nil)) (fun _ => rfl) rfl (fun _ => ?_)
            refine lp rfl (p_pkt rfl rfl) ?_
            refine lp rfl (p_mv rfl) ?_
            refine lcase (i := 100) y54 rfl (fun hb => ?_) (fun hb => ?_)
            · have hm := ifB_t hb hm
              refine lg true rfl rfl rfl ?_
              refine lp rfl (p_mv rfl) ?_
              refine lg true rfl rfl rfl ?_
              refine lp rfl (p_mv rfl) ?_
              refine lg true rfl rfl rfl ?_
              refine lp rfl (p_eql rfl rfl) ?_
              refine lp rfl (p_pkt rfl rfl) ?_
              refine lp rfl (p_mv rfl) ?_
              refine lcase (i := 105) (y14.2 == y20) rfl (fun hb => ?_) (fun hb => ?_)
              · have hm := ifB_t hb hm
                refine lg true rfl rfl rfl ?_
                refine lp rfl (p_mv rfl) ?_
                refine lg true rfl rfl rfl ?_
                refine lp rfl (p_mv rfl) ?_
                refine lg true rfl rfl rfl ?_
                refine lp rfl (p_eql rfl rfl) ?_
                refine lp rfl (p_pkt rfl rfl) ?_
                refine lp rfl (p_mv rfl) ?_
                refine lcase (i := 110) (y14.1 == u43) rfl (fun hb => ?_) (fun hb => ?_)
                · have hm := ifB_t hb hm
                  refine lg true rfl rfl rfl ?_
                  refine lp rfl (p_mv rfl) ?_
                  refine lg true rfl rfl rfl ?_
                  refine lp rfl (p_mv rfl) ?_
                  refine lg true rfl rfl rfl ?_
                  refine lp rfl (p_eql rfl rfl) ?_
                  refine lp rfl (p_pkt rfl rfl) ?_
                  refine lp rfl (p_mv rfl) ?_
                  refine lcase (i := 115) (y15.2 == u21) rfl (fun hb => ?_) (fun hb => ?_)
                  · have hm := ifB_t hb hm
                    refine lg true rfl rfl rfl ?_
                    refine lp rfl (p_mv rfl) ?_
                    refine lg true rfl rfl rfl ?_
                    refine lp rfl (p_mv rfl) ?_
                    refine lg true rfl rfl rfl ?_
                    obtain ⟨y55, hy55, hm⟩ := bindS hm
                    refine r_call [] cf17 rfl rfl (ok_slices_Equal_api_Pair_api_Pair s16 y15.1 g48 u47 hy55) rfl rfl (.cons (.row 0 rfl) (.cons (.row 4 rfl) .nil)) (fun _ => rfl) rfl (fun _ => ?_)
                    refine lp rfl (p_pkt rfl rfl) ?_
                    refine lp rfl (p_mv rfl) ?_
                    refine lcase (i := 120) y55 rfl (fun hb => ?_) (fun hb => ?_)
                    · have hm := ifB_t hb hm
                      refine lg true rfl rfl rfl ?_
                      obtain ⟨y56, hy56, hm⟩ := bindS hm
                      refine r_call [] cf18 rfl rfl (ok_gleelaw2_sung  hy56) rfl rfl .nil (fun _ => rfl) rfl (fun _ => ?_)
                      refine lp rfl (p_pkt rfl rfl) ?_
                      refine lp rfl (p_as rfl) ?_
                      refine lj_seq ?_
                      obtain rfl := Option.some.inj hm
                      exact cj_rt () [] Tryz.results3 (.tmp rfl .nil) rfl rfl
                    · have hm := ifB_f hb hm
                      refine ls true rfl rfl rfl rfl ?_
                      refine lp rfl (p_pkf rfl rfl) ?_
                      refine lp rfl (p_as rfl) ?_
                      refine lj_seq ?_
                      obtain rfl := Option.some.inj hm
                      exact cj_rt () [] Tryz.results3 (.tmp rfl .nil) rfl rfl
                  · have hm := ifB_f hb hm
                    refine ls true rfl rfl rfl rfl ?_
                    refine ls true rfl rfl rfl rfl ?_
                    refine ls true rfl rfl rfl rfl ?_
                    refine lp rfl (p_pkf rfl rfl) ?_
                    refine lp rfl (p_mv rfl) ?_
                    refine ls true rfl rfl rfl rfl ?_
                    refine lp rfl (p_pkf rfl rfl) ?_
                    refine lp rfl (p_as rfl) ?_
                    refine lj_seq ?_
                    obtain rfl := Option.some.inj hm
                    exact cj_rt () [] Tryz.results3 (.tmp rfl .nil) rfl rfl
                · have hm := ifB_f hb hm
                  refine ls true rfl rfl rfl rfl ?_
                  refine ls true rfl rfl rfl rfl ?_
                  refine ls true rfl rfl rfl rfl ?_
                  refine lp rfl (p_pkf rfl rfl) ?_
                  refine lp rfl (p_mv rfl) ?_
                  refine ls true rfl rfl rfl rfl ?_
                  refine ls true rfl rfl rfl rfl ?_
                  refine ls true rfl rfl rfl rfl ?_
                  refine lp rfl (p_pkf rfl rfl) ?_
                  refine lp rfl (p_mv rfl) ?_
                  refine ls true rfl rfl rfl rfl ?_
                  refine lp rfl (p_pkf rfl rfl) ?_
                  refine lp rfl (p_as rfl) ?_
                  refine lj_seq ?_
                  obtain rfl := Option.some.inj hm
                  exact cj_rt () [] Tryz.results3 (.tmp rfl .nil) rfl rfl
              · have hm := ifB_f hb hm
                refine ls true rfl rfl rfl rfl ?_
                refine ls true rfl rfl rfl rfl ?_
                refine ls true rfl rfl rfl rfl ?_
                refine lp rfl (p_pkf rfl rfl) ?_
                refine lp rfl (p_mv rfl) ?_
                refine ls true rfl rfl rfl rfl ?_
                refine ls true rfl rfl rfl rfl ?_
                refine ls true rfl rfl rfl rfl ?_
                refine lp rfl (p_pkf rfl rfl) ?_
                refine lp rfl (p_mv rfl) ?_
                refine ls true rfl rfl rfl rfl ?_
                refine ls true rfl rfl rfl rfl ?_
                refine ls true rfl rfl rfl rfl ?_
                refine lp rfl (p_pkf rfl rfl) ?_
                refine lp rfl (p_mv rfl) ?_
                refine ls true rfl rfl rfl rfl ?_
                refine lp rfl (p_pkf rfl rfl) ?_
                refine lp rfl (p_as rfl) ?_
                refine lj_seq ?_
                obtain rfl := Option.some.inj hm
                exact cj_rt () [] Tryz.results3 (.tmp rfl .nil) rfl rfl
            · have hm := ifB_f hb hm
              refine ls true rfl rfl rfl rfl ?_
              refine ls true rfl rfl rfl rfl ?_
              refine ls true rfl rfl rfl rfl ?_
              refine lp rfl (p_pkf rfl rfl) ?_
              refine lp rfl (p_mv rfl) ?_
              refine ls true rfl rfl rfl rfl ?_
              refine ls true rfl rfl rfl rfl ?_
              refine ls true rfl rfl rfl rfl ?_
              refine lp rfl (p_pkf rfl rfl) ?_
              refine lp rfl (p_mv rfl) ?_
              refine ls true rfl rfl rfl rfl ?_
              refine ls true rfl rfl rfl rfl ?_
              refine ls true rfl rfl rfl rfl ?_
              refine lp rfl (p_pkf rfl rfl) ?_
              refine lp rfl (p_mv rfl) ?_
              refine ls true rfl rfl rfl rfl ?_
              refine ls true rfl rfl rfl rfl ?_
              refine ls true rfl rfl rfl rfl ?_
              refine lp rfl (p_pkf rfl rfl) ?_
              refine lp rfl (p_mv rfl) ?_
              refine ls true rfl rfl rfl rfl ?_
              refine lp rfl (p_pkf rfl rfl) ?_
              refine lp rfl (p_as rfl) ?_
              refine lj_seq ?_
              obtain rfl := Option.some.inj hm
              exact cj_rt () [] Tryz.results3 (.tmp rfl .nil) rfl rfl
          · have hm := ifB_f hb hm
            refine ls true rfl rfl rfl rfl ?_
            refine ls true rfl rfl rfl rfl ?_
            refine ls true rfl rfl rfl rfl ?_
            refine lp rfl (p_pkf rfl rfl) ?_
            refine lp rfl (p_mv rfl) ?_
            refine ls true rfl rfl rfl rfl ?_
            refine ls true rfl rfl rfl rfl ?_
            refine ls true rfl rfl rfl rfl ?_
            refine lp rfl (p_pkf rfl rfl) ?_
            refine lp rfl (p_mv rfl) ?_
            refine ls true rfl rfl rfl rfl ?_
            refine ls true rfl rfl rfl rfl ?_
            refine ls true rfl rfl rfl rfl ?_
            refine lp rfl (p_pkf rfl rfl) ?_
            refine lp rfl (p_mv rfl) ?_
            refine ls true rfl rfl rfl rfl ?_
            refine ls true rfl rfl rfl rfl ?_
            refine ls true rfl rfl rfl rfl ?_
            refine lp rfl (p_pkf rfl rfl) ?_
            refine lp rfl (p_mv rfl) ?_
            refine ls true rfl rfl rfl rfl ?_
            refine ls true rfl rfl rfl rfl ?_
            refine ls true rfl rfl rfl rfl ?_
            refine lp rfl (p_pkf rfl rfl) ?_
            refine lp rfl (p_mv rfl) ?_
            refine ls true rfl rfl rfl rfl ?_
            refine lp rfl (p_pkf rfl rfl) ?_
            refine lp rfl (p_as rfl) ?_
            refine lj_seq ?_
            obtain rfl := Option.some.inj hm
            exact cj_rt () [] Tryz.results3 (.tmp rfl .nil) rfl rfl
        · have hm := hk50
          refine cj_if (b := u21 == 0) rfl (fun hb => ?_) (fun hb => ?_)
          · have hm := ifB_t hb hm
            refine cj_reg ?_
            refine lp rfl (p_lbw ty28 rfl (j := 2) rfl rfl) ?_
            refine lp rfl (p_mv rfl) ?_
            refine lp rfl (p_mv rfl) ?_
            obtain ⟨y51, hy51, hm⟩ := bindS hm
            refine r_call [] cf16 rfl rfl (ok_gleeref2_TiredIn y2.1 s3 xg4 y8.1 y10.1 hy51) rfl rfl (.cons (.ro 4 rfl) (.cons (.row 3 rfl) .nil)) (fun _ => rfl) rfl (fun s52 => ?_)
            refine lp rfl (p_as rfl) ?_
            refine lj_nil ?_
            exact cnk50 _ _ y51 s52 (Option.some.inj hm).symm ⟨rfl, rfl, rfl, rfl, rfl, rfl, rfl, rfl, rfl, rfl, rfl, rfl, rfl, trivial⟩ (fun _ h => h.picks [1, 1, 4, 4, 0] rfl)
          · have hm := ifB_f hb hm
            refine cj_skip ?_
            refine nj_nil R48 ?_
            exact cnk50 _ _ [] nilS (Option.some.inj hm).symm ⟨rfl, rfl, rfl, rfl, rfl, rfl, rfl, rfl, rfl, rfl, rfl, rfl, rfl, trivial⟩ (fun _ h => h.picks [1, 1, 4, 4, 0] rfl)
      · have hm := hk45
        refine cj_if (b := y20 == 0) rfl (fun hb => ?_) (fun hb => ?_)
        · have hm := ifB_t hb hm
          refine cj_reg ?_
          refine lp rfl (p_lbw ty28 rfl (j := 2) rfl rfl) ?_
          refine lp rfl (p_mv rfl) ?_
          obtain ⟨y46, hy46, hm⟩ := bindS hm
          refine r_call [] cf15 rfl rfl (ok_gleeref2_LongestOf y2.1 s3 xg4 y6.1 hy46) rfl rfl (.cons (.ro 4 rfl) (.cons (.row 3 rfl) .nil)) (fun _ => rfl) rfl (fun _ => ?_)
          refine lp rfl (p_as rfl) ?_
          refine lj_nil ?_
          exact cnk45 _ _ y46 () (Option.some.inj hm).symm ⟨rfl, rfl, rfl, rfl, rfl, rfl, rfl, rfl, rfl, rfl, rfl, rfl, rfl, rfl, rfl, rfl, trivial⟩ (fun _ h => h.picks [0, 0, 0, 0, 0, 0, 0] rfl)
        · have hm := ifB_f hb hm
          refine cj_skip ?_
          exact cnk45 _ _ 0 () (Option.some.inj hm).symm ⟨rfl, rfl, rfl, rfl, rfl, rfl, rfl, rfl, rfl, rfl, rfl, rfl, rfl, rfl, rfl, rfl, trivial⟩ (fun _ h => h.picks [0, 0, 0, 0, 0, 0, 0] rfl)
    · have hm := hk39
      refine cj_if (b := y17 == 0) rfl (fun hb => ?_) (fun hb => ?_)
      · have hm := ifB_t hb hm
        refine cj_reg ?_
        refine lp rfl (p_lbw ty28 rfl (j := 2) rfl rfl) ?_
        obtain ⟨y40, hy40, hm⟩ := bindS hm
        refine r_call [] cf14 rfl rfl (ok_gleeref2_SungBy y2.1 s3 xg4 hy40) rfl rfl (.cons (.ro 4 rfl) (.cons (.row 3 rfl) (.cons (.ro 5 rfl) .nil))) (fun _ => rfl) rfl (fun s41 => ?_)
        refine lp rfl (p_as rfl) ?_
        refine lj_nil ?_
        exact cnk39 _ _ y40 s41 (Option.some.inj hm).symm ⟨rfl, rfl, rfl, rfl, rfl, rfl, rfl, rfl, rfl, rfl, rfl, rfl, rfl, rfl, rfl, rfl, rfl, trivial⟩ (fun _ h => h.picks [1, 1, 1, 1, 1, 1, 0] rfl)
      · have hm := ifB_f hb hm
        refine cj_skip ?_
        refine nj_nil R48 ?_
        exact cnk39 _ _ [] nilS (Option.some.inj hm).symm ⟨rfl, rfl, rfl, rfl, rfl, rfl, rfl, rfl, rfl, rfl, rfl, rfl, rfl, rfl, rfl, rfl, rfl, trivial⟩ (fun _ h => h.picks [1, 1, 1, 1, 1, 1, 0] rfl)
  · have hm := hk23
    refine lp rfl (p_mv rfl) ?_
    refine lp rfl (p_mv rfl) ?_
    refine lp rfl (p_lss rfl rfl) ?_
    refine lp rfl (p_mv rfl) ?_
    refine lcase (i := 62) (decide (y8.1 < 1)) rfl (fun hb => ?_) (fun hb => ?_)
    · have hm := ifB_t hb hm
      refine ls false rfl rfl rfl rfl ?_
      refine ls false rfl rfl rfl rfl ?_
      refine lp rfl (p_pkt rfl rfl) ?_
      refine lp rfl (p_mv rfl) ?_
      refine ls false rfl rfl rfl rfl ?_
      refine ls false rfl rfl rfl rfl ?_
      refine lp rfl (p_pkt rfl rfl) ?_
      refine lp rfl (p_mv rfl) ?_
      refine ls false rfl rfl rfl rfl ?_
      refine ls false rfl rfl rfl rfl ?_
      refine lp rfl (p_pkt rfl rfl) ?_
      obtain ⟨y24, hy24, hm⟩ := bindS hm
      refine r_call [] cf13 rfl rfl (ok_gleelaw2_when true 1 hy24) rfl rfl .nil (fun _ => rfl) rfl (fun _ => ?_)
      refine r_bs R33 [y17, y24] rfl rfl rfl (fun _ => by kernel_rfl) rfl (fun s25 => ?_)
      obtain ⟨y26, hy26, hm⟩ := bindS hm
      refine r_call [] cf11 rfl rfl (ok_gleelaw2_errs s25 [y17, y24] hy26) rfl rfl (.cons (.row 0 rfl) .nil) (fun _ => rfl) rfl (fun _ => ?_)
      refine lp rfl (p_as rfl) ?_
      refine lj_nil ?_
      exact cnk23 _ _ y26 () (Option.some.inj hm).symm ⟨rfl, rfl, rfl, rfl, rfl, rfl, rfl, rfl, rfl, rfl, rfl, rfl, rfl, rfl, trivial⟩ (fun _ h => h.picks [2, 2, 2, 6, 6, 7] rfl)
    · have hm := ifB_f hb hm
      refine lg false rfl rfl rfl ?_
      refine lp rfl (p_mv rfl) ?_
      refine lg false rfl rfl rfl ?_
      refine lp rfl (p_gtr rfl rfl) ?_
      refine lp rfl (p_pkf rfl rfl) ?_
      refine lp rfl (p_mv rfl) ?_
      refine lcase (i := 66) (decide (y8.1 > 86400000)) rfl (fun hb => ?_) (fun hb => ?_)
      · have hm := ifB_t hb hm
        refine ls false rfl rfl rfl rfl ?_
        refine ls false rfl rfl rfl rfl ?_
        refine lp rfl (p_pkt rfl rfl) ?_
        refine lp rfl (p_mv rfl) ?_
        refine ls false rfl rfl rfl rfl ?_
        refine ls false rfl rfl rfl rfl ?_
        refine lp rfl (p_pkt rfl rfl) ?_
        obtain ⟨y27, hy27, hm⟩ := bindS hm
        refine r_call [] cf13 rfl rfl (ok_gleelaw2_when true 1 hy27) rfl rfl .nil (fun _ => rfl) rfl (fun _ => ?_)
        refine r_bs R33 [y17, y27] rfl rfl rfl (fun _ => by kernel_rfl) rfl (fun s28 => ?_)
        obtain ⟨y29, hy29, hm⟩ := bindS hm
        refine r_call [] cf11 rfl rfl (ok_gleelaw2_errs s28 [y17, y27] hy29) rfl rfl (.cons (.row 0 rfl) .nil) (fun _ => rfl) rfl (fun _ => ?_)
        refine lp rfl (p_as rfl) ?_
        refine lj_nil ?_
        exact cnk23 _ _ y29 () (Option.some.inj hm).symm ⟨rfl, rfl, rfl, rfl, rfl, rfl, rfl, rfl, rfl, rfl, rfl, rfl, rfl, rfl, trivial⟩ (fun _ h => h.picks [2, 2, 2, 6, 6, 7] rfl)
      · have hm := ifB_f hb hm
        refine lg false rfl rfl rfl ?_
        refine lp rfl (p_mv rfl) ?_
        refine lg false rfl rfl rfl ?_
        refine lp rfl (p_lss rfl rfl) ?_
        refine lp rfl (p_pkf rfl rfl) ?_
        refine lp rfl (p_mv rfl) ?_
        refine lcase (i := 70) (decide (y10.1 < 1)) rfl (fun hb => ?_) (fun hb => ?_)
        · have hm := ifB_t hb hm
          refine ls false rfl rfl rfl rfl ?_
          refine ls false rfl rfl rfl rfl ?_
          refine lp rfl (p_pkt rfl rfl) ?_
          obtain ⟨y30, hy30, hm⟩ := bindS hm
          refine r_call [] cf13 rfl rfl (ok_gleelaw2_when true 1 hy30) rfl rfl .nil (fun _ => rfl) rfl (fun _ => ?_)
          refine r_bs R33 [y17, y30] rfl rfl rfl (fun _ => by kernel_rfl) rfl (fun s31 => ?_)
          obtain ⟨y32, hy32, hm⟩ := bindS hm
          refine r_call [] cf11 rfl rfl (ok_gleelaw2_errs s31 [y17, y30] hy32) rfl rfl (.cons (.row 0 rfl) .nil) (fun _ => rfl) rfl (fun _ => ?_)
          refine lp rfl (p_as rfl) ?_
          refine lj_nil ?_
          exact cnk23 _ _ y32 () (Option.some.inj hm).symm ⟨rfl, rfl, rfl, rfl, rfl, rfl, rfl, rfl, rfl, rfl, rfl, rfl, rfl, rfl, trivial⟩ (fun _ h => h.picks [2, 2, 2, 6, 6, 7] rfl)
        · have hm := ifB_f hb hm
          refine lg false rfl rfl rfl ?_
          refine lp rfl (p_mv rfl) ?_
          refine lg false rfl rfl rfl ?_
          refine lp rfl (p_gtr rfl rfl) ?_
          refine lp rfl (p_pkf rfl rfl) ?_
          obtain ⟨y33, hy33, hm⟩ := bindS hm
          refine r_call [] cf13 rfl rfl (ok_gleelaw2_when (decide (y10.1 > 86400000)) 1 hy33) rfl rfl .nil (fun _ => rfl) rfl (fun _ => ?_)
          refine r_bs R33 [y17, y33] rfl rfl rfl (fun _ => by kernel_rfl) rfl (fun s34 => ?_)
          obtain ⟨y35, hy35, hm⟩ := bindS hm
          refine r_call [] cf11 rfl rfl (ok_gleelaw2_errs s34 [y17, y33] hy35) rfl rfl (.cons (.row 0 rfl) .nil) (fun _ => rfl) rfl (fun _ => ?_)
          refine lp rfl (p_as rfl) ?_
          refine lj_nil ?_
          exact cnk23 _ _ y35 () (Option.some.inj hm).symm ⟨rfl, rfl, rfl, rfl, rfl, rfl, rfl, rfl, rfl, rfl, rfl, rfl, rfl, rfl, trivial⟩ (fun _ h => h.picks [2, 2, 2, 6, 6, 7] rfl)
end Go.Proofs.YtaidgomipefeiaaGreatDoor
