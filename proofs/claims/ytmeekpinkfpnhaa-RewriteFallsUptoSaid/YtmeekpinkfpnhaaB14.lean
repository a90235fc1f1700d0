/- superposeref.StepOf, CheckRules. The law RewriteSteps: its walk. The law RewriteSteps: its walk, whole. What rules, handed in, read as. -/
import Derived.Test.YtmeekpinkfpnhaaB05
import Derived.Test.YtmeekpinkfpnhaaB06
import Derived.Test.YtmeekpinkfpnhaaB13
set_option linter.unusedSimpArgs false
set_option linter.unusedSectionVars false
set_option linter.unusedVariables false
set_option linter.unnecessarySimpa false
set_option linter.all false
namespace Go.Proofs.Ytmeekpinkfpnhaa
open Go.RowKit
theorem ruleR_at {rs : List Rl} {t : Tm} {i : Nat} (hi : i < rs.length) : ruleR (rs.drop i) t = if (grow rs[i].l t []).1 = true then some (rs[i], (grow rs[i].l t []).2) else ruleR (rs.drop (i + 1)) t := by
  rw [List.drop_eq_getElem_cons hi, ruleR]
theorem atA_some {t x : Tm} {p : List Int} (h : atG t p = some x) : atA t p = (x, true) := by unfold atA; rw [h]
set_option maxHeartbeats 4000000 in
set_option maxRecDepth 20000 in
theorem stepOf_tri (rs : List Rl) (hrl : rs.length ≤ 4000000) (hrs : ∀ r ∈ rs, r.l.size ≤ 4000000 ∧ r.r.size ≤ 4000000) (hrg : ∀ r ∈ rs, Good r.r) (t : Tm) (ht : t.size ≤ 4000000) (hg : Good t) :
    Tri Try.prog 42 [.d (rlsDV rs), .d (tmDV t)] (pure' (.tup [.d (tmDV (stepG rs t).1), bA (stepG rs t).2.1, iA (stepG rs t).2.2])) := by
  rw [← step_eq hg hrg]
  have hpl := plP_len t
  refine tri_enter Try.func42 rfl Try.ntmps42 (by simp only [List.length_cons, List.length_nil]; omega) fun w0 h0 k hrd hwr => ?_
  repeat' (first | refine awp_seq_k fun K hK => ?_ | ((first | refine awp_region_k (by kernel_rfl) fun R hR => ?_ | refine awp_draw mixed (by kernel_rfl) (by kernel_rfl) fun R hR => ?_); simp only [go_sem]) | ((first | (refine hR _ ?_; clear hR R) | refine awp_skip ?_ | refine awp_exit ?_ | refine awp_ret ?_); try simp only [thenA, inBlockA, reduceIte, reduceCtorEq, Nat.reduceEqDiff, if_false, if_true]) | ((first | refine hK _ ?_ | (clear hK K; first | refine hK _ ?_ | (clear hK K; first | refine hK _ ?_ | (clear hK K; first | refine hK _ ?_ | (clear hK K; refine hK _ ?_))))); clear hK K) | refine awp_true rfl rfl ?_ | refine awp_false rfl rfl ?_ | refine awp_block ?_ | ((first | refine CallK.pure (enter99) (places_tri t ht) ?_ ?_ | refine CallD.pure (enter99) (places_tri t ht) ?_ ?_); (focus first | ((repeat (first | exact trivial | refine ⟨(by first | exact Or.inl rfl | exact Or.inr rfl), ?_⟩)); done) | (simp only [coL, AV.dat, true_or, or_true, AV.d.injEq, go_sem]; done)); simp only [go_sem]) | refine And.intro (by first | ((repeat' first | omega | exact trivial | rfl | assumption | (intro a e; subst e; rfl) | exact map_sz fun a => (by simp only [go_sem]) | refine And.intro ?_ ?_); done) | fail) ?_ | fail)
  refine awp_loop (fun σ => ∃ i : Nat, σ.t 0 = .d (rlsDV rs) ∧ σ.t 3 = .ptr (k, 0) 0 ∧ σ.t 4 = .ptr (k, 1) 0 ∧ σ.t 7 = .d (.sl ((plP t).map plD)) ∧ σ.t 8 = iA i ∧ σ.h (k, 0) = some (.cells 27 [iA t.v, iA t.f, .d (.sl (t.us.map tmDV))]) ∧ σ.h (k, 1) = some (.cells 27 [iA 0, iA 0, .nil]) ∧
    Fr k h0 σ.h ∧ k < σ.k ∧ i ≤ (plP t).length ∧ stepL rs t ((plP t).drop i) = stepL rs t (plP t)) (fun σ => (plP t).length - (intOf' (σ.t 8)).toNat) ?_ ?_
  · refine ⟨0, ?_⟩
    simp only [go_sem, List.drop_zero]
    and_intros; all_goals try (first | rfl | omega | assumption | ((repeat (first | exact Fr.rfl' _ _ | assumption | refine Fr.updk ?_ (by omega) _)); done))
  · rintro σ ⟨i, s0, s3, s4, s7, s8, sh0, sh1, hF, hk, hi, hv⟩
    have hne := ltne hk
    rcases Nat.lt_or_ge i (plP t).length with hlt | hge
    · have hz : (i : Int) < ((plP t).length : Int) := by omega
      have e1 : ((plP t).map plD).getD i default = plD (plP t)[i] := nth_map plD hlt _
      have hat := plP_at t _ (List.getElem_mem hlt)
      have hdp := plP_deep t _ (List.getElem_mem hlt)
      rw [List.drop_eq_getElem_cons hlt, stepL] at hv
      generalize (plP t)[i] = q at *
      obtain ⟨p, x⟩ := q
      simp only at hat hdp hv
      have hatT := atOf_tri p t (by omega) ht
      rw [atA_some hat] at hatT
      repeat' (first | refine awp_seq_k fun K hK => ?_ | ((first | refine awp_region_k (by kernel_rfl) fun R hR => ?_ | refine awp_draw mixed (by kernel_rfl) (by kernel_rfl) fun R hR => ?_); simp only [go_sem, s0, s3, s4, s7, s8, sh0, sh1, hz, e1, hne, Int.toNat_natCast]) | ((first | (refine hR _ ?_; clear hR R) | refine awp_skip ?_ | refine awp_exit ?_ | refine awp_ret ?_); try simp only [thenA, inBlockA, reduceIte, reduceCtorEq, Nat.reduceEqDiff, if_false, if_true]) | ((first | refine hK _ ?_ | (clear hK K; first | refine hK _ ?_ | (clear hK K; first | refine hK _ ?_ | (clear hK K; first | refine hK _ ?_ | (clear hK K; refine hK _ ?_))))); clear hK K) | refine awp_true rfl rfl ?_ | refine awp_false rfl rfl ?_ | refine awp_block ?_ | ((first | refine CallK.pure (enter59) (hatT) ?_ ?_ | refine CallD.pure (enter59) (hatT) ?_ ?_); (focus first | ((repeat (first | exact trivial | refine ⟨(by first | exact Or.inl rfl | exact Or.inr rfl), ?_⟩)); done) | (simp only [coL, AV.dat, true_or, or_true, AV.d.injEq, go_sem]; done)); simp only [go_sem, s0, s3, s4, s7, s8, sh0, sh1, hz, e1, hne, Int.toNat_natCast]) | refine And.intro (by first | ((repeat' first | omega | exact trivial | rfl | assumption | (intro a e; subst e; rfl) | exact map_sz fun a => (by simp only [go_sem]) | refine And.intro ?_ ?_); done) | fail) ?_ | fail)
      refine awp_loop (fun τ => ∃ j : Nat, τ.t 0 = .d (rlsDV rs) ∧ τ.t 3 = .ptr (k, 0) 0 ∧ τ.t 4 = .ptr (k, 1) 0 ∧ τ.t 7 = .d (.sl ((plP t).map plD)) ∧ τ.t 8 = iA i ∧ τ.t 9 = .ptr (σ.k + 1, 9) 0 ∧ τ.t 11 = iA j ∧ τ.h (k, 0) = some (.cells 27 [iA t.v, iA t.f, .d (.sl (t.us.map tmDV))]) ∧ τ.h (k, 1) = some (.cells 27 [iA 0, iA 0, .nil]) ∧
        τ.h (σ.k + 1, 9) = some (.cells 27 [iA x.v, iA x.f, .d (.sl (x.us.map tmDV))]) ∧ Fr k h0 τ.h ∧ σ.k + 1 < τ.k ∧ j ≤ rs.length ∧ ruleR (rs.drop j) x = ruleR rs x) (fun τ => rs.length - (intOf' (τ.t 11)).toNat) ?_ ?_
      · refine ⟨0, ?_⟩
        simp only [go_sem, List.drop_zero, s0, s3, s4, s7, s8, sh0, sh1, hne]
        and_intros; all_goals try (first | rfl | omega | assumption | ((repeat (first | exact Fr.rfl' _ _ | assumption | refine Fr.updk ?_ (by omega) _)); done))
      · rintro τ ⟨j, u0, u3, u4, u7, u8, u9, u11, uh0, uh1, uh9, uF, uk, uj, uv⟩
        have r0 := ltne (show k < τ.k by omega)
        have r9 := ltne uk
        rcases Nat.lt_or_ge j rs.length with jlt | jge
        · have jz : (j : Int) < (rs.length : Int) := by omega
          have e2 : (rs.map rlDV).getD j default = rlDV rs[j] := nth_map rlDV jlt _
          obtain ⟨z1, z2⟩ := hrs _ (List.getElem_mem jlt)
          rw [ruleR_at jlt] at uv
          generalize rs[j] = r at *
          have hgr : Tri Try.prog 94 [.d (.sl []), .d (tmDV r.l), .d (tmDV x)] (pure' (.tup [.d (bsDV (grow r.l x []).2), bA (grow r.l x []).1])) := grow_tri r.l x [] (by simpa using z1)
          have hgl := grow_len r.l x []
          simp only [List.length_nil, Nat.zero_add] at hgl
          cases hq : (grow r.l x []).1 with
          | false =>
            rw [hq] at hgr
            rw [if_neg (by simp [hq])] at uv
            repeat' (first | refine awp_seq_k fun K hK => ?_ | ((first | refine awp_region_k (by kernel_rfl) fun R hR => ?_ | refine awp_draw mixed (by kernel_rfl) (by kernel_rfl) fun R hR => ?_); simp only [go_sem, u0, u3, u4, u7, u8, u9, u11, uh0, uh1, uh9, jz, e2, r0, r9, Int.toNat_natCast]) | ((first | (refine hR _ ?_; clear hR R) | refine awp_skip ?_ | refine awp_exit ?_ | refine awp_ret ?_); try simp only [thenA, inBlockA, reduceIte, reduceCtorEq, Nat.reduceEqDiff, if_false, if_true]) | ((first | refine hK _ ?_ | (clear hK K; first | refine hK _ ?_ | (clear hK K; first | refine hK _ ?_ | (clear hK K; first | refine hK _ ?_ | (clear hK K; refine hK _ ?_))))); clear hK K) | refine awp_true rfl rfl ?_ | refine awp_false rfl rfl ?_ | refine awp_block ?_ | ((first | refine CallK.pure (enter94) (hgr) ?_ ?_ | refine CallD.pure (enter94) (hgr) ?_ ?_); (focus first | ((repeat (first | exact trivial | refine ⟨(by first | exact Or.inl rfl | exact Or.inr rfl), ?_⟩)); done) | (simp only [coL, AV.dat, true_or, or_true, AV.d.injEq, go_sem]; done)); simp only [go_sem, u0, u3, u4, u7, u8, u9, u11, uh0, uh1, uh9, jz, e2, r0, r9, Int.toNat_natCast]) | refine And.intro (by first | ((repeat' first | omega | exact trivial | rfl | assumption | (intro a e; subst e; rfl) | exact map_sz fun a => (by simp only [go_sem]) | refine And.intro ?_ ?_); done) | fail) ?_ | fail)
            refine ⟨⟨j + 1, ?_⟩, ?_⟩
            rotate_left
            · simp only [go_sem, u0, u3, u4, u7, u8, u9, u11, uh0, uh1, uh9, r0, r9]; omega
            simp only [go_sem, u0, u3, u4, u7, u8, u9, u11, uh0, uh1, uh9, r0, r9]
            and_intros; all_goals try (first | rfl | omega | assumption | ((repeat (first | exact Fr.rfl' _ _ | assumption | refine Fr.updk ?_ (by omega) _)); done))
          | true =>
            rw [hq] at hgr
            rw [if_pos hq] at uv
            rw [← uv] at hv
            simp only at hv
            generalize (grow r.l x []).2 = b at *
            have has := appliedSize_tri b (by omega) r.r z2
            have hap := apply_tri b (by omega) r.r z2
            have hpo := putOf_tri p t (applyR b r.r) x hat (by omega) ht
            have hsz := sizeOf_tri (putG t p (applyR b r.r)) 120 (by omega) (by omega)
            rw [← hv]
            cases c1 : decide (apS b (parts r.r) > 120) with
            | true =>
              rw [if_pos (by simpa using c1)]
              repeat' (first | refine awp_seq_k fun K hK => ?_ | ((first | refine awp_region_k (by kernel_rfl) fun R hR => ?_ | refine awp_draw mixed (by kernel_rfl) (by kernel_rfl) fun R hR => ?_); simp only [go_sem, u0, u3, u4, u7, u8, u9, u11, uh0, uh1, uh9, hz, e1, jz, e2, r0, r9, c1, Int.toNat_natCast]) | ((first | (refine hR _ ?_; clear hR R) | refine awp_skip ?_ | refine awp_exit ?_ | refine awp_ret ?_); try simp only [thenA, inBlockA, reduceIte, reduceCtorEq, Nat.reduceEqDiff, if_false, if_true]) | ((first | refine hK _ ?_ | (clear hK K; first | refine hK _ ?_ | (clear hK K; first | refine hK _ ?_ | (clear hK K; first | refine hK _ ?_ | (clear hK K; refine hK _ ?_))))); clear hK K) | refine awp_true rfl rfl ?_ | refine awp_false rfl rfl ?_ | refine awp_block ?_ | ((first | refine CallK.pure (enter94) (hgr) ?_ ?_ | refine CallD.pure (enter94) (hgr) ?_ ?_ | refine CallK.pure (enter100) (has) ?_ ?_ | refine CallD.pure (enter100) (has) ?_ ?_); (focus first | ((repeat (first | exact trivial | refine ⟨(by first | exact Or.inl rfl | exact Or.inr rfl), ?_⟩)); done) | (simp only [coL, AV.dat, true_or, or_true, AV.d.injEq, go_sem]; done)); simp only [go_sem, u0, u3, u4, u7, u8, u9, u11, uh0, uh1, uh9, hz, e1, jz, e2, r0, r9, c1, Int.toNat_natCast]) | refine And.intro (by first | ((repeat' first | omega | exact trivial | rfl | assumption | (intro a e; subst e; rfl) | exact map_sz fun a => (by simp only [go_sem]) | refine And.intro ?_ ?_); done) | fail) ?_ | fail)
              (first | refine ret_pure ?_ ?_ ?_ | refine ret_ro ?_ ?_ ?_); focus exact (by simp only [Try.results42, resOkL, resOk, Try.ntmps42, List.toList_toArray]; first | decide | (simp only [go_sem, u4, r0]; done) | (simp only [go_sem, u4, r0]; and_intros <;> first | omega | rfl | decide))
              rotate_left; focus exact (by repeat (first | exact Fr.rfl' _ _ | assumption | refine Fr.updk ?_ (by omega) _))
              simp only [resA, resV, Try.results42, go_sem, u4, r0]
              all_goals try (first | exact Co.t2 (.dat rfl) (.dat rfl) | exact Co.t3 (.dat rfl) (.dat rfl) (.dat rfl))
              all_goals exact .t3 (co_tm rfl) (.dat rfl) (.dat rfl)
            | false =>
              rw [if_neg (by simpa using c1)]
              cases c2 : decide (count (putG t p (applyR b r.r)) 120 > 120) with
              | true =>
                rw [if_pos (by simpa using c2)]
                repeat' (first | refine awp_seq_k fun K hK => ?_ | ((first | refine awp_region_k (by kernel_rfl) fun R hR => ?_ | refine awp_draw mixed (by kernel_rfl) (by kernel_rfl) fun R hR => ?_); simp only [go_sem, u0, u3, u4, u7, u8, u9, u11, uh0, uh1, uh9, hz, e1, jz, e2, r0, r9, c1, c2, Int.toNat_natCast]) | ((first | (refine hR _ ?_; clear hR R) | refine awp_skip ?_ | refine awp_exit ?_ | refine awp_ret ?_); try simp only [thenA, inBlockA, reduceIte, reduceCtorEq, Nat.reduceEqDiff, if_false, if_true]) | ((first | refine hK _ ?_ | (clear hK K; first | refine hK _ ?_ | (clear hK K; first | refine hK _ ?_ | (clear hK K; first | refine hK _ ?_ | (clear hK K; refine hK _ ?_))))); clear hK K) | refine awp_true rfl rfl ?_ | refine awp_false rfl rfl ?_ | refine awp_block ?_ | ((first | refine CallK.pure (enter94) (hgr) ?_ ?_ | refine CallD.pure (enter94) (hgr) ?_ ?_ | refine CallK.pure (enter100) (has) ?_ ?_ | refine CallD.pure (enter100) (has) ?_ ?_ | refine CallK.pure (enter101) (hap) ?_ ?_ | refine CallD.pure (enter101) (hap) ?_ ?_ | refine CallK.pure (enter60) (hpo) ?_ ?_ | refine CallD.pure (enter60) (hpo) ?_ ?_ | refine CallK.pure (enter50) (hsz) ?_ ?_ | refine CallD.pure (enter50) (hsz) ?_ ?_); (focus first | ((repeat (first | exact trivial | refine ⟨(by first | exact Or.inl rfl | exact Or.inr rfl), ?_⟩)); done) | (simp only [coL, AV.dat, true_or, or_true, AV.d.injEq, go_sem]; done)); simp only [go_sem, u0, u3, u4, u7, u8, u9, u11, uh0, uh1, uh9, hz, e1, jz, e2, r0, r9, c1, c2, Int.toNat_natCast]) | refine And.intro (by first | ((repeat' first | omega | exact trivial | rfl | assumption | (intro a e; subst e; rfl) | exact map_sz fun a => (by simp only [go_sem]) | refine And.intro ?_ ?_); done) | fail) ?_ | fail)
                (first | refine ret_pure ?_ ?_ ?_ | refine ret_ro ?_ ?_ ?_); focus exact (by simp only [Try.results42, resOkL, resOk, Try.ntmps42, List.toList_toArray]; first | decide | (simp only [go_sem, u4, r0]; done) | (simp only [go_sem, u4, r0]; and_intros <;> first | omega | rfl | decide))
                rotate_left; focus exact (by repeat (first | exact Fr.rfl' _ _ | assumption | refine Fr.updk ?_ (by omega) _))
                simp only [resA, resV, Try.results42, go_sem, u4, r0]
                all_goals try (first | exact Co.t2 (.dat rfl) (.dat rfl) | exact Co.t3 (.dat rfl) (.dat rfl) (.dat rfl))
                all_goals exact .t3 (co_tm rfl) (.dat rfl) (.dat rfl)
              | false =>
                rw [if_neg (by simpa using c2)]
                repeat' (first | refine awp_seq_k fun K hK => ?_ | ((first | refine awp_region_k (by kernel_rfl) fun R hR => ?_ | refine awp_draw mixed (by kernel_rfl) (by kernel_rfl) fun R hR => ?_); simp only [go_sem, u0, u3, u4, u7, u8, u9, u11, uh0, uh1, uh9, hz, e1, jz, e2, r0, r9, c1, c2, Int.toNat_natCast]) | ((first | (refine hR _ ?_; clear hR R) | refine awp_skip ?_ | refine awp_exit ?_ | refine awp_ret ?_); try simp only [thenA, inBlockA, reduceIte, reduceCtorEq, Nat.reduceEqDiff, if_false, if_true]) | ((first | refine hK _ ?_ | (clear hK K; first | refine hK _ ?_ | (clear hK K; first | refine hK _ ?_ | (clear hK K; first | refine hK _ ?_ | (clear hK K; refine hK _ ?_))))); clear hK K) | refine awp_true rfl rfl ?_ | refine awp_false rfl rfl ?_ | refine awp_block ?_ | ((first | refine CallK.pure (enter94) (hgr) ?_ ?_ | refine CallD.pure (enter94) (hgr) ?_ ?_ | refine CallK.pure (enter100) (has) ?_ ?_ | refine CallD.pure (enter100) (has) ?_ ?_ | refine CallK.pure (enter101) (hap) ?_ ?_ | refine CallD.pure (enter101) (hap) ?_ ?_ | refine CallK.pure (enter60) (hpo) ?_ ?_ | refine CallD.pure (enter60) (hpo) ?_ ?_ | refine CallK.pure (enter50) (hsz) ?_ ?_ | refine CallD.pure (enter50) (hsz) ?_ ?_); (focus first | ((repeat (first | exact trivial | refine ⟨(by first | exact Or.inl rfl | exact Or.inr rfl), ?_⟩)); done) | (simp only [coL, AV.dat, true_or, or_true, AV.d.injEq, go_sem]; done)); simp only [go_sem, u0, u3, u4, u7, u8, u9, u11, uh0, uh1, uh9, hz, e1, jz, e2, r0, r9, c1, c2, Int.toNat_natCast]) | refine And.intro (by first | ((repeat' first | omega | exact trivial | rfl | assumption | (intro a e; subst e; rfl) | exact map_sz fun a => (by simp only [go_sem]) | refine And.intro ?_ ?_); done) | fail) ?_ | fail)
                (first | refine ret_pure ?_ ?_ ?_ | refine ret_ro ?_ ?_ ?_); focus exact (by simp only [Try.results42, resOkL, resOk, Try.ntmps42, List.toList_toArray]; first | decide | (simp only [go_sem, u4, r0]; done) | (simp only [go_sem, u4, r0]; and_intros <;> first | omega | rfl | decide))
                rotate_left; focus exact (by repeat (first | exact Fr.rfl' _ _ | assumption | refine Fr.updk ?_ (by omega) _))
                simp only [resA, resV, Try.results42, go_sem, u4, r0]
                all_goals try (first | exact Co.t2 (.dat rfl) (.dat rfl) | exact Co.t3 (.dat rfl) (.dat rfl) (.dat rfl))
                all_goals exact .t3 (co_tm' rfl) (.dat rfl) (.dat rfl)
        · have jz : ¬ ((j : Int) < (rs.length : Int)) := by omega
          rw [List.drop_eq_nil_of_le jge, ruleR] at uv
          rw [← uv] at hv
          simp only at hv
          repeat' (first | refine awp_seq_k fun K hK => ?_ | ((first | refine awp_region_k (by kernel_rfl) fun R hR => ?_ | refine awp_draw mixed (by kernel_rfl) (by kernel_rfl) fun R hR => ?_); simp only [go_sem, u0, u3, u4, u7, u8, u9, u11, uh0, uh1, uh9, jz, r0, r9]) | ((first | (refine hR _ ?_; clear hR R) | refine awp_skip ?_ | refine awp_exit ?_ | refine awp_ret ?_); try simp only [thenA, inBlockA, reduceIte, reduceCtorEq, Nat.reduceEqDiff, if_false, if_true]) | ((first | refine hK _ ?_ | (clear hK K; first | refine hK _ ?_ | (clear hK K; first | refine hK _ ?_ | (clear hK K; first | refine hK _ ?_ | (clear hK K; refine hK _ ?_))))); clear hK K) | refine awp_true rfl rfl ?_ | refine awp_false rfl rfl ?_ | refine awp_block ?_ | refine And.intro (by first | ((repeat' first | omega | exact trivial | rfl | assumption | (intro a e; subst e; rfl) | exact map_sz fun a => (by simp only [go_sem]) | refine And.intro ?_ ?_); done) | fail) ?_ | fail)
          refine ⟨⟨i + 1, ?_⟩, ?_⟩
          rotate_left
          · simp only [go_sem, u0, u3, u4, u7, u8, uh0, uh1, r0, s8]; omega
          simp only [go_sem, u0, u3, u4, u7, u8, uh0, uh1, r0, s8]
          and_intros; all_goals try (first | rfl | omega | assumption | ((repeat (first | exact Fr.rfl' _ _ | assumption | refine Fr.updk ?_ (by omega) _)); done))
    · have hz : ¬ ((i : Int) < ((plP t).length : Int)) := by omega
      rw [List.drop_eq_nil_of_le hge, stepL] at hv
      repeat' (first | refine awp_seq_k fun K hK => ?_ | ((first | refine awp_region_k (by kernel_rfl) fun R hR => ?_ | refine awp_draw mixed (by kernel_rfl) (by kernel_rfl) fun R hR => ?_); simp only [go_sem, s0, s3, s4, s7, s8, sh0, sh1, hz, hne]) | ((first | (refine hR _ ?_; clear hR R) | refine awp_skip ?_ | refine awp_exit ?_ | refine awp_ret ?_); try simp only [thenA, inBlockA, reduceIte, reduceCtorEq, Nat.reduceEqDiff, if_false, if_true]) | ((first | refine hK _ ?_ | (clear hK K; first | refine hK _ ?_ | (clear hK K; first | refine hK _ ?_ | (clear hK K; first | refine hK _ ?_ | (clear hK K; refine hK _ ?_))))); clear hK K) | refine awp_true rfl rfl ?_ | refine awp_false rfl rfl ?_ | refine awp_block ?_ | refine And.intro (by first | ((repeat' first | omega | exact trivial | rfl | assumption | (intro a e; subst e; rfl) | exact map_sz fun a => (by simp only [go_sem]) | refine And.intro ?_ ?_); done) | fail) ?_ | fail)
      rw [← hv]
      (first | refine ret_pure ?_ ?_ ?_ | refine ret_ro ?_ ?_ ?_); focus exact (by simp only [Try.results42, resOkL, resOk, Try.ntmps42, List.toList_toArray]; first | decide | (simp only [go_sem, s4, hne]; done) | (simp only [go_sem, s4, hne]; and_intros <;> first | omega | rfl | decide))
      rotate_left; focus exact (by repeat (first | exact Fr.rfl' _ _ | assumption | refine Fr.updk ?_ (by omega) _))
      simp only [resA, resV, Try.results42, go_sem, s4, hne]
      all_goals try (first | exact Co.t2 (.dat rfl) (.dat rfl) | exact Co.t3 (.dat rfl) (.dat rfl) (.dat rfl))
      all_goals exact .t3 (co_tm' rfl) (.dat rfl) (.dat rfl)
set_option maxHeartbeats 2000000 in
set_option maxRecDepth 20000 in
theorem checkRules_loop {w0 : World} {g : List Int} {rs : List Rl} (hl : rs.length ≤ 4000000) (hrs : ∀ r ∈ rs, r.l.size ≤ 4000000 ∧ r.r.size ≤ 4000000) {v : Int} {h0 : Heap} {k : Nat} {fn : Func} (hfn : fn = Try.f41) (σ : St) (e : Int) (s2 : σ.t 2 = .ptr (k, 0) 0) (s1 : σ.t 1 = .d (rlsDV rs)) (s5 : σ.t 5 = iA e)
    (sh : σ.h (k, 0) = some (.cells 24 [.d (.sl (g.map iD))])) (hF : Fr k h0 σ.h) (hk : k < σ.k) (he : v = if e ≠ 0 then e else rlL g rs) {N : Nat} {c : Code} (hN : (Try.f41).ntmps = N) (hc : bodyAt (Try.f41) [true,true,true] = some c) : awp Try.prog w0 N c (retQ Try.prog fn (pure' (iA v)) h0 k) σ := by
  subst hfn
  obtain rfl := (Try.ntmps41).symm.trans hN; obtain rfl := Option.some.inj (show some _ = some c from hc); clear hN hc
  repeat' (first | refine awp_seq_k fun K hK => ?_ | ((first | refine awp_region_k (by kernel_rfl) fun R hR => ?_ | refine awp_draw mixed (by kernel_rfl) (by kernel_rfl) fun R hR => ?_); simp only [go_sem, s2, s1, s5, sh]) | ((first | (refine hR _ ?_; clear hR R) | refine awp_skip ?_ | refine awp_exit ?_ | refine awp_ret ?_); try simp only [thenA, inBlockA, reduceIte, reduceCtorEq, Nat.reduceEqDiff, if_false, if_true]) | ((first | refine hK _ ?_ | (clear hK K; first | refine hK _ ?_ | (clear hK K; first | refine hK _ ?_ | (clear hK K; first | refine hK _ ?_ | (clear hK K; refine hK _ ?_))))); clear hK K) | refine awp_true rfl rfl ?_ | refine awp_false rfl rfl ?_ | refine awp_block ?_ | refine And.intro (by first | ((repeat' first | omega | exact trivial | rfl | assumption | (intro a e; subst e; rfl) | exact map_sz fun a => (by simp only [go_sem]) | refine And.intro ?_ ?_); done) | fail) ?_ | fail)
  refine awp_loop (fun σ => ∃ (i : Nat) (e : Int), σ.t 2 = .ptr (k, 0) 0 ∧ σ.t 1 = .d (rlsDV rs) ∧ σ.t 5 = iA e ∧ σ.t 6 = iA i ∧ σ.h (k, 0) = some (.cells 24 [.d (.sl (g.map iD))]) ∧ Fr k h0 σ.h ∧ k < σ.k ∧ i ≤ rs.length ∧ (v = if e ≠ 0 then e else rlL g (rs.drop i))) (fun σ => rs.length - (intOf' (σ.t 6)).toNat) ?_ ?_
  · refine ⟨0, e, ?_⟩
    simp only [go_sem, s2, s1, s5, sh, List.drop_zero]
    and_intros; all_goals try (first | rfl | omega | assumption | ((repeat (first | exact Fr.rfl' _ _ | assumption | refine Fr.updk ?_ (by omega) _)); done))
  · clear s2 s1 s5 sh hF hk he
    rintro σ ⟨i, e, s2, s1, s5, s6, sh, hF, hk, hi, hv⟩
    have hne := ltne hk
    rcases Nat.lt_or_ge i rs.length with hlt | hge
    · have hz : (i : Int) < (rs.length : Int) := by omega
      have e1 : (rs.map rlDV).getD i default = rlDV rs[i] := nth_map rlDV hlt _
      cases ha : e == 0 with
      | true =>
        have ha' : e = 0 := by simpa using ha
        subst ha'
        obtain ⟨z1, z2⟩ := hrs _ (List.getElem_mem hlt)
        rw [if_neg (by simp), rlL_at hlt] at hv
        generalize rs[i] = r at *
        cases c1 : own g r.l == 0 with
        | false =>
          rw [if_pos (by simpa using c1)] at hv
          repeat' (first | refine awp_seq_k fun K hK => ?_ | ((first | refine awp_region_k (by kernel_rfl) fun R hR => ?_ | refine awp_draw mixed (by kernel_rfl) (by kernel_rfl) fun R hR => ?_); simp only [go_sem, s2, s1, s5, s6, sh, hz, e1, hne, c1, beq_self_eq_true, Int.toNat_natCast]) | ((first | (refine hR _ ?_; clear hR R) | refine awp_skip ?_ | refine awp_exit ?_ | refine awp_ret ?_); try simp only [thenA, inBlockA, reduceIte, reduceCtorEq, Nat.reduceEqDiff, if_false, if_true]) | ((first | refine hK _ ?_ | (clear hK K; first | refine hK _ ?_ | (clear hK K; first | refine hK _ ?_ | (clear hK K; first | refine hK _ ?_ | (clear hK K; refine hK _ ?_))))); clear hK K) | refine awp_true rfl rfl ?_ | refine awp_false rfl rfl ?_ | refine awp_block ?_ | ((first | refine CallK.pure (enter21) (checkTerm_tri g r.l) ?_ ?_ | refine CallD.pure (enter21) (checkTerm_tri g r.l) ?_ ?_); (focus first | ((repeat (first | exact trivial | refine ⟨(by first | exact Or.inl rfl | exact Or.inr rfl), ?_⟩)); done) | (simp only [coL, AV.dat, true_or, or_true, AV.d.injEq, go_sem]; done)); simp only [go_sem, s2, s1, s5, s6, sh, hz, e1, hne, c1, beq_self_eq_true, Int.toNat_natCast]) | refine And.intro (by first | ((repeat' first | omega | exact trivial | rfl | assumption | (intro a e; subst e; rfl) | exact map_sz fun a => (by simp only [go_sem]) | refine And.intro ?_ ?_); done) | fail) ?_ | fail)
          refine ⟨⟨i + 1, own g r.l, ?_⟩, ?_⟩
          rotate_left
          · simp only [go_sem, s2, s1, s5, s6, sh, hne]; omega
          simp only [go_sem, s2, s1, s5, s6, sh, hne]
          and_intros; all_goals try (first | rfl | omega | assumption | ((repeat (first | exact Fr.rfl' _ _ | assumption | refine Fr.updk ?_ (by omega) _)); done))
          all_goals (rw [if_pos (by simpa using c1)]; exact hv)
        | true =>
          have c1' : own g r.l = 0 := by simpa using c1
          rw [if_neg (by simp [c1'])] at hv
          cases c2 : own g r.r == 0 with
          | false =>
            rw [if_pos (by simpa using c2)] at hv
            repeat' (first | refine awp_seq_k fun K hK => ?_ | ((first | refine awp_region_k (by kernel_rfl) fun R hR => ?_ | refine awp_draw mixed (by kernel_rfl) (by kernel_rfl) fun R hR => ?_); simp only [go_sem, s2, s1, s5, s6, sh, hz, e1, hne, c1', c2, beq_self_eq_true, Int.toNat_natCast]) | ((first | (refine hR _ ?_; clear hR R) | refine awp_skip ?_ | refine awp_exit ?_ | refine awp_ret ?_); try simp only [thenA, inBlockA, reduceIte, reduceCtorEq, Nat.reduceEqDiff, if_false, if_true]) | ((first | refine hK _ ?_ | (clear hK K; first | refine hK _ ?_ | (clear hK K; first | refine hK _ ?_ | (clear hK K; first | refine hK _ ?_ | (clear hK K; refine hK _ ?_))))); clear hK K) | refine awp_true rfl rfl ?_ | refine awp_false rfl rfl ?_ | refine awp_block ?_ | ((first | refine CallK.pure (enter21) (checkTerm_tri g r.l) ?_ ?_ | refine CallD.pure (enter21) (checkTerm_tri g r.l) ?_ ?_); (focus first | ((repeat (first | exact trivial | refine ⟨(by first | exact Or.inl rfl | exact Or.inr rfl), ?_⟩)); done) | (simp only [coL, AV.dat, true_or, or_true, AV.d.injEq, go_sem]; done)); simp only [go_sem, s2, s1, s5, s6, sh, hz, e1, hne, c1', c2, beq_self_eq_true, Int.toNat_natCast]) | ((first | refine CallK.pure (enter21) (checkTerm_tri g r.r) ?_ ?_ | refine CallD.pure (enter21) (checkTerm_tri g r.r) ?_ ?_); (focus first | ((repeat (first | exact trivial | refine ⟨(by first | exact Or.inl rfl | exact Or.inr rfl), ?_⟩)); done) | (simp only [coL, AV.dat, true_or, or_true, AV.d.injEq, go_sem]; done)); simp only [go_sem, s2, s1, s5, s6, sh, hz, e1, hne, c1', c2, beq_self_eq_true, Int.toNat_natCast]) | refine And.intro (by first | ((repeat' first | omega | exact trivial | rfl | assumption | (intro a e; subst e; rfl) | exact map_sz fun a => (by simp only [go_sem]) | refine And.intro ?_ ?_); done) | fail) ?_ | fail)
            refine ⟨⟨i + 1, own g r.r, ?_⟩, ?_⟩
            rotate_left
            · simp only [go_sem, s2, s1, s5, s6, sh, hne]; omega
            simp only [go_sem, s2, s1, s5, s6, sh, hne]
            and_intros; all_goals try (first | rfl | omega | assumption | ((repeat (first | exact Fr.rfl' _ _ | assumption | refine Fr.updk ?_ (by omega) _)); done))
            all_goals (rw [if_pos (by simpa using c2)]; exact hv)
          | true =>
            have c2' : own g r.r = 0 := by simpa using c2
            rw [if_neg (by simp [c2'])] at hv
            have ps := own_parts c1'
            have pt := own_parts c2'
            have hgo := greaterOf_tri r.l r.r (by unfold Tm.fits; omega) (by unfold Tm.fits; omega) (by omega) (by omega) (own_arit c1' c2') (fun u hu => own_v c1' hu) (fun u hu => own_v c2' hu)
            unfold GreSpec at hgo
            cases hgt : gt r.l r.r with
            | true =>
              rw [hgt] at hgo
              rw [hgt, if_neg (by simp)] at hv
              repeat' (first | refine awp_seq_k fun K hK => ?_ | ((first | refine awp_region_k (by kernel_rfl) fun R hR => ?_ | refine awp_draw mixed (by kernel_rfl) (by kernel_rfl) fun R hR => ?_); simp only [go_sem, s2, s1, s5, s6, sh, hz, e1, hne, c1', c2', beq_self_eq_true, Int.toNat_natCast]) | ((first | (refine hR _ ?_; clear hR R) | refine awp_skip ?_ | refine awp_exit ?_ | refine awp_ret ?_); try simp only [thenA, inBlockA, reduceIte, reduceCtorEq, Nat.reduceEqDiff, if_false, if_true]) | ((first | refine hK _ ?_ | (clear hK K; first | refine hK _ ?_ | (clear hK K; first | refine hK _ ?_ | (clear hK K; first | refine hK _ ?_ | (clear hK K; refine hK _ ?_))))); clear hK K) | refine awp_true rfl rfl ?_ | refine awp_false rfl rfl ?_ | refine awp_block ?_ | ((first | refine CallK.pure (enter21) (checkTerm_tri g r.l) ?_ ?_ | refine CallD.pure (enter21) (checkTerm_tri g r.l) ?_ ?_); (focus first | ((repeat (first | exact trivial | refine ⟨(by first | exact Or.inl rfl | exact Or.inr rfl), ?_⟩)); done) | (simp only [coL, AV.dat, true_or, or_true, AV.d.injEq, go_sem]; done)); simp only [go_sem, s2, s1, s5, s6, sh, hz, e1, hne, c1', c2', beq_self_eq_true, Int.toNat_natCast]) | ((first | refine CallK.pure (enter21) (checkTerm_tri g r.r) ?_ ?_ | refine CallD.pure (enter21) (checkTerm_tri g r.r) ?_ ?_); (focus first | ((repeat (first | exact trivial | refine ⟨(by first | exact Or.inl rfl | exact Or.inr rfl), ?_⟩)); done) | (simp only [coL, AV.dat, true_or, or_true, AV.d.injEq, go_sem]; done)); simp only [go_sem, s2, s1, s5, s6, sh, hz, e1, hne, c1', c2', beq_self_eq_true, Int.toNat_natCast]) | ((first | refine CallK.pure (enter16) (hgo) ?_ ?_ | refine CallD.pure (enter16) (hgo) ?_ ?_); (focus first | ((repeat (first | exact trivial | refine ⟨(by first | exact Or.inl rfl | exact Or.inr rfl), ?_⟩)); done) | (simp only [coL, AV.dat, true_or, or_true, AV.d.injEq, go_sem]; done)); simp only [go_sem, s2, s1, s5, s6, sh, hz, e1, hne, c1', c2', beq_self_eq_true, Int.toNat_natCast]) | refine And.intro (by first | ((repeat' first | omega | exact trivial | rfl | assumption | (intro a e; subst e; rfl) | exact map_sz fun a => (by simp only [go_sem]) | refine And.intro ?_ ?_); done) | fail) ?_ | fail)
              refine ⟨⟨i + 1, (0 : Int), ?_⟩, ?_⟩
              rotate_left
              · simp only [go_sem, s2, s1, s5, s6, sh, hne]; omega
              simp only [go_sem, s2, s1, s5, s6, sh, hne]
              and_intros; all_goals try (first | rfl | omega | assumption | ((repeat (first | exact Fr.rfl' _ _ | assumption | refine Fr.updk ?_ (by omega) _)); done))
            | false =>
              rw [hgt] at hgo
              rw [hgt, if_pos rfl] at hv
              repeat' (first | refine awp_seq_k fun K hK => ?_ | ((first | refine awp_region_k (by kernel_rfl) fun R hR => ?_ | refine awp_draw mixed (by kernel_rfl) (by kernel_rfl) fun R hR => ?_); simp only [go_sem, s2, s1, s5, s6, sh, hz, e1, hne, c1', c2', beq_self_eq_true, Int.toNat_natCast]) | ((first | (refine hR _ ?_; clear hR R) | refine awp_skip ?_ | refine awp_exit ?_ | refine awp_ret ?_); try simp only [thenA, inBlockA, reduceIte, reduceCtorEq, Nat.reduceEqDiff, if_false, if_true]) | ((first | refine hK _ ?_ | (clear hK K; first | refine hK _ ?_ | (clear hK K; first | refine hK _ ?_ | (clear hK K; first | refine hK _ ?_ | (clear hK K; refine hK _ ?_))))); clear hK K) | refine awp_true rfl rfl ?_ | refine awp_false rfl rfl ?_ | refine awp_block ?_ | ((first | refine CallK.pure (enter21) (checkTerm_tri g r.l) ?_ ?_ | refine CallD.pure (enter21) (checkTerm_tri g r.l) ?_ ?_); (focus first | ((repeat (first | exact trivial | refine ⟨(by first | exact Or.inl rfl | exact Or.inr rfl), ?_⟩)); done) | (simp only [coL, AV.dat, true_or, or_true, AV.d.injEq, go_sem]; done)); simp only [go_sem, s2, s1, s5, s6, sh, hz, e1, hne, c1', c2', beq_self_eq_true, Int.toNat_natCast]) | ((first | refine CallK.pure (enter21) (checkTerm_tri g r.r) ?_ ?_ | refine CallD.pure (enter21) (checkTerm_tri g r.r) ?_ ?_); (focus first | ((repeat (first | exact trivial | refine ⟨(by first | exact Or.inl rfl | exact Or.inr rfl), ?_⟩)); done) | (simp only [coL, AV.dat, true_or, or_true, AV.d.injEq, go_sem]; done)); simp only [go_sem, s2, s1, s5, s6, sh, hz, e1, hne, c1', c2', beq_self_eq_true, Int.toNat_natCast]) | ((first | refine CallK.pure (enter16) (hgo) ?_ ?_ | refine CallD.pure (enter16) (hgo) ?_ ?_); (focus first | ((repeat (first | exact trivial | refine ⟨(by first | exact Or.inl rfl | exact Or.inr rfl), ?_⟩)); done) | (simp only [coL, AV.dat, true_or, or_true, AV.d.injEq, go_sem]; done)); simp only [go_sem, s2, s1, s5, s6, sh, hz, e1, hne, c1', c2', beq_self_eq_true, Int.toNat_natCast]) | refine And.intro (by first | ((repeat' first | omega | exact trivial | rfl | assumption | (intro a e; subst e; rfl) | exact map_sz fun a => (by simp only [go_sem]) | refine And.intro ?_ ?_); done) | fail) ?_ | fail)
              refine ⟨⟨i + 1, (4 : Int), ?_⟩, ?_⟩
              rotate_left
              · simp only [go_sem, s2, s1, s5, s6, sh, hne]; omega
              simp only [go_sem, s2, s1, s5, s6, sh, hne]
              and_intros; all_goals try (first | rfl | omega | assumption | ((repeat (first | exact Fr.rfl' _ _ | assumption | refine Fr.updk ?_ (by omega) _)); done))
      | false =>
        have ha' : e ≠ 0 := by simpa using ha
        rw [if_pos ha'] at hv
        repeat' (first | refine awp_seq_k fun K hK => ?_ | ((first | refine awp_region_k (by kernel_rfl) fun R hR => ?_ | refine awp_draw mixed (by kernel_rfl) (by kernel_rfl) fun R hR => ?_); simp only [go_sem, s2, s1, s5, s6, sh, hz, e1, hne, ha, Int.toNat_natCast]) | ((first | (refine hR _ ?_; clear hR R) | refine awp_skip ?_ | refine awp_exit ?_ | refine awp_ret ?_); try simp only [thenA, inBlockA, reduceIte, reduceCtorEq, Nat.reduceEqDiff, if_false, if_true]) | ((first | refine hK _ ?_ | (clear hK K; first | refine hK _ ?_ | (clear hK K; first | refine hK _ ?_ | (clear hK K; first | refine hK _ ?_ | (clear hK K; refine hK _ ?_))))); clear hK K) | refine awp_true rfl rfl ?_ | refine awp_false rfl rfl ?_ | refine awp_block ?_ | refine And.intro (by first | ((repeat' first | omega | exact trivial | rfl | assumption | (intro a e; subst e; rfl) | exact map_sz fun a => (by simp only [go_sem]) | refine And.intro ?_ ?_); done) | fail) ?_ | fail)
        (first | refine ret_pure ?_ ?_ ?_ | refine ret_ro ?_ ?_ ?_); focus exact (by simp only [Try.results41, resOkL, resOk, Try.ntmps41, List.toList_toArray]; first | decide | (simp only [go_sem]; done) | (simp only [go_sem]; and_intros <;> first | omega | rfl | decide))
        rotate_left; focus exact (by repeat (first | exact Fr.rfl' _ _ | assumption | refine Fr.updk ?_ (by omega) _))
        simp only [resA, resV, Try.results41, go_sem]
        all_goals try (first | exact Co.t2 (.dat rfl) (.dat rfl) | exact Co.t3 (.dat rfl) (.dat rfl) (.dat rfl))
        exact co_i hv.symm
    · have hz : ¬ ((i : Int) < (rs.length : Int)) := by omega
      rw [List.drop_eq_nil_of_le hge, rlL] at hv
      have hv' : v = e := by
        by_cases h : e = 0
        · rw [hv, if_neg (by simp [h]), h]
        · rw [hv, if_pos h]
      repeat' (first | refine awp_seq_k fun K hK => ?_ | ((first | refine awp_region_k (by kernel_rfl) fun R hR => ?_ | refine awp_draw mixed (by kernel_rfl) (by kernel_rfl) fun R hR => ?_); simp only [go_sem, s2, s1, s5, s6, sh, hz]) | ((first | (refine hR _ ?_; clear hR R) | refine awp_skip ?_ | refine awp_exit ?_ | refine awp_ret ?_); try simp only [thenA, inBlockA, reduceIte, reduceCtorEq, Nat.reduceEqDiff, if_false, if_true]) | ((first | refine hK _ ?_ | (clear hK K; first | refine hK _ ?_ | (clear hK K; first | refine hK _ ?_ | (clear hK K; first | refine hK _ ?_ | (clear hK K; refine hK _ ?_))))); clear hK K) | refine awp_true rfl rfl ?_ | refine awp_false rfl rfl ?_ | refine awp_block ?_ | refine And.intro (by first | ((repeat' first | omega | exact trivial | rfl | assumption | (intro a e; subst e; rfl) | exact map_sz fun a => (by simp only [go_sem]) | refine And.intro ?_ ?_); done) | fail) ?_ | fail)
      (first | refine ret_pure ?_ ?_ ?_ | refine ret_ro ?_ ?_ ?_); focus exact (by simp only [Try.results41, resOkL, resOk, Try.ntmps41, List.toList_toArray]; first | decide | (simp only [go_sem]; done) | (simp only [go_sem]; and_intros <;> first | omega | rfl | decide))
      rotate_left; focus exact (by repeat (first | exact Fr.rfl' _ _ | assumption | refine Fr.updk ?_ (by omega) _))
      simp only [resA, resV, Try.results41, go_sem]
      all_goals try (first | exact Co.t2 (.dat rfl) (.dat rfl) | exact Co.t3 (.dat rfl) (.dat rfl) (.dat rfl))
      exact co_i hv'.symm
set_option maxHeartbeats 1000000 in
set_option maxRecDepth 20000 in
theorem checkRules_tri (g : List Int) (rs : List Rl) (hl : rs.length ≤ 4000000) (hrs : ∀ r ∈ rs, r.l.size ≤ 4000000 ∧ r.r.size ≤ 4000000) : Tri Try.prog 41 [.d (sgDV g), .d (rlsDV rs)] (pure' (iA (rlOk g rs))) := by
  refine tri_enter Try.func41 rfl Try.ntmps41 (by simp only [List.length_cons, List.length_nil]; omega) fun w0 h0 k hrd hwr => ?_
  have hfin : ∀ e0 : Int, e0 = (if sigOk g ≠ 0 then sigOk g else if rs.length > 20 then 2 else 0) → rlOk g rs = if e0 ≠ 0 then e0 else rlL g rs := by
    intro e0 h; rw [h]; unfold rlOk
    by_cases h1 : sigOk g = 0
    · by_cases h2 : rs.length > 20
      · simp [h1, h2]
      · simp [h1, h2]
    · simp [h1]
  cases hs : sigOk g == 0 with
  | false =>
    have hs2 : sigOk g ≠ 0 := by simpa using hs
    repeat' (first | refine checkRules_loop hl hrs rfl _ (sigOk g) ?_ ?_ ?_ ?_ (by repeat (first | exact Fr.rfl' _ _ | assumption | refine Fr.updk ?_ (by omega) _)) ?_ (hfin _ ?_) rfl rfl | refine awp_seq_k fun K hK => ?_ | ((first | refine awp_region_k (by kernel_rfl) fun R hR => ?_ | refine awp_draw mixed (by kernel_rfl) (by kernel_rfl) fun R hR => ?_); simp only [go_sem, hs]) | ((first | (refine hR _ ?_; clear hR R) | refine awp_skip ?_ | refine awp_exit ?_ | refine awp_ret ?_); try simp only [thenA, inBlockA, reduceIte, reduceCtorEq, Nat.reduceEqDiff, if_false, if_true]) | ((first | refine hK _ ?_ | (clear hK K; first | refine hK _ ?_ | (clear hK K; first | refine hK _ ?_ | (clear hK K; first | refine hK _ ?_ | (clear hK K; refine hK _ ?_))))); clear hK K) | refine awp_true rfl rfl ?_ | refine awp_false rfl rfl ?_ | refine awp_block ?_ | ((first | refine CallK.pure (enter54) (checkSig_tri g) ?_ ?_ | refine CallD.pure (enter54) (checkSig_tri g) ?_ ?_); (focus first | ((repeat (first | exact trivial | refine ⟨(by first | exact Or.inl rfl | exact Or.inr rfl), ?_⟩)); done) | (simp only [coL, AV.dat, true_or, or_true, AV.d.injEq, go_sem]; done)); simp only [go_sem, hs]) | refine And.intro (by first | ((repeat' first | omega | exact trivial | rfl | assumption | (intro a e; subst e; rfl) | exact map_sz fun a => (by simp only [go_sem]) | refine And.intro ?_ ?_); done) | fail) ?_ | fail)
    all_goals try simp only [go_sem]
    all_goals try omega
  | true =>
    have hs2 : sigOk g = 0 := by simpa using hs
    cases h8 : decide ((rs.length : Int) > 20) with
    | true =>
      have h8' : rs.length > 20 := by simp at h8; omega
      repeat' (first | refine checkRules_loop hl hrs rfl _ 2 ?_ ?_ ?_ ?_ (by repeat (first | exact Fr.rfl' _ _ | assumption | refine Fr.updk ?_ (by omega) _)) ?_ (hfin _ ?_) rfl rfl | refine awp_seq_k fun K hK => ?_ | ((first | refine awp_region_k (by kernel_rfl) fun R hR => ?_ | refine awp_draw mixed (by kernel_rfl) (by kernel_rfl) fun R hR => ?_); simp only [go_sem, hs2, h8, beq_self_eq_true]) | ((first | (refine hR _ ?_; clear hR R) | refine awp_skip ?_ | refine awp_exit ?_ | refine awp_ret ?_); try simp only [thenA, inBlockA, reduceIte, reduceCtorEq, Nat.reduceEqDiff, if_false, if_true]) | ((first | refine hK _ ?_ | (clear hK K; first | refine hK _ ?_ | (clear hK K; first | refine hK _ ?_ | (clear hK K; first | refine hK _ ?_ | (clear hK K; refine hK _ ?_))))); clear hK K) | refine awp_true rfl rfl ?_ | refine awp_false rfl rfl ?_ | refine awp_block ?_ | ((first | refine CallK.pure (enter54) (checkSig_tri g) ?_ ?_ | refine CallD.pure (enter54) (checkSig_tri g) ?_ ?_); (focus first | ((repeat (first | exact trivial | refine ⟨(by first | exact Or.inl rfl | exact Or.inr rfl), ?_⟩)); done) | (simp only [coL, AV.dat, true_or, or_true, AV.d.injEq, go_sem]; done)); simp only [go_sem, hs2, h8, beq_self_eq_true]) | refine And.intro (by first | ((repeat' first | omega | exact trivial | rfl | assumption | (intro a e; subst e; rfl) | exact map_sz fun a => (by simp only [go_sem]) | refine And.intro ?_ ?_); done) | fail) ?_ | fail)
      all_goals try simp only [go_sem]
      all_goals try omega
    | false =>
      have h8' : ¬ rs.length > 20 := by simp at h8; omega
      repeat' (first | refine checkRules_loop hl hrs rfl _ 0 ?_ ?_ ?_ ?_ (by repeat (first | exact Fr.rfl' _ _ | assumption | refine Fr.updk ?_ (by omega) _)) ?_ (hfin _ ?_) rfl rfl | refine awp_seq_k fun K hK => ?_ | ((first | refine awp_region_k (by kernel_rfl) fun R hR => ?_ | refine awp_draw mixed (by kernel_rfl) (by kernel_rfl) fun R hR => ?_); simp only [go_sem, hs2, h8, beq_self_eq_true]) | ((first | (refine hR _ ?_; clear hR R) | refine awp_skip ?_ | refine awp_exit ?_ | refine awp_ret ?_); try simp only [thenA, inBlockA, reduceIte, reduceCtorEq, Nat.reduceEqDiff, if_false, if_true]) | ((first | refine hK _ ?_ | (clear hK K; first | refine hK _ ?_ | (clear hK K; first | refine hK _ ?_ | (clear hK K; first | refine hK _ ?_ | (clear hK K; refine hK _ ?_))))); clear hK K) | refine awp_true rfl rfl ?_ | refine awp_false rfl rfl ?_ | refine awp_block ?_ | ((first | refine CallK.pure (enter54) (checkSig_tri g) ?_ ?_ | refine CallD.pure (enter54) (checkSig_tri g) ?_ ?_); (focus first | ((repeat (first | exact trivial | refine ⟨(by first | exact Or.inl rfl | exact Or.inr rfl), ?_⟩)); done) | (simp only [coL, AV.dat, true_or, or_true, AV.d.injEq, go_sem]; done)); simp only [go_sem, hs2, h8, beq_self_eq_true]) | refine And.intro (by first | ((repeat' first | omega | exact trivial | rfl | assumption | (intro a e; subst e; rfl) | exact map_sz fun a => (by simp only [go_sem]) | refine And.intro ?_ ?_); done) | fail) ?_ | fail)
      all_goals try simp only [go_sem]
      all_goals try omega
end Go.Proofs.Ytmeekpinkfpnhaa
namespace Go.Proofs.Ytmeekpinkfpnhaa
open Go.RowKit
theorem nat_ne8 (n : Nat) : ((n = n + 1 + 1 + 1 + 1 + 1 + 1 + 1 + 1) = False) ∧ ((n = n + 1 + 1 + 1 + 1 + 1 + 1 + 1 + 1 + 1) = False) ∧ ((n = n + 1 + 1 + 1 + 1 + 1 + 1 + 1 + 1 + 1 + 1) = False) ∧ ((n = n + 1 + 1 + 1 + 1 + 1 + 1 + 1 + 1 + 1 + 1 + 1) = False) ∧ ((n = n + 1 + 1 + 1 + 1 + 1 + 1 + 1 + 1 + 1 + 1 + 1 + 1) = False) ∧
    ((n + 1 + 1 + 1 + 1 + 1 + 1 + 1 + 1 = n) = False) ∧ ((n + 1 + 1 + 1 + 1 + 1 + 1 + 1 + 1 + 1 = n) = False) ∧ ((n + 1 + 1 + 1 + 1 + 1 + 1 + 1 + 1 + 1 + 1 = n) = False) ∧ ((n + 1 + 1 + 1 + 1 + 1 + 1 + 1 + 1 + 1 + 1 + 1 = n) = False) ∧ ((n + 1 + 1 + 1 + 1 + 1 + 1 + 1 + 1 + 1 + 1 + 1 + 1 = n) = False) := by
  and_intros <;> (apply eq_false; omega)
theorem tm0_DV : tmDV tm0 = .st [iD 0, iD 0, .sl []] := by rw [tmDV_eq]; rfl
set_option maxRecDepth 20000 in
theorem termIs_tri (t : Tm) (e w : Int) (want : Tm) : Tri Try.prog 46 [.d (tmDV t), iA e, iA w, .d (tmDV want)] (pure' (bA (e == w && same t (if w ≠ 0 then tm0 else want)))) := by
  have hs0 := sameR_tri t tm0
  rw [tm0_DV] at hs0
  refine tri_enter Try.func46 rfl Try.ntmps46 (by simp only [List.length_cons, List.length_nil]; omega) fun w0 h0 k hrd hwr => ?_
  cases hw : (w != 0) with
  | true =>
    rw [if_pos (by simpa using hw)]
    cases he : (e == w) with
    | true =>
      repeat' (first | refine awp_seq_k fun K hK => ?_ | ((first | refine awp_region_k (by kernel_rfl) fun R hR => ?_ | refine awp_draw mixed (by kernel_rfl) (by kernel_rfl) fun R hR => ?_); simp only [go_sem, hw, he]) | ((first | (refine hR _ ?_; clear hR R) | refine awp_skip ?_ | refine awp_exit ?_ | refine awp_ret ?_); try simp only [thenA, inBlockA, reduceIte, reduceCtorEq, Nat.reduceEqDiff, if_false, if_true]) | ((first | refine hK _ ?_ | (clear hK K; first | refine hK _ ?_ | (clear hK K; first | refine hK _ ?_ | (clear hK K; first | refine hK _ ?_ | (clear hK K; refine hK _ ?_))))); clear hK K) | refine awp_true rfl rfl ?_ | refine awp_false rfl rfl ?_ | refine awp_block ?_ | ((first | refine CallK.pure (enter47) (hs0) ?_ ?_ | refine CallD.pure (enter47) (hs0) ?_ ?_); (focus first | ((repeat (first | exact trivial | refine ⟨(by first | exact Or.inl rfl | exact Or.inr rfl), ?_⟩)); done) | (simp only [coL, AV.dat, true_or, or_true, AV.d.injEq, go_sem]; done)); simp only [go_sem, hw, he]) | refine And.intro (by first | ((repeat' first | omega | exact trivial | rfl | assumption | (intro a e; subst e; rfl) | exact map_sz fun a => (by simp only [go_sem]) | refine And.intro ?_ ?_); done) | fail) ?_ | fail)
      (first | refine ret_pure ?_ ?_ ?_ | refine ret_ro ?_ ?_ ?_); focus exact (by simp only [Try.results46, resOkL, resOk, Try.ntmps46, List.toList_toArray]; first | decide | (simp only [go_sem]; done) | (simp only [go_sem]; and_intros <;> first | omega | rfl | decide))
      rotate_left; focus exact (by repeat (first | exact Fr.rfl' _ _ | assumption | refine Fr.updk ?_ (by omega) _))
      simp only [resA, resV, Try.results46, go_sem]
      all_goals try (first | exact Co.t2 (.dat rfl) (.dat rfl) | exact Co.t3 (.dat rfl) (.dat rfl) (.dat rfl))
      all_goals exact .dat rfl
    | false =>
      repeat' (first | refine awp_seq_k fun K hK => ?_ | ((first | refine awp_region_k (by kernel_rfl) fun R hR => ?_ | refine awp_draw mixed (by kernel_rfl) (by kernel_rfl) fun R hR => ?_); simp only [go_sem, hw, he]) | ((first | (refine hR _ ?_; clear hR R) | refine awp_skip ?_ | refine awp_exit ?_ | refine awp_ret ?_); try simp only [thenA, inBlockA, reduceIte, reduceCtorEq, Nat.reduceEqDiff, if_false, if_true]) | ((first | refine hK _ ?_ | (clear hK K; first | refine hK _ ?_ | (clear hK K; first | refine hK _ ?_ | (clear hK K; first | refine hK _ ?_ | (clear hK K; refine hK _ ?_))))); clear hK K) | refine awp_true rfl rfl ?_ | refine awp_false rfl rfl ?_ | refine awp_block ?_ | refine And.intro (by first | ((repeat' first | omega | exact trivial | rfl | assumption | (intro a e; subst e; rfl) | exact map_sz fun a => (by simp only [go_sem]) | refine And.intro ?_ ?_); done) | fail) ?_ | fail)
      (first | refine ret_pure ?_ ?_ ?_ | refine ret_ro ?_ ?_ ?_); focus exact (by simp only [Try.results46, resOkL, resOk, Try.ntmps46, List.toList_toArray]; first | decide | (simp only [go_sem]; done) | (simp only [go_sem]; and_intros <;> first | omega | rfl | decide))
      rotate_left; focus exact (by repeat (first | exact Fr.rfl' _ _ | assumption | refine Fr.updk ?_ (by omega) _))
      simp only [resA, resV, Try.results46, go_sem]
      all_goals try (first | exact Co.t2 (.dat rfl) (.dat rfl) | exact Co.t3 (.dat rfl) (.dat rfl) (.dat rfl))
      all_goals exact .dat rfl
  | false =>
    rw [if_neg (by simpa using hw)]
    cases he : (e == w) with
    | true =>
      repeat' (first | refine awp_seq_k fun K hK => ?_ | ((first | refine awp_region_k (by kernel_rfl) fun R hR => ?_ | refine awp_draw mixed (by kernel_rfl) (by kernel_rfl) fun R hR => ?_); simp only [go_sem, hw, he]) | ((first | (refine hR _ ?_; clear hR R) | refine awp_skip ?_ | refine awp_exit ?_ | refine awp_ret ?_); try simp only [thenA, inBlockA, reduceIte, reduceCtorEq, Nat.reduceEqDiff, if_false, if_true]) | ((first | refine hK _ ?_ | (clear hK K; first | refine hK _ ?_ | (clear hK K; first | refine hK _ ?_ | (clear hK K; first | refine hK _ ?_ | (clear hK K; refine hK _ ?_))))); clear hK K) | refine awp_true rfl rfl ?_ | refine awp_false rfl rfl ?_ | refine awp_block ?_ | ((first | refine CallK.pure (enter47) (sameR_tri t want) ?_ ?_ | refine CallD.pure (enter47) (sameR_tri t want) ?_ ?_); (focus first | ((repeat (first | exact trivial | refine ⟨(by first | exact Or.inl rfl | exact Or.inr rfl), ?_⟩)); done) | (simp only [coL, AV.dat, true_or, or_true, AV.d.injEq, go_sem]; done)); simp only [go_sem, hw, he]) | refine And.intro (by first | ((repeat' first | omega | exact trivial | rfl | assumption | (intro a e; subst e; rfl) | exact map_sz fun a => (by simp only [go_sem]) | refine And.intro ?_ ?_); done) | fail) ?_ | fail)
      (first | refine ret_pure ?_ ?_ ?_ | refine ret_ro ?_ ?_ ?_); focus exact (by simp only [Try.results46, resOkL, resOk, Try.ntmps46, List.toList_toArray]; first | decide | (simp only [go_sem]; done) | (simp only [go_sem]; and_intros <;> first | omega | rfl | decide))
      rotate_left; focus exact (by repeat (first | exact Fr.rfl' _ _ | assumption | refine Fr.updk ?_ (by omega) _))
      simp only [resA, resV, Try.results46, go_sem]
      all_goals try (first | exact Co.t2 (.dat rfl) (.dat rfl) | exact Co.t3 (.dat rfl) (.dat rfl) (.dat rfl))
      all_goals exact .dat rfl
    | false =>
      repeat' (first | refine awp_seq_k fun K hK => ?_ | ((first | refine awp_region_k (by kernel_rfl) fun R hR => ?_ | refine awp_draw mixed (by kernel_rfl) (by kernel_rfl) fun R hR => ?_); simp only [go_sem, hw, he]) | ((first | (refine hR _ ?_; clear hR R) | refine awp_skip ?_ | refine awp_exit ?_ | refine awp_ret ?_); try simp only [thenA, inBlockA, reduceIte, reduceCtorEq, Nat.reduceEqDiff, if_false, if_true]) | ((first | refine hK _ ?_ | (clear hK K; first | refine hK _ ?_ | (clear hK K; first | refine hK _ ?_ | (clear hK K; first | refine hK _ ?_ | (clear hK K; refine hK _ ?_))))); clear hK K) | refine awp_true rfl rfl ?_ | refine awp_false rfl rfl ?_ | refine awp_block ?_ | refine And.intro (by first | ((repeat' first | omega | exact trivial | rfl | assumption | (intro a e; subst e; rfl) | exact map_sz fun a => (by simp only [go_sem]) | refine And.intro ?_ ?_); done) | fail) ?_ | fail)
      (first | refine ret_pure ?_ ?_ ?_ | refine ret_ro ?_ ?_ ?_); focus exact (by simp only [Try.results46, resOkL, resOk, Try.ntmps46, List.toList_toArray]; first | decide | (simp only [go_sem]; done) | (simp only [go_sem]; and_intros <;> first | omega | rfl | decide))
      rotate_left; focus exact (by repeat (first | exact Fr.rfl' _ _ | assumption | refine Fr.updk ?_ (by omega) _))
      simp only [resA, resV, Try.results46, go_sem]
      all_goals try (first | exact Co.t2 (.dat rfl) (.dat rfl) | exact Co.t3 (.dat rfl) (.dat rfl) (.dat rfl))
      all_goals exact .dat rfl
def f0 : Tm := .mk 0 0 []
def rbL : List Rl := [⟨.mk 0 1 [.mk 1 0 []], .mk 1 0 []⟩]
theorem rb0 : gt (.mk 0 1 [.mk 1 0 []]) (.mk 1 0 []) = true := by rw [gt_eq]; simp [gtStep, same, sameL, Tm.us, Tm.v, Tm.f]
theorem rb1 : rlOk [0, 1] rbL = 0 := by
  unfold rlOk rbL
  rw [rlL, rlL, rb0]; rfl
theorem rb2 : nrmAns [0, 1] rbL (.mk 0 1 [.mk 0 1 [.mk 0 0 []]]) = (.mk 0 0 [], 2, 0) := by
  unfold nrmAns rdyG
  rw [rb1]; rfl
theorem rb3 : stpAns [0, 1] rbL (.mk 0 1 [.mk 0 0 []]) = (.mk 0 0 [], true, 0) := by
  unfold stpAns rdyG
  rw [rb1]; rfl
theorem rbd : DV.st [iD 0, iD 1, .sl ([.mk 1 0 []].map tmDV), iD 1, iD 0, .sl []] = rlDV ⟨.mk 0 1 [.mk 1 0 []], .mk 1 0 []⟩ := rfl
set_option maxHeartbeats 2000000 in
set_option maxRecDepth 20000 in
theorem rewriteBegun_tri : Tri Try.prog 44 [] (pure' (bA true)) := by
  have v1 := rwNormal_tri [0, 1] rbL (by decide) (.mk 0 1 [.mk 0 1 [.mk 0 0 []]]) (by decide)
  have v2 := rwStep_tri [0, 1] rbL (by decide) (.mk 0 1 [.mk 0 0 []]) (by decide)
  have v3 := rwCheck_tri [0, 1] rbL (by decide)
  have s0 : same (.mk 0 0 []) (.mk 0 0 []) = true := rfl
  rw [rb2] at v1
  rw [rb3] at v2
  rw [rb1] at v3
  refine tri_enter Try.func44 rfl Try.ntmps44 (by simp only [List.length_cons, List.length_nil]; omega) fun w0 h0 k hrd hwr => ?_
  repeat' (first | refine awp_seq_k fun K hK => ?_ | ((first | refine awp_region_k (by kernel_rfl) fun R hR => ?_ | refine awp_draw mixed (by kernel_rfl) (by kernel_rfl) fun R hR => ?_); simp only [go_sem, beq_self_eq_true, rbd, s0]) | ((first | (refine hR _ ?_; clear hR R) | refine awp_skip ?_ | refine awp_exit ?_ | refine awp_ret ?_); try simp only [thenA, inBlockA, reduceIte, reduceCtorEq, Nat.reduceEqDiff, if_false, if_true]) | ((first | refine hK _ ?_ | (clear hK K; first | refine hK _ ?_ | (clear hK K; first | refine hK _ ?_ | (clear hK K; first | refine hK _ ?_ | (clear hK K; refine hK _ ?_))))); clear hK K) | refine awp_true rfl rfl ?_ | refine awp_false rfl rfl ?_ | refine awp_block ?_ | ((first | refine CallK.pure (enter66) (fn_tri 0 []) ?_ ?_ | refine CallD.pure (enter66) (fn_tri 0 []) ?_ ?_); (focus first | ((repeat (first | exact trivial | refine ⟨(by first | exact Or.inl rfl | exact Or.inr rfl), ?_⟩)); done) | (simp only [coL, AV.dat, true_or, or_true, AV.d.injEq, go_sem]; done)); simp only [go_sem, beq_self_eq_true, rbd, s0]) | ((first | refine CallK.pure (enter66) (fn_tri 1 [.mk 1 0 []]) ?_ ?_ | refine CallD.pure (enter66) (fn_tri 1 [.mk 1 0 []]) ?_ ?_); (focus first | ((repeat (first | exact trivial | refine ⟨(by first | exact Or.inl rfl | exact Or.inr rfl), ?_⟩)); done) | (simp only [coL, AV.dat, true_or, or_true, AV.d.injEq, go_sem]; done)); simp only [go_sem, beq_self_eq_true, rbd, s0]) | ((first | refine CallK.pure (enter66) (fn_tri 1 [.mk 0 0 []]) ?_ ?_ | refine CallD.pure (enter66) (fn_tri 1 [.mk 0 0 []]) ?_ ?_); (focus first | ((repeat (first | exact trivial | refine ⟨(by first | exact Or.inl rfl | exact Or.inr rfl), ?_⟩)); done) | (simp only [coL, AV.dat, true_or, or_true, AV.d.injEq, go_sem]; done)); simp only [go_sem, beq_self_eq_true, rbd, s0]) | ((first | refine CallK.pure (enter66) (fn_tri 1 [.mk 0 1 [.mk 0 0 []]]) ?_ ?_ | refine CallD.pure (enter66) (fn_tri 1 [.mk 0 1 [.mk 0 0 []]]) ?_ ?_); (focus first | ((repeat (first | exact trivial | refine ⟨(by first | exact Or.inl rfl | exact Or.inr rfl), ?_⟩)); done) | (simp only [coL, AV.dat, true_or, or_true, AV.d.injEq, go_sem]; done)); simp only [go_sem, beq_self_eq_true, rbd, s0]) | ((first | refine CallK.pure (enter65) (small_tri) ?_ ?_ | refine CallD.pure (enter65) (small_tri) ?_ ?_ | refine CallK.pure (enter67) (va_tri 1) ?_ ?_ | refine CallD.pure (enter67) (va_tri 1) ?_ ?_ | refine CallK.pure (enter40) (v1) ?_ ?_ | refine CallD.pure (enter40) (v1) ?_ ?_ | refine CallK.pure (enter39) (v2) ?_ ?_ | refine CallD.pure (enter39) (v2) ?_ ?_ | refine CallK.pure (enter45) (v3) ?_ ?_ | refine CallD.pure (enter45) (v3) ?_ ?_ | refine CallK.pure (enter47) (sameR_tri (.mk 0 0 []) (.mk 0 0 [])) ?_ ?_ | refine CallD.pure (enter47) (sameR_tri (.mk 0 0 []) (.mk 0 0 [])) ?_ ?_); (focus first | ((repeat (first | exact trivial | refine ⟨(by first | exact Or.inl rfl | exact Or.inr rfl), ?_⟩)); done) | (simp only [coL, AV.dat, true_or, or_true, AV.d.injEq, go_sem]; done)); simp only [go_sem, beq_self_eq_true, rbd, s0]) | refine And.intro (by first | ((repeat' first | omega | exact trivial | rfl | assumption | (intro a e; subst e; rfl) | exact map_sz fun a => (by simp only [go_sem]) | refine And.intro ?_ ?_); done) | fail) ?_ | fail)
  (first | refine ret_pure ?_ ?_ ?_ | refine ret_ro ?_ ?_ ?_); focus exact (by simp only [Try.results44, resOkL, resOk, Try.ntmps44, List.toList_toArray]; first | decide | (simp only [go_sem]; done) | (simp only [go_sem]; and_intros <;> first | omega | rfl | decide))
  rotate_left; focus exact (by repeat (first | exact Fr.rfl' _ _ | assumption | refine Fr.updk ?_ (by omega) _))
  simp only [resA, resV, Try.results44, go_sem]
  all_goals try (first | exact Co.t2 (.dat rfl) (.dat rfl) | exact Co.t3 (.dat rfl) (.dat rfl) (.dat rfl))
  exact .dat rfl
end Go.Proofs.Ytmeekpinkfpnhaa
namespace Go.Proofs.Ytmeekpinkfpnhaa
open Go.RowKit
theorem step_err {rs : List Rl} {t : Tm} (h : (stepG rs t).2.2 ≠ 0) : stepG rs t = (tm0, false, 2) := by
  unfold stepG at h ⊢
  cases hf : foundG rs t [] with
  | none => rw [hf] at h; exact absurd rfl h
  | some w =>
    obtain ⟨p, r, b⟩ := w
    rw [hf] at h
    simp only at h ⊢
    split at h
    · rw [if_pos (by assumption)]
    · rw [if_neg (by assumption)]
      split at h
      · rw [if_pos (by assumption)]
      · exact absurd rfl h
theorem norm_err {rs : List Rl} : ∀ (k : Nat) (t : Tm) (n : Int), (normG rs k t n).2.2 ≠ 0 → (normG rs k t n).1 = tm0
  | k, t, n, h => by
    rw [normG_eq] at h ⊢
    by_cases h1 : (stepG rs t).2.2 = 0
    · rw [if_neg (by simp [h1])] at h ⊢
      by_cases h2 : (stepG rs t).2.1 = false
      · rw [if_pos h2] at h; exact absurd rfl h
      · rw [if_neg h2] at h ⊢
        by_cases h3 : k = 0
        · rw [if_pos h3]
        · rw [if_neg h3] at h ⊢
          exact norm_err (k - 1) _ _ h
    · rw [if_pos h1]
termination_by k => k
theorem same_want {t : Tm} {e : Int} (h : e ≠ 0 → t = tm0) : same t (if e ≠ 0 then tm0 else t) = true := by
  rw [same_iff]
  by_cases he : e ≠ 0
  · rw [if_pos he, h he]
  · rw [if_neg he]
set_option maxHeartbeats 4000000 in
set_option maxRecDepth 20000 in
theorem rewriteSteps_tri (g : List Int) (rs : List Rl) (hrl : rs.length ≤ 4000000) (hrs : ∀ r ∈ rs, r.l.size ≤ 4000000 ∧ r.r.size ≤ 4000000) (t : Tm) (ht : t.size ≤ 4000000) : Tri Try.prog 7 [.d (sgDV g), .d (rlsDV rs), .d (tmDV t)] (pure' (bA true)) := by
  have v1 := rwStep_tri g rs hrl t ht
  have v2 := rwNormal_tri g rs hrl t ht
  have v3 := checkRules_tri g rs hrl hrs
  have v4 := checkTerm_tri g t
  have v5 := rwCheck_tri g rs hrl
  refine tri_enter Try.func7 rfl Try.ntmps7 (by simp only [List.length_cons, List.length_nil]; omega) fun w0 h0 k hrd hwr => ?_
  by_cases h0' : rdyG g rs t = 0
  · obtain ⟨k1, k2, k3⟩ := rdy_small h0'
    obtain ⟨_, _, k4⟩ := rlOk_all k1
    have e1 : stpAns g rs t = stepG rs t := by unfold stpAns; rw [if_neg (by simp [h0'])]
    have e2 : nrmAns g rs t = normG rs 300 t 0 := by unfold nrmAns; rw [if_neg (by simp [h0'])]
    have hgr : ∀ r ∈ rs, Good r.r := fun r hr => own_good (k4 r hr).2.1
    have w1 := stepOf_tri rs hrl hrs hgr t ht (own_good k2)
    have w2 := normalOf_tri rs (fun x => own g x = 0) (fun x hx hox => stepOf_tri rs hrl hrs hgr x hx (own_good hox)) (fun x hox he => (step_ok hox k4 he).1) t ht k2
    have i1 := termIs_tri (stepG rs t).1 (stepG rs t).2.2 (stepG rs t).2.2 (stepG rs t).1
    rw [beq_self_eq_true, Bool.true_and, same_want fun h => by rw [step_err h]] at i1
    have i2 := termIs_tri (normG rs 300 t 0).1 (normG rs 300 t 0).2.2 (normG rs 300 t 0).2.2 (normG rs 300 t 0).1
    rw [beq_self_eq_true, Bool.true_and, same_want fun h => norm_err 300 t 0 h] at i2
    rw [e1] at v1
    rw [e2] at v2
    rw [k1] at v3 v5
    rw [k2] at v4
    generalize stepG rs t = r1 at *
    generalize normG rs 300 t 0 = r2 at *
    repeat' (first | refine awp_seq_k fun K hK => ?_ | ((first | refine awp_region_k (by kernel_rfl) fun R hR => ?_ | refine awp_draw mixed (by kernel_rfl) (by kernel_rfl) fun R hR => ?_); simp only [go_sem, nat_ne8, beq_self_eq_true]) | ((first | (refine hR _ ?_; clear hR R) | refine awp_skip ?_ | refine awp_exit ?_ | refine awp_ret ?_); try simp only [thenA, inBlockA, reduceIte, reduceCtorEq, Nat.reduceEqDiff, if_false, if_true]) | ((first | refine hK _ ?_ | (clear hK K; first | refine hK _ ?_ | (clear hK K; first | refine hK _ ?_ | (clear hK K; first | refine hK _ ?_ | (clear hK K; refine hK _ ?_))))); clear hK K) | refine awp_true rfl rfl ?_ | refine awp_false rfl rfl ?_ | refine awp_block ?_ | ((first | refine CallK.pure (enter46) (i1) ?_ ?_ | refine CallD.pure (enter46) (i1) ?_ ?_); (focus first | ((repeat (first | exact trivial | refine ⟨(by first | exact Or.inl rfl | exact Or.inr rfl), ?_⟩)); done) | (simp only [coL, AV.dat, true_or, or_true, AV.d.injEq, go_sem]; done)); simp only [go_sem, nat_ne8, beq_self_eq_true]) | ((first | refine CallK.pure (enter46) (i2) ?_ ?_ | refine CallD.pure (enter46) (i2) ?_ ?_); (focus first | ((repeat (first | exact trivial | refine ⟨(by first | exact Or.inl rfl | exact Or.inr rfl), ?_⟩)); done) | (simp only [coL, AV.dat, true_or, or_true, AV.d.injEq, go_sem]; done)); simp only [go_sem, nat_ne8, beq_self_eq_true]) | ((first | refine CallK.pure (enter39) (v1) ?_ ?_ | refine CallD.pure (enter39) (v1) ?_ ?_ | refine CallK.pure (enter40) (v2) ?_ ?_ | refine CallD.pure (enter40) (v2) ?_ ?_ | refine CallK.pure (enter41) (v3) ?_ ?_ | refine CallD.pure (enter41) (v3) ?_ ?_ | refine CallK.pure (enter21) (v4) ?_ ?_ | refine CallD.pure (enter21) (v4) ?_ ?_ | refine CallK.pure (enter42) (w1) ?_ ?_ | refine CallD.pure (enter42) (w1) ?_ ?_ | refine CallK.pure (enter43) (w2) ?_ ?_ | refine CallD.pure (enter43) (w2) ?_ ?_ | refine CallK.pure (enter44) (rewriteBegun_tri) ?_ ?_ | refine CallD.pure (enter44) (rewriteBegun_tri) ?_ ?_ | refine CallK.pure (enter45) (v5) ?_ ?_ | refine CallD.pure (enter45) (v5) ?_ ?_); (focus first | ((repeat (first | exact trivial | refine ⟨(by first | exact Or.inl rfl | exact Or.inr rfl), ?_⟩)); done) | (simp only [coL, AV.dat, true_or, or_true, AV.d.injEq, go_sem]; done)); simp only [go_sem, nat_ne8, beq_self_eq_true]) | refine And.intro (by first | ((repeat' first | omega | exact trivial | rfl | assumption | (intro a e; subst e; rfl) | exact map_sz fun a => (by simp only [go_sem]) | refine And.intro ?_ ?_); done) | fail) ?_ | fail)
    (first | refine ret_pure ?_ ?_ ?_ | refine ret_ro ?_ ?_ ?_); focus exact (by simp only [Try.results7, resOkL, resOk, Try.ntmps7, List.toList_toArray]; first | decide | (simp only [go_sem]; done) | (simp only [go_sem]; and_intros <;> first | omega | rfl | decide))
    rotate_left; focus exact (by repeat (first | exact Fr.rfl' _ _ | assumption | refine Fr.updk ?_ (by omega) _))
    simp only [resA, resV, Try.results7, go_sem]
    all_goals try (first | exact Co.t2 (.dat rfl) (.dat rfl) | exact Co.t3 (.dat rfl) (.dat rfl) (.dat rfl))
    exact .dat rfl
  · have e1 : stpAns g rs t = (tm0, false, rdyG g rs t) := by unfold stpAns; rw [if_pos h0']
    have e2 : nrmAns g rs t = (tm0, 0, rdyG g rs t) := by unfold nrmAns; rw [if_pos h0']
    rw [e1] at v1
    rw [e2] at v2
    have s0 : same tm0 tm0 = true := rfl
    have i1 := termIs_tri tm0 (rdyG g rs t) (rdyG g rs t) tm0
    rw [if_pos h0', beq_self_eq_true, Bool.true_and, s0] at i1
    have i1' : Tri Try.prog 46 [.d (tmDV tm0), iA (rdyG g rs t), iA (rdyG g rs t), .d (.st [iD 0, iD 0, .sl []])] (pure' (bA true)) := by rw [← tm0_DV]; exact i1
    have bz : (rdyG g rs t == 0) = false := by simpa using h0'
    cases hs : rlOk g rs == 0 with
    | false =>
      have er : rdyG g rs t = rlOk g rs := by unfold rdyG; rw [if_pos (by simpa using hs)]
      rw [er] at v1 v2 i1'
      repeat' (first | refine awp_seq_k fun K hK => ?_ | ((first | refine awp_region_k (by kernel_rfl) fun R hR => ?_ | refine awp_draw mixed (by kernel_rfl) (by kernel_rfl) fun R hR => ?_); simp only [go_sem, hs, nat_ne8, beq_self_eq_true]) | ((first | (refine hR _ ?_; clear hR R) | refine awp_skip ?_ | refine awp_exit ?_ | refine awp_ret ?_); try simp only [thenA, inBlockA, reduceIte, reduceCtorEq, Nat.reduceEqDiff, if_false, if_true]) | ((first | refine hK _ ?_ | (clear hK K; first | refine hK _ ?_ | (clear hK K; first | refine hK _ ?_ | (clear hK K; first | refine hK _ ?_ | (clear hK K; refine hK _ ?_))))); clear hK K) | refine awp_true rfl rfl ?_ | refine awp_false rfl rfl ?_ | refine awp_block ?_ | ((first | refine CallK.pure (enter39) (v1) ?_ ?_ | refine CallD.pure (enter39) (v1) ?_ ?_ | refine CallK.pure (enter40) (v2) ?_ ?_ | refine CallD.pure (enter40) (v2) ?_ ?_ | refine CallK.pure (enter41) (v3) ?_ ?_ | refine CallD.pure (enter41) (v3) ?_ ?_ | refine CallK.pure (enter44) (rewriteBegun_tri) ?_ ?_ | refine CallD.pure (enter44) (rewriteBegun_tri) ?_ ?_ | refine CallK.pure (enter45) (v5) ?_ ?_ | refine CallD.pure (enter45) (v5) ?_ ?_ | refine CallK.pure (enter46) (i1') ?_ ?_ | refine CallD.pure (enter46) (i1') ?_ ?_); (focus first | ((repeat (first | exact trivial | refine ⟨(by first | exact Or.inl rfl | exact Or.inr rfl), ?_⟩)); done) | (simp only [coL, AV.dat, true_or, or_true, AV.d.injEq, go_sem]; done)); simp only [go_sem, hs, nat_ne8, beq_self_eq_true]) | refine And.intro (by first | ((repeat' first | omega | exact trivial | rfl | assumption | (intro a e; subst e; rfl) | exact map_sz fun a => (by simp only [go_sem]) | refine And.intro ?_ ?_); done) | fail) ?_ | fail)
      (first | refine ret_pure ?_ ?_ ?_ | refine ret_ro ?_ ?_ ?_); focus exact (by simp only [Try.results7, resOkL, resOk, Try.ntmps7, List.toList_toArray]; first | decide | (simp only [go_sem]; done) | (simp only [go_sem]; and_intros <;> first | omega | rfl | decide))
      rotate_left; focus exact (by repeat (first | exact Fr.rfl' _ _ | assumption | refine Fr.updk ?_ (by omega) _))
      simp only [resA, resV, Try.results7, go_sem]
      all_goals try (first | exact Co.t2 (.dat rfl) (.dat rfl) | exact Co.t3 (.dat rfl) (.dat rfl) (.dat rfl))
      exact .dat rfl
    | true =>
      have hs2 : rlOk g rs = 0 := by simpa using hs
      have er : rdyG g rs t = own g t := by unfold rdyG; rw [if_neg (by simp [hs2])]
      rw [er] at v1 v2 i1' bz
      rw [hs2] at v3 v5
      repeat' (first | refine awp_seq_k fun K hK => ?_ | ((first | refine awp_region_k (by kernel_rfl) fun R hR => ?_ | refine awp_draw mixed (by kernel_rfl) (by kernel_rfl) fun R hR => ?_); simp only [go_sem, bz, nat_ne8, beq_self_eq_true]) | ((first | (refine hR _ ?_; clear hR R) | refine awp_skip ?_ | refine awp_exit ?_ | refine awp_ret ?_); try simp only [thenA, inBlockA, reduceIte, reduceCtorEq, Nat.reduceEqDiff, if_false, if_true]) | ((first | refine hK _ ?_ | (clear hK K; first | refine hK _ ?_ | (clear hK K; first | refine hK _ ?_ | (clear hK K; first | refine hK _ ?_ | (clear hK K; refine hK _ ?_))))); clear hK K) | refine awp_true rfl rfl ?_ | refine awp_false rfl rfl ?_ | refine awp_block ?_ | ((first | refine CallK.pure (enter39) (v1) ?_ ?_ | refine CallD.pure (enter39) (v1) ?_ ?_ | refine CallK.pure (enter40) (v2) ?_ ?_ | refine CallD.pure (enter40) (v2) ?_ ?_ | refine CallK.pure (enter41) (v3) ?_ ?_ | refine CallD.pure (enter41) (v3) ?_ ?_ | refine CallK.pure (enter21) (v4) ?_ ?_ | refine CallD.pure (enter21) (v4) ?_ ?_ | refine CallK.pure (enter44) (rewriteBegun_tri) ?_ ?_ | refine CallD.pure (enter44) (rewriteBegun_tri) ?_ ?_ | refine CallK.pure (enter45) (v5) ?_ ?_ | refine CallD.pure (enter45) (v5) ?_ ?_ | refine CallK.pure (enter46) (i1') ?_ ?_ | refine CallD.pure (enter46) (i1') ?_ ?_); (focus first | ((repeat (first | exact trivial | refine ⟨(by first | exact Or.inl rfl | exact Or.inr rfl), ?_⟩)); done) | (simp only [coL, AV.dat, true_or, or_true, AV.d.injEq, go_sem]; done)); simp only [go_sem, bz, nat_ne8, beq_self_eq_true]) | refine And.intro (by first | ((repeat' first | omega | exact trivial | rfl | assumption | (intro a e; subst e; rfl) | exact map_sz fun a => (by simp only [go_sem]) | refine And.intro ?_ ?_); done) | fail) ?_ | fail)
      (first | refine ret_pure ?_ ?_ ?_ | refine ret_ro ?_ ?_ ?_); focus exact (by simp only [Try.results7, resOkL, resOk, Try.ntmps7, List.toList_toArray]; first | decide | (simp only [go_sem]; done) | (simp only [go_sem]; and_intros <;> first | omega | rfl | decide))
      rotate_left; focus exact (by repeat (first | exact Fr.rfl' _ _ | assumption | refine Fr.updk ?_ (by omega) _))
      simp only [resA, resV, Try.results7, go_sem]
      all_goals try (first | exact Co.t2 (.dat rfl) (.dat rfl) | exact Co.t3 (.dat rfl) (.dat rfl) (.dat rfl))
      exact .dat rfl
def Rl.size (r : Rl) : Nat := r.l.size + r.r.size
theorem rl_sizes {rs : List Rl} {n : Nat} (h : (rs.map Rl.size).sum ≤ n) : rs.length ≤ n ∧ ∀ r ∈ rs, r.l.size ≤ n ∧ r.r.size ≤ n := by
  induction rs generalizing n with
  | nil => simp
  | cons x rs ih =>
    rw [List.map_cons, List.sum_cons] at h
    have hx : 1 ≤ x.size := by unfold Rl.size; have := x.l.size_eq; omega
    obtain ⟨h1, h2⟩ := ih (n := n - x.size) (by omega)
    refine ⟨by rw [List.length_cons]; omega, fun r hr => ?_⟩
    rcases List.mem_cons.1 hr with rfl | hr
    · unfold Rl.size at h; omega
    · have := h2 r hr; omega
theorem rewriteSteps_law (g : List Int) (rs : List Rl) (t : Tm) (_ : True) (_ : True) (_ : True) (hb : (g.length + 1) + ((rs.map Rl.size).sum + 1) + t.size ≤ 1048576) : Tri Try.prog 7 [.d (sgDV g), .d (rlsDV rs), .d (tmDV t)] (pure' (bA true)) := by
  obtain ⟨h1, h2⟩ := rl_sizes (rs := rs) (n := 1048576) (by omega)
  exact rewriteSteps_tri g rs (by omega) (fun r hr => by have := h2 r hr; omega) t (by omega)
end Go.Proofs.Ytmeekpinkfpnhaa
namespace Go.Proofs.Ytmeekpinkfpnhaa
open Go.ChangeShapes Go.WideShapes Go.RowKit
set_option maxRecDepth 20000 in
theorem rule_reads : Reads Try.prog 125 rlDV (fun _ => True) Rl.size := by
  intro n
  refine ReadsN.map (reads_struct Try.underlying125 rfl (by kernel_rfl) fun m hm => readsF_cons rfl (term_reads m) (readsF_cons rfl (term_reads m) readsF_nil)) (fun p => ⟨p.1, p.2.1⟩) fun p _ => ⟨?_, trivial, ?_⟩
  · simp only [tmDV_cells]; rfl
  · unfold Rl.size; simp only; omega
set_option maxRecDepth 20000 in
theorem rules_reads : Reads Try.prog 64 (fun c : List Rl => rlsDV c) (fun _ => True) (fun c => (c.map Rl.size).sum + 1) := by
  intro n
  exact ReadsN.map (reads_slice Try.underlying64 (by decide +kernel) fun m _ => rule_reads m) (fun l => l) fun l _ => ⟨rfl, trivial, Nat.le_refl _⟩
theorem rules_arg : ArgOf Try.prog 64 (fun c : List Rl => rlsDV c) (fun _ => True) (fun c => (c.map Rl.size).sum + 1) := argOf_slice Try.underlying64 rules_reads
end Go.Proofs.Ytmeekpinkfpnhaa
