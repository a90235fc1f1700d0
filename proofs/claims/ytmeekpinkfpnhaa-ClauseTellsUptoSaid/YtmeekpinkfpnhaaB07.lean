/- Clauses checked: text.Right, superposeref.CheckClause, clause.Check, superposeref.CheckClauses; superposeref.FirstVars. superposeref.FirstVars. Models: what is plain. No program in sight. Models checked: model.power, superposeref.PowerOf, model.Check, superposeref.CheckModel. What models, clauses, lists of numbers, handed in, read as. The laws' helpers: small, fn, va. Patterns met, bindings grown: what is plain. No program in sight. Clauses tidied, always so, subsumed: what is plain. No program in sight. superposeref.Grow, BoundTo: what is plain. No program in sight. -/
import Derived.Test.YtmeekpinkfpnhaaB06
set_option linter.unusedSimpArgs false
set_option linter.unusedSectionVars false
set_option linter.unusedVariables false
set_option linter.unnecessarySimpa false
set_option linter.all false
namespace Go.Proofs.Ytmeekpinkfpnhaa
open Go.RowKit
set_option linter.unusedSimpArgs false
set_option linter.unusedSectionVars false

theorem litL_at {g : List Int} {c : List Lt} {i : Nat} (hi : i < c.length) : litL g (c.drop i) = if own g c[i].a ≠ 0 then own g c[i].a else if own g c[i].b ≠ 0 then own g c[i].b else litL g (c.drop (i + 1)) := by
  rw [List.drop_eq_getElem_cons hi, litL]
set_option maxRecDepth 20000 in
theorem right_tri (g : List Int) (c : List Lt) (hc : c.length ≤ 4000000) : Tri Try.prog 95 [.d (sgDV g), .d (clDV c)] (pure' (iA (clOk g c))) := by
  refine tri_enter Try.func95 rfl Try.ntmps95 (by simp only [List.length_cons, List.length_nil]; omega) fun w0 h0 k hrd hwr => ?_
  unfold clOk
  cases h8 : decide ((c.length : Int) > 8) with
  | true =>
    have h8' : c.length > 8 := by simp at h8; omega
    rw [if_pos h8']
    repeat' (first
      | refine awp_seq_k fun K hK => ?_
      | ((first | refine awp_region_k (by kernel_rfl) fun R hR => ?_ | refine awp_draw mixed (by kernel_rfl) (by kernel_rfl) fun R hR => ?_); simp only [go_sem, h8])
      | ((first | (refine hR _ ?_; clear hR R) | refine awp_skip ?_ | refine awp_exit ?_ | refine awp_ret ?_); try simp only [thenA, inBlockA, reduceIte, reduceCtorEq, Nat.reduceEqDiff, if_false, if_true])
      | ((first | refine hK _ ?_ | (clear hK K; first | refine hK _ ?_ | (clear hK K; first | refine hK _ ?_ | (clear hK K; first | refine hK _ ?_ | (clear hK K; refine hK _ ?_))))); clear hK K)
      | refine awp_true rfl rfl ?_
      | refine awp_false rfl rfl ?_
      | refine awp_block ?_
      | refine And.intro (by first | omega | exact trivial | rfl | assumption | (apply map_sz; intro a; simp only [go_sem]; done) | ((and_intros <;> first | omega | exact trivial | rfl | assumption | (apply map_sz; intro a; simp only [go_sem]; done) | fail); done) | fail) ?_
      | fail)
    first | refine ret_pure (by simp only [Try.results95, resOkL, resOk, Try.ntmps95, List.toList_toArray]; first | decide | (simp only [go_sem]; done) | (simp only [go_sem]; and_intros <;> first | omega | rfl | decide)) ?_ (by repeat (first | exact Fr.rfl' _ _ | assumption | refine Fr.updk ?_ (by omega) _)) | refine ret_ro (by simp only [Try.results95, resOkL, resOk, Try.ntmps95, List.toList_toArray]; first | decide | (simp only [go_sem]; done) | (simp only [go_sem]; and_intros <;> first | omega | rfl | decide)) ?_ (by repeat (first | exact Fr.rfl' _ _ | assumption | refine Fr.updk ?_ (by omega) _))
    simp only [resA, resV, Try.results95, go_sem]
    all_goals try (first | exact Co.t2 (.dat rfl) (.dat rfl) | exact Co.t3 (.dat rfl) (.dat rfl) (.dat rfl))
    exact .dat rfl
  | false =>
    have h8' : ¬ c.length > 8 := by simp at h8; omega
    rw [if_neg h8']
    repeat' (first
      | refine awp_seq_k fun K hK => ?_
      | ((first | refine awp_region_k (by kernel_rfl) fun R hR => ?_ | refine awp_draw mixed (by kernel_rfl) (by kernel_rfl) fun R hR => ?_); simp only [go_sem, h8])
      | ((first | (refine hR _ ?_; clear hR R) | refine awp_skip ?_ | refine awp_exit ?_ | refine awp_ret ?_); try simp only [thenA, inBlockA, reduceIte, reduceCtorEq, Nat.reduceEqDiff, if_false, if_true])
      | ((first | refine hK _ ?_ | (clear hK K; first | refine hK _ ?_ | (clear hK K; first | refine hK _ ?_ | (clear hK K; first | refine hK _ ?_ | (clear hK K; refine hK _ ?_))))); clear hK K)
      | refine awp_true rfl rfl ?_
      | refine awp_false rfl rfl ?_
      | refine awp_block ?_
      | refine And.intro (by first | omega | exact trivial | rfl | assumption | (apply map_sz; intro a; simp only [go_sem]; done) | ((and_intros <;> first | omega | exact trivial | rfl | assumption | (apply map_sz; intro a; simp only [go_sem]; done) | fail); done) | fail) ?_
      | fail)
    refine awp_loop (fun σ => ∃ i : Nat, σ.t 2 = .ptr (k, 0) 0 ∧ σ.t 13 = .d (clDV c) ∧ σ.t 14 = iA c.length ∧ σ.t 15 = iA i ∧ σ.h (k, 0) = some (.cells 24 [.d (.sl (g.map iD))]) ∧ Fr k h0 σ.h ∧ k < σ.k ∧ i ≤ c.length ∧ litL g (c.drop i) = litL g c) (fun σ => c.length - (intOf' (σ.t 15)).toNat) ?_ ?_
    · refine ⟨0, ?_⟩
      simp only [go_sem, List.drop_zero]
      and_intros; all_goals try (first | rfl | omega | assumption | ((repeat (first | exact Fr.rfl' _ _ | assumption | refine Fr.updk ?_ (by omega) _)); done))
    · rintro σ ⟨i, s2, s13, s14, s15, sh, hF, hk, hi, hv⟩
      have hne := ltne hk
      rcases Nat.lt_or_ge i c.length with hlt | hge
      · have hz : (i : Int) < (c.length : Int) := by omega
        have e1 : (c.map ltDV).getD i default = ltDV c[i] := nth_map ltDV hlt _
        rw [litL_at hlt] at hv
        repeat' (first
          | refine awp_seq_k fun K hK => ?_
          | ((first | refine awp_region_k (by kernel_rfl) fun R hR => ?_ | refine awp_draw mixed (by kernel_rfl) (by kernel_rfl) fun R hR => ?_); simp only [go_sem, s2, s13, s14, s15, sh, hz, e1, hne, Int.toNat_natCast])
          | ((first | (refine hR _ ?_; clear hR R) | refine awp_skip ?_ | refine awp_exit ?_ | refine awp_ret ?_); try simp only [thenA, inBlockA, reduceIte, reduceCtorEq, Nat.reduceEqDiff, if_false, if_true])
          | ((first | refine hK _ ?_ | (clear hK K; first | refine hK _ ?_ | (clear hK K; first | refine hK _ ?_ | (clear hK K; first | refine hK _ ?_ | (clear hK K; refine hK _ ?_))))); clear hK K)
          | refine awp_true rfl rfl ?_
          | refine awp_false rfl rfl ?_
          | refine awp_block ?_
          | refine And.intro (by first | omega | exact trivial | rfl | assumption | (apply map_sz; intro a; simp only [go_sem]; done) | ((and_intros <;> first | omega | exact trivial | rfl | assumption | (apply map_sz; intro a; simp only [go_sem]; done) | fail); done) | fail) ?_
          | fail)
        refine awp_loop (fun τ => ∃ j : Nat, τ.t 2 = .ptr (k, 0) 0 ∧ τ.t 13 = .d (clDV c) ∧ τ.t 14 = iA c.length ∧ τ.t 15 = iA i ∧ τ.t 23 = .own (σ.k + 1 + 1, 4) ([c[i].a, c[i].b].map tmDV) ∧ τ.t 24 = iA 2 ∧ τ.t 25 = iA j ∧ τ.h (k, 0) = some (.cells 24 [.d (.sl (g.map iD))]) ∧ Fr k h0 τ.h ∧ k < τ.k ∧ j ≤ 2 ∧ ownL g ([c[i].a, c[i].b].drop j) = ownL g [c[i].a, c[i].b]) (fun τ => 2 - (intOf' (τ.t 25)).toNat) ?_ ?_
        · refine ⟨0, ?_⟩
          simp only [go_sem, List.drop_zero, s2, s13, s14, s15, sh, hne]
          and_intros; all_goals try (first | rfl | omega | assumption | ((repeat (first | exact Fr.rfl' _ _ | assumption | refine Fr.updk ?_ (by omega) _)); done))
        · rintro τ ⟨j, u2, u13, u14, u15, u23, u24, u25, uh, uF, uk, uj, uv⟩
          have hne' := ltne uk
          rcases Nat.lt_or_ge j 2 with hlt' | hge'
          · have hz' : (j : Int) < 2 := by omega
            have hj : j < [c[i].a, c[i].b].length := hlt'
            have e2 : ([c[i].a, c[i].b].map tmDV).getD j default = tmDV [c[i].a, c[i].b][j] := nth_map tmDV hj _
            have e3 : ([c[i].a, c[i].b].map tmDV).length = 2 := rfl
            rw [List.drop_eq_getElem_cons hj, ownL] at uv
            generalize hel : [c[i].a, c[i].b].map tmDV = el at *
            cases ha : own g [c[i].a, c[i].b][j] == 0 with
            | true =>
              have ha' : own g [c[i].a, c[i].b][j] = 0 := by simpa using ha
              rw [if_neg (by simp [ha'])] at uv
              repeat' (first
                | refine awp_seq_k fun K hK => ?_
                | ((first | refine awp_region_k (by kernel_rfl) fun R hR => ?_ | refine awp_draw mixed (by kernel_rfl) (by kernel_rfl) fun R hR => ?_); simp only [go_sem, u2, u23, u24, u25, uh, hz', e2, e3, hne', ha', bne_self_eq_false, Int.toNat_natCast])
                | ((first | (refine hR _ ?_; clear hR R) | refine awp_skip ?_ | refine awp_exit ?_ | refine awp_ret ?_); try simp only [thenA, inBlockA, reduceIte, reduceCtorEq, Nat.reduceEqDiff, if_false, if_true])
                | ((first | refine hK _ ?_ | (clear hK K; first | refine hK _ ?_ | (clear hK K; first | refine hK _ ?_ | (clear hK K; first | refine hK _ ?_ | (clear hK K; refine hK _ ?_))))); clear hK K)
                | refine awp_true rfl rfl ?_
                | refine awp_false rfl rfl ?_
                | refine awp_block ?_
                | ((first | refine CallK.pure (enter68) (own_tri g [c[i].a, c[i].b][j]) ?_ ?_ | refine CallD.pure (enter68) (own_tri g [c[i].a, c[i].b][j]) ?_ ?_); (focus first | ((repeat (first | exact trivial | refine ⟨(by first | exact Or.inl rfl | exact Or.inr rfl), ?_⟩)); done) | (simp only [coL, AV.dat, true_or, or_true, AV.d.injEq, go_sem]; done)); simp only [go_sem, u2, u23, u24, u25, uh, hz', e2, e3, hne', ha', bne_self_eq_false, Int.toNat_natCast])
                | refine And.intro (by first | omega | exact trivial | rfl | assumption | (apply map_sz; intro a; simp only [go_sem]; done) | ((and_intros <;> first | omega | exact trivial | rfl | assumption | (apply map_sz; intro a; simp only [go_sem]; done) | fail); done) | fail) ?_
                | fail)
              refine ⟨⟨j + 1, ?_⟩, ?_⟩
              rotate_left
              · simp only [go_sem, u2, u13, u14, u15, u23, u24, u25, uh, hne']; omega
              simp only [go_sem, u2, u13, u14, u15, u23, u24, u25, uh, hne']
              and_intros; all_goals try (first | rfl | omega | assumption | ((repeat (first | exact Fr.rfl' _ _ | assumption | refine Fr.updk ?_ (by omega) _)); done))
            | false =>
              have ha' : (own g [c[i].a, c[i].b][j] != 0) = true := by simpa using ha
              have ha2 : own g [c[i].a, c[i].b][j] ≠ 0 := by simpa using ha
              rw [if_pos ha2] at uv
              have hv' : own g [c[i].a, c[i].b][j] = litL g c := by
                rw [uv, ← hv, ownL, ownL, ownL]
                by_cases h1 : own g c[i].a = 0
                · by_cases h2 : own g c[i].b = 0
                  · rw [ownL, ownL, ownL] at uv
                    simp [h1, h2] at uv
                    exact absurd uv ha2
                  · simp [h1, h2]
                · simp [h1]
              repeat' (first
                | refine awp_seq_k fun K hK => ?_
                | ((first | refine awp_region_k (by kernel_rfl) fun R hR => ?_ | refine awp_draw mixed (by kernel_rfl) (by kernel_rfl) fun R hR => ?_); simp only [go_sem, u2, u23, u24, u25, uh, hz', e2, e3, hne', ha', Int.toNat_natCast])
                | ((first | (refine hR _ ?_; clear hR R) | refine awp_skip ?_ | refine awp_exit ?_ | refine awp_ret ?_); try simp only [thenA, inBlockA, reduceIte, reduceCtorEq, Nat.reduceEqDiff, if_false, if_true])
                | ((first | refine hK _ ?_ | (clear hK K; first | refine hK _ ?_ | (clear hK K; first | refine hK _ ?_ | (clear hK K; first | refine hK _ ?_ | (clear hK K; refine hK _ ?_))))); clear hK K)
                | refine awp_true rfl rfl ?_
                | refine awp_false rfl rfl ?_
                | refine awp_block ?_
                | ((first | refine CallK.pure (enter68) (own_tri g [c[i].a, c[i].b][j]) ?_ ?_ | refine CallD.pure (enter68) (own_tri g [c[i].a, c[i].b][j]) ?_ ?_); (focus first | ((repeat (first | exact trivial | refine ⟨(by first | exact Or.inl rfl | exact Or.inr rfl), ?_⟩)); done) | (simp only [coL, AV.dat, true_or, or_true, AV.d.injEq, go_sem]; done)); simp only [go_sem, u2, u23, u24, u25, uh, hz', e2, e3, hne', ha', Int.toNat_natCast])
                | refine And.intro (by first | omega | exact trivial | rfl | assumption | (apply map_sz; intro a; simp only [go_sem]; done) | ((and_intros <;> first | omega | exact trivial | rfl | assumption | (apply map_sz; intro a; simp only [go_sem]; done) | fail); done) | fail) ?_
                | fail)
              first | refine ret_pure (by simp only [Try.results95, resOkL, resOk, Try.ntmps95, List.toList_toArray]; first | decide | (simp only [go_sem]; done) | (simp only [go_sem]; and_intros <;> first | omega | rfl | decide)) ?_ (by repeat (first | exact Fr.rfl' _ _ | assumption | refine Fr.updk ?_ (by omega) _)) | refine ret_ro (by simp only [Try.results95, resOkL, resOk, Try.ntmps95, List.toList_toArray]; first | decide | (simp only [go_sem]; done) | (simp only [go_sem]; and_intros <;> first | omega | rfl | decide)) ?_ (by repeat (first | exact Fr.rfl' _ _ | assumption | refine Fr.updk ?_ (by omega) _))
              simp only [resA, resV, Try.results95, go_sem]
              all_goals try (first | exact Co.t2 (.dat rfl) (.dat rfl) | exact Co.t3 (.dat rfl) (.dat rfl) (.dat rfl))
              exact co_i hv'
          · have hz' : ¬ ((j : Int) < 2) := by omega
            obtain rfl : j = 2 := by omega
            have hv' : litL g (c.drop (i + 1)) = litL g c := by
              rw [← hv]
              simp only [ownL, List.drop] at uv
              by_cases h1 : own g c[i].a = 0
              · by_cases h2 : own g c[i].b = 0
                · simp [h1, h2]
                · simp [h1, h2] at uv
                  exact absurd uv.symm h2
              · simp [h1] at uv
                exact absurd uv.symm h1
            repeat' (first
              | refine awp_seq_k fun K hK => ?_
              | ((first | refine awp_region_k (by kernel_rfl) fun R hR => ?_ | refine awp_draw mixed (by kernel_rfl) (by kernel_rfl) fun R hR => ?_); simp only [go_sem, u13, u14, u15, u24, u25, hz'])
              | ((first | (refine hR _ ?_; clear hR R) | refine awp_skip ?_ | refine awp_exit ?_ | refine awp_ret ?_); try simp only [thenA, inBlockA, reduceIte, reduceCtorEq, Nat.reduceEqDiff, if_false, if_true])
              | ((first | refine hK _ ?_ | (clear hK K; first | refine hK _ ?_ | (clear hK K; first | refine hK _ ?_ | (clear hK K; first | refine hK _ ?_ | (clear hK K; refine hK _ ?_))))); clear hK K)
              | refine awp_true rfl rfl ?_
              | refine awp_false rfl rfl ?_
              | refine awp_block ?_
              | refine And.intro (by first | omega | exact trivial | rfl | assumption | (apply map_sz; intro a; simp only [go_sem]; done) | ((and_intros <;> first | omega | exact trivial | rfl | assumption | (apply map_sz; intro a; simp only [go_sem]; done) | fail); done) | fail) ?_
              | fail)
            refine ⟨⟨i + 1, ?_⟩, ?_⟩
            rotate_left
            · simp only [go_sem, u2, u13, u14, u15, uh, s15]; omega
            simp only [go_sem, u2, u13, u14, u15, uh, s15]
            and_intros; all_goals try (first | rfl | omega | assumption | ((repeat (first | exact Fr.rfl' _ _ | assumption | refine Fr.updk ?_ (by omega) _)); done))
      · have hz : ¬ ((i : Int) < (c.length : Int)) := by omega
        rw [List.drop_eq_nil_of_le hge, litL] at hv
        repeat' (first
          | refine awp_seq_k fun K hK => ?_
          | ((first | refine awp_region_k (by kernel_rfl) fun R hR => ?_ | refine awp_draw mixed (by kernel_rfl) (by kernel_rfl) fun R hR => ?_); simp only [go_sem, s13, s14, s15, hz])
          | ((first | (refine hR _ ?_; clear hR R) | refine awp_skip ?_ | refine awp_exit ?_ | refine awp_ret ?_); try simp only [thenA, inBlockA, reduceIte, reduceCtorEq, Nat.reduceEqDiff, if_false, if_true])
          | ((first | refine hK _ ?_ | (clear hK K; first | refine hK _ ?_ | (clear hK K; first | refine hK _ ?_ | (clear hK K; first | refine hK _ ?_ | (clear hK K; refine hK _ ?_))))); clear hK K)
          | refine awp_true rfl rfl ?_
          | refine awp_false rfl rfl ?_
          | refine awp_block ?_
          | refine And.intro (by first | omega | exact trivial | rfl | assumption | (apply map_sz; intro a; simp only [go_sem]; done) | ((and_intros <;> first | omega | exact trivial | rfl | assumption | (apply map_sz; intro a; simp only [go_sem]; done) | fail); done) | fail) ?_
          | fail)
        first | refine ret_pure (by simp only [Try.results95, resOkL, resOk, Try.ntmps95, List.toList_toArray]; first | decide | (simp only [go_sem]; done) | (simp only [go_sem]; and_intros <;> first | omega | rfl | decide)) ?_ (by repeat (first | exact Fr.rfl' _ _ | assumption | refine Fr.updk ?_ (by omega) _)) | refine ret_ro (by simp only [Try.results95, resOkL, resOk, Try.ntmps95, List.toList_toArray]; first | decide | (simp only [go_sem]; done) | (simp only [go_sem]; and_intros <;> first | omega | rfl | decide)) ?_ (by repeat (first | exact Fr.rfl' _ _ | assumption | refine Fr.updk ?_ (by omega) _))
        simp only [resA, resV, Try.results95, go_sem]
        all_goals try (first | exact Co.t2 (.dat rfl) (.dat rfl) | exact Co.t3 (.dat rfl) (.dat rfl) (.dat rfl))
        exact co_i hv
set_option maxRecDepth 20000 in
theorem checkClause_tri (g : List Int) (c : List Lt) (hc : c.length ≤ 4000000) : Tri Try.prog 83 [.d (sgDV g), .d (clDV c)] (pure' (iA (clOk g c))) := by
  refine tri_enter Try.func83 rfl Try.ntmps83 (by simp only [List.length_cons, List.length_nil]; omega) fun w0 h0 k hrd hwr => ?_
  unfold clOk
  cases h8 : decide ((c.length : Int) > 8) with
  | true =>
    have h8' : c.length > 8 := by simp at h8; omega
    rw [if_pos h8']
    repeat' (first
      | refine awp_seq_k fun K hK => ?_
      | ((first | refine awp_region_k (by kernel_rfl) fun R hR => ?_ | refine awp_draw mixed (by kernel_rfl) (by kernel_rfl) fun R hR => ?_); simp only [go_sem, h8])
      | ((first | (refine hR _ ?_; clear hR R) | refine awp_skip ?_ | refine awp_exit ?_ | refine awp_ret ?_); try simp only [thenA, inBlockA, reduceIte, reduceCtorEq, Nat.reduceEqDiff, if_false, if_true])
      | ((first | refine hK _ ?_ | (clear hK K; first | refine hK _ ?_ | (clear hK K; first | refine hK _ ?_ | (clear hK K; first | refine hK _ ?_ | (clear hK K; refine hK _ ?_))))); clear hK K)
      | refine awp_true rfl rfl ?_
      | refine awp_false rfl rfl ?_
      | refine awp_block ?_
      | refine And.intro (by first | omega | exact trivial | rfl | assumption | (apply map_sz; intro a; simp only [go_sem]; done) | ((and_intros <;> first | omega | exact trivial | rfl | assumption | (apply map_sz; intro a; simp only [go_sem]; done) | fail); done) | fail) ?_
      | fail)
    first | refine ret_pure (by simp only [Try.results83, resOkL, resOk, Try.ntmps83, List.toList_toArray]; first | decide | (simp only [go_sem]; done) | (simp only [go_sem]; and_intros <;> first | omega | rfl | decide)) ?_ (by repeat (first | exact Fr.rfl' _ _ | assumption | refine Fr.updk ?_ (by omega) _)) | refine ret_ro (by simp only [Try.results83, resOkL, resOk, Try.ntmps83, List.toList_toArray]; first | decide | (simp only [go_sem]; done) | (simp only [go_sem]; and_intros <;> first | omega | rfl | decide)) ?_ (by repeat (first | exact Fr.rfl' _ _ | assumption | refine Fr.updk ?_ (by omega) _))
    simp only [resA, resV, Try.results83, go_sem]
    all_goals try (first | exact Co.t2 (.dat rfl) (.dat rfl) | exact Co.t3 (.dat rfl) (.dat rfl) (.dat rfl))
    exact .dat rfl
  | false =>
    have h8' : ¬ c.length > 8 := by simp at h8; omega
    rw [if_neg h8']
    repeat' (first
      | refine awp_seq_k fun K hK => ?_
      | ((first | refine awp_region_k (by kernel_rfl) fun R hR => ?_ | refine awp_draw mixed (by kernel_rfl) (by kernel_rfl) fun R hR => ?_); simp only [go_sem, h8])
      | ((first | (refine hR _ ?_; clear hR R) | refine awp_skip ?_ | refine awp_exit ?_ | refine awp_ret ?_); try simp only [thenA, inBlockA, reduceIte, reduceCtorEq, Nat.reduceEqDiff, if_false, if_true])
      | ((first | refine hK _ ?_ | (clear hK K; first | refine hK _ ?_ | (clear hK K; first | refine hK _ ?_ | (clear hK K; first | refine hK _ ?_ | (clear hK K; refine hK _ ?_))))); clear hK K)
      | refine awp_true rfl rfl ?_
      | refine awp_false rfl rfl ?_
      | refine awp_block ?_
      | refine And.intro (by first | omega | exact trivial | rfl | assumption | (apply map_sz; intro a; simp only [go_sem]; done) | ((and_intros <;> first | omega | exact trivial | rfl | assumption | (apply map_sz; intro a; simp only [go_sem]; done) | fail); done) | fail) ?_
      | fail)
    refine awp_loop (fun σ => ∃ i : Nat, σ.t 2 = .ptr (k, 0) 0 ∧ σ.t 1 = .d (clDV c) ∧ σ.t 5 = iA i ∧ σ.h (k, 0) = some (.cells 24 [.d (.sl (g.map iD))]) ∧ Fr k h0 σ.h ∧ k < σ.k ∧ i ≤ c.length ∧ litL g (c.drop i) = litL g c) (fun σ => c.length - (intOf' (σ.t 5)).toNat) ?_ ?_
    · refine ⟨0, ?_⟩
      simp only [go_sem, List.drop_zero]
      and_intros; all_goals try (first | rfl | omega | assumption | ((repeat (first | exact Fr.rfl' _ _ | assumption | refine Fr.updk ?_ (by omega) _)); done))
    · rintro σ ⟨i, s2, s1, s5, sh, hF, hk, hi, hv⟩
      have hne := ltne hk
      rcases Nat.lt_or_ge i c.length with hlt | hge
      · have hz : (i : Int) < (c.length : Int) := by omega
        have e1 : (c.map ltDV).getD i default = ltDV c[i] := nth_map ltDV hlt _
        rw [litL_at hlt] at hv
        cases ha : own g c[i].a == 0 with
        | true =>
          have ha' : own g c[i].a = 0 := by simpa using ha
          rw [if_neg (by simp [ha'])] at hv
          cases hb : own g c[i].b == 0 with
          | true =>
            have hb' : own g c[i].b = 0 := by simpa using hb
            rw [if_neg (by simp [hb'])] at hv
            repeat' (first
              | refine awp_seq_k fun K hK => ?_
              | ((first | refine awp_region_k (by kernel_rfl) fun R hR => ?_ | refine awp_draw mixed (by kernel_rfl) (by kernel_rfl) fun R hR => ?_); simp only [go_sem, s2, s1, s5, sh, hz, e1, hne, ha', hb', bne_self_eq_false, beq_self_eq_true, Int.toNat_natCast])
              | ((first | (refine hR _ ?_; clear hR R) | refine awp_skip ?_ | refine awp_exit ?_ | refine awp_ret ?_); try simp only [thenA, inBlockA, reduceIte, reduceCtorEq, Nat.reduceEqDiff, if_false, if_true])
              | ((first | refine hK _ ?_ | (clear hK K; first | refine hK _ ?_ | (clear hK K; first | refine hK _ ?_ | (clear hK K; first | refine hK _ ?_ | (clear hK K; refine hK _ ?_))))); clear hK K)
              | refine awp_true rfl rfl ?_
              | refine awp_false rfl rfl ?_
              | refine awp_block ?_
              | ((first | refine CallK.pure (enter21) (checkTerm_tri g c[i].a) ?_ ?_ | refine CallD.pure (enter21) (checkTerm_tri g c[i].a) ?_ ?_); (focus first | ((repeat (first | exact trivial | refine ⟨(by first | exact Or.inl rfl | exact Or.inr rfl), ?_⟩)); done) | (simp only [coL, AV.dat, true_or, or_true, AV.d.injEq, go_sem]; done)); simp only [go_sem, s2, s1, s5, sh, hz, e1, hne, ha', hb', bne_self_eq_false, beq_self_eq_true, Int.toNat_natCast])
              | ((first | refine CallK.pure (enter21) (checkTerm_tri g c[i].b) ?_ ?_ | refine CallD.pure (enter21) (checkTerm_tri g c[i].b) ?_ ?_); (focus first | ((repeat (first | exact trivial | refine ⟨(by first | exact Or.inl rfl | exact Or.inr rfl), ?_⟩)); done) | (simp only [coL, AV.dat, true_or, or_true, AV.d.injEq, go_sem]; done)); simp only [go_sem, s2, s1, s5, sh, hz, e1, hne, ha', hb', bne_self_eq_false, beq_self_eq_true, Int.toNat_natCast])
              | refine And.intro (by first | omega | exact trivial | rfl | assumption | (apply map_sz; intro a; simp only [go_sem]; done) | ((and_intros <;> first | omega | exact trivial | rfl | assumption | (apply map_sz; intro a; simp only [go_sem]; done) | fail); done) | fail) ?_
              | fail)
            refine ⟨⟨i + 1, ?_⟩, ?_⟩
            rotate_left
            · simp only [go_sem, s2, s1, s5, sh]; omega
            simp only [go_sem, s2, s1, s5, sh]
            and_intros; all_goals try (first | rfl | omega | assumption | ((repeat (first | exact Fr.rfl' _ _ | assumption | refine Fr.updk ?_ (by omega) _)); done))
          | false =>
            have hb' : (own g c[i].b != 0) = true := by simpa using hb
            have hb2 : own g c[i].b ≠ 0 := by simpa using hb
            rw [if_pos hb2] at hv
            repeat' (first
              | refine awp_seq_k fun K hK => ?_
              | ((first | refine awp_region_k (by kernel_rfl) fun R hR => ?_ | refine awp_draw mixed (by kernel_rfl) (by kernel_rfl) fun R hR => ?_); simp only [go_sem, s2, s1, s5, sh, hz, e1, hne, ha', hb', bne_self_eq_false, beq_self_eq_true, Int.toNat_natCast])
              | ((first | (refine hR _ ?_; clear hR R) | refine awp_skip ?_ | refine awp_exit ?_ | refine awp_ret ?_); try simp only [thenA, inBlockA, reduceIte, reduceCtorEq, Nat.reduceEqDiff, if_false, if_true])
              | ((first | refine hK _ ?_ | (clear hK K; first | refine hK _ ?_ | (clear hK K; first | refine hK _ ?_ | (clear hK K; first | refine hK _ ?_ | (clear hK K; refine hK _ ?_))))); clear hK K)
              | refine awp_true rfl rfl ?_
              | refine awp_false rfl rfl ?_
              | refine awp_block ?_
              | ((first | refine CallK.pure (enter21) (checkTerm_tri g c[i].a) ?_ ?_ | refine CallD.pure (enter21) (checkTerm_tri g c[i].a) ?_ ?_); (focus first | ((repeat (first | exact trivial | refine ⟨(by first | exact Or.inl rfl | exact Or.inr rfl), ?_⟩)); done) | (simp only [coL, AV.dat, true_or, or_true, AV.d.injEq, go_sem]; done)); simp only [go_sem, s2, s1, s5, sh, hz, e1, hne, ha', hb', bne_self_eq_false, beq_self_eq_true, Int.toNat_natCast])
              | ((first | refine CallK.pure (enter21) (checkTerm_tri g c[i].b) ?_ ?_ | refine CallD.pure (enter21) (checkTerm_tri g c[i].b) ?_ ?_); (focus first | ((repeat (first | exact trivial | refine ⟨(by first | exact Or.inl rfl | exact Or.inr rfl), ?_⟩)); done) | (simp only [coL, AV.dat, true_or, or_true, AV.d.injEq, go_sem]; done)); simp only [go_sem, s2, s1, s5, sh, hz, e1, hne, ha', hb', bne_self_eq_false, beq_self_eq_true, Int.toNat_natCast])
              | refine And.intro (by first | omega | exact trivial | rfl | assumption | (apply map_sz; intro a; simp only [go_sem]; done) | ((and_intros <;> first | omega | exact trivial | rfl | assumption | (apply map_sz; intro a; simp only [go_sem]; done) | fail); done) | fail) ?_
              | fail)
            first | refine ret_pure (by simp only [Try.results83, resOkL, resOk, Try.ntmps83, List.toList_toArray]; first | decide | (simp only [go_sem]; done) | (simp only [go_sem]; and_intros <;> first | omega | rfl | decide)) ?_ (by repeat (first | exact Fr.rfl' _ _ | assumption | refine Fr.updk ?_ (by omega) _)) | refine ret_ro (by simp only [Try.results83, resOkL, resOk, Try.ntmps83, List.toList_toArray]; first | decide | (simp only [go_sem]; done) | (simp only [go_sem]; and_intros <;> first | omega | rfl | decide)) ?_ (by repeat (first | exact Fr.rfl' _ _ | assumption | refine Fr.updk ?_ (by omega) _))
            simp only [resA, resV, Try.results83, go_sem]
            all_goals try (first | exact Co.t2 (.dat rfl) (.dat rfl) | exact Co.t3 (.dat rfl) (.dat rfl) (.dat rfl))
            exact co_i hv
        | false =>
          have ha' : (own g c[i].a != 0) = true := by simpa using ha
          have ha2 : own g c[i].a ≠ 0 := by simpa using ha
          rw [if_pos ha2] at hv
          repeat' (first
            | refine awp_seq_k fun K hK => ?_
            | ((first | refine awp_region_k (by kernel_rfl) fun R hR => ?_ | refine awp_draw mixed (by kernel_rfl) (by kernel_rfl) fun R hR => ?_); simp only [go_sem, s2, s1, s5, sh, hz, e1, hne, ha, ha', Int.toNat_natCast])
            | ((first | (refine hR _ ?_; clear hR R) | refine awp_skip ?_ | refine awp_exit ?_ | refine awp_ret ?_); try simp only [thenA, inBlockA, reduceIte, reduceCtorEq, Nat.reduceEqDiff, if_false, if_true])
            | ((first | refine hK _ ?_ | (clear hK K; first | refine hK _ ?_ | (clear hK K; first | refine hK _ ?_ | (clear hK K; first | refine hK _ ?_ | (clear hK K; refine hK _ ?_))))); clear hK K)
            | refine awp_true rfl rfl ?_
            | refine awp_false rfl rfl ?_
            | refine awp_block ?_
            | ((first | refine CallK.pure (enter21) (checkTerm_tri g c[i].a) ?_ ?_ | refine CallD.pure (enter21) (checkTerm_tri g c[i].a) ?_ ?_); (focus first | ((repeat (first | exact trivial | refine ⟨(by first | exact Or.inl rfl | exact Or.inr rfl), ?_⟩)); done) | (simp only [coL, AV.dat, true_or, or_true, AV.d.injEq, go_sem]; done)); simp only [go_sem, s2, s1, s5, sh, hz, e1, hne, ha, ha', Int.toNat_natCast])
            | refine And.intro (by first | omega | exact trivial | rfl | assumption | (apply map_sz; intro a; simp only [go_sem]; done) | ((and_intros <;> first | omega | exact trivial | rfl | assumption | (apply map_sz; intro a; simp only [go_sem]; done) | fail); done) | fail) ?_
            | fail)
          first | refine ret_pure (by simp only [Try.results83, resOkL, resOk, Try.ntmps83, List.toList_toArray]; first | decide | (simp only [go_sem]; done) | (simp only [go_sem]; and_intros <;> first | omega | rfl | decide)) ?_ (by repeat (first | exact Fr.rfl' _ _ | assumption | refine Fr.updk ?_ (by omega) _)) | refine ret_ro (by simp only [Try.results83, resOkL, resOk, Try.ntmps83, List.toList_toArray]; first | decide | (simp only [go_sem]; done) | (simp only [go_sem]; and_intros <;> first | omega | rfl | decide)) ?_ (by repeat (first | exact Fr.rfl' _ _ | assumption | refine Fr.updk ?_ (by omega) _))
          simp only [resA, resV, Try.results83, go_sem]
          all_goals try (first | exact Co.t2 (.dat rfl) (.dat rfl) | exact Co.t3 (.dat rfl) (.dat rfl) (.dat rfl))
          exact co_i hv
      · have hz : ¬ ((i : Int) < (c.length : Int)) := by omega
        rw [List.drop_eq_nil_of_le hge, litL] at hv
        repeat' (first
          | refine awp_seq_k fun K hK => ?_
          | ((first | refine awp_region_k (by kernel_rfl) fun R hR => ?_ | refine awp_draw mixed (by kernel_rfl) (by kernel_rfl) fun R hR => ?_); simp only [go_sem, s1, s5, hz])
          | ((first | (refine hR _ ?_; clear hR R) | refine awp_skip ?_ | refine awp_exit ?_ | refine awp_ret ?_); try simp only [thenA, inBlockA, reduceIte, reduceCtorEq, Nat.reduceEqDiff, if_false, if_true])
          | ((first | refine hK _ ?_ | (clear hK K; first | refine hK _ ?_ | (clear hK K; first | refine hK _ ?_ | (clear hK K; first | refine hK _ ?_ | (clear hK K; refine hK _ ?_))))); clear hK K)
          | refine awp_true rfl rfl ?_
          | refine awp_false rfl rfl ?_
          | refine awp_block ?_
          | refine And.intro (by first | omega | exact trivial | rfl | assumption | (apply map_sz; intro a; simp only [go_sem]; done) | ((and_intros <;> first | omega | exact trivial | rfl | assumption | (apply map_sz; intro a; simp only [go_sem]; done) | fail); done) | fail) ?_
          | fail)
        first | refine ret_pure (by simp only [Try.results83, resOkL, resOk, Try.ntmps83, List.toList_toArray]; first | decide | (simp only [go_sem]; done) | (simp only [go_sem]; and_intros <;> first | omega | rfl | decide)) ?_ (by repeat (first | exact Fr.rfl' _ _ | assumption | refine Fr.updk ?_ (by omega) _)) | refine ret_ro (by simp only [Try.results83, resOkL, resOk, Try.ntmps83, List.toList_toArray]; first | decide | (simp only [go_sem]; done) | (simp only [go_sem]; and_intros <;> first | omega | rfl | decide)) ?_ (by repeat (first | exact Fr.rfl' _ _ | assumption | refine Fr.updk ?_ (by omega) _))
        simp only [resA, resV, Try.results83, go_sem]
        all_goals try (first | exact Co.t2 (.dat rfl) (.dat rfl) | exact Co.t3 (.dat rfl) (.dat rfl) (.dat rfl))
        exact co_i hv
theorem clsL_at {g : List Int} {l : List (List Lt)} {i : Nat} (hi : i < l.length) : clsL g (l.drop i) = if clOk g l[i] ≠ 0 then clOk g l[i] else clsL g (l.drop (i + 1)) := by
  rw [List.drop_eq_getElem_cons hi, clsL]
set_option maxRecDepth 20000 in
theorem clCheck_tri (g : List Int) (l : List (List Lt)) (hl : l.length ≤ 4000000) (hc : ∀ c ∈ l, c.length ≤ 4000000) : Tri Try.prog 36 [.d (sgDV g), .d (.sl (l.map fun c => clDV c))] (pure' (iA (clsOk g l))) := by
  refine tri_enter Try.func36 rfl Try.ntmps36 (by simp only [List.length_cons, List.length_nil]; omega) fun w0 h0 k hrd hwr => ?_
  unfold clsOk
  cases hs : sigOk g == 0 with
  | false =>
    have hs' : (sigOk g != 0) = true := by simpa using hs
    have hs2 : sigOk g ≠ 0 := by simpa using hs
    rw [if_pos hs2]
    repeat' (first
      | refine awp_seq_k fun K hK => ?_
      | ((first | refine awp_region_k (by kernel_rfl) fun R hR => ?_ | refine awp_draw mixed (by kernel_rfl) (by kernel_rfl) fun R hR => ?_); simp only [go_sem, hs'])
      | ((first | (refine hR _ ?_; clear hR R) | refine awp_skip ?_ | refine awp_exit ?_ | refine awp_ret ?_); try simp only [thenA, inBlockA, reduceIte, reduceCtorEq, Nat.reduceEqDiff, if_false, if_true])
      | ((first | refine hK _ ?_ | (clear hK K; first | refine hK _ ?_ | (clear hK K; first | refine hK _ ?_ | (clear hK K; first | refine hK _ ?_ | (clear hK K; refine hK _ ?_))))); clear hK K)
      | refine awp_true rfl rfl ?_
      | refine awp_false rfl rfl ?_
      | refine awp_block ?_
      | ((first | refine CallK.pure (enter53) (signature_tri g) ?_ ?_ | refine CallD.pure (enter53) (signature_tri g) ?_ ?_); (focus first | ((repeat (first | exact trivial | refine ⟨(by first | exact Or.inl rfl | exact Or.inr rfl), ?_⟩)); done) | (simp only [coL, AV.dat, true_or, or_true, AV.d.injEq, go_sem]; done)); simp only [go_sem, hs'])
      | refine And.intro (by first | omega | exact trivial | rfl | assumption | (apply map_sz; intro a; simp only [go_sem]; done) | ((and_intros <;> first | omega | exact trivial | rfl | assumption | (apply map_sz; intro a; simp only [go_sem]; done) | fail); done) | fail) ?_
      | fail)
    first | refine ret_pure (by simp only [Try.results36, resOkL, resOk, Try.ntmps36, List.toList_toArray]; first | decide | (simp only [go_sem]; done) | (simp only [go_sem]; and_intros <;> first | omega | rfl | decide)) ?_ (by repeat (first | exact Fr.rfl' _ _ | assumption | refine Fr.updk ?_ (by omega) _)) | refine ret_ro (by simp only [Try.results36, resOkL, resOk, Try.ntmps36, List.toList_toArray]; first | decide | (simp only [go_sem]; done) | (simp only [go_sem]; and_intros <;> first | omega | rfl | decide)) ?_ (by repeat (first | exact Fr.rfl' _ _ | assumption | refine Fr.updk ?_ (by omega) _))
    simp only [resA, resV, Try.results36, go_sem]
    all_goals try (first | exact Co.t2 (.dat rfl) (.dat rfl) | exact Co.t3 (.dat rfl) (.dat rfl) (.dat rfl))
    exact .dat rfl
  | true =>
    have hs2 : sigOk g = 0 := by simpa using hs
    rw [if_neg (by simp [hs2])]
    cases h8 : decide ((l.length : Int) > 60) with
    | true =>
      have h8' : l.length > 60 := by simp at h8; omega
      rw [if_pos h8']
      repeat' (first
        | refine awp_seq_k fun K hK => ?_
        | ((first | refine awp_region_k (by kernel_rfl) fun R hR => ?_ | refine awp_draw mixed (by kernel_rfl) (by kernel_rfl) fun R hR => ?_); simp only [go_sem, hs2, h8, bne_self_eq_false])
        | ((first | (refine hR _ ?_; clear hR R) | refine awp_skip ?_ | refine awp_exit ?_ | refine awp_ret ?_); try simp only [thenA, inBlockA, reduceIte, reduceCtorEq, Nat.reduceEqDiff, if_false, if_true])
        | ((first | refine hK _ ?_ | (clear hK K; first | refine hK _ ?_ | (clear hK K; first | refine hK _ ?_ | (clear hK K; first | refine hK _ ?_ | (clear hK K; refine hK _ ?_))))); clear hK K)
        | refine awp_true rfl rfl ?_
        | refine awp_false rfl rfl ?_
        | refine awp_block ?_
        | ((first | refine CallK.pure (enter53) (signature_tri g) ?_ ?_ | refine CallD.pure (enter53) (signature_tri g) ?_ ?_); (focus first | ((repeat (first | exact trivial | refine ⟨(by first | exact Or.inl rfl | exact Or.inr rfl), ?_⟩)); done) | (simp only [coL, AV.dat, true_or, or_true, AV.d.injEq, go_sem]; done)); simp only [go_sem, hs2, h8, bne_self_eq_false])
        | refine And.intro (by first | omega | exact trivial | rfl | assumption | (apply map_sz; intro a; simp only [go_sem]; done) | ((and_intros <;> first | omega | exact trivial | rfl | assumption | (apply map_sz; intro a; simp only [go_sem]; done) | fail); done) | fail) ?_
        | fail)
      first | refine ret_pure (by simp only [Try.results36, resOkL, resOk, Try.ntmps36, List.toList_toArray]; first | decide | (simp only [go_sem]; done) | (simp only [go_sem]; and_intros <;> first | omega | rfl | decide)) ?_ (by repeat (first | exact Fr.rfl' _ _ | assumption | refine Fr.updk ?_ (by omega) _)) | refine ret_ro (by simp only [Try.results36, resOkL, resOk, Try.ntmps36, List.toList_toArray]; first | decide | (simp only [go_sem]; done) | (simp only [go_sem]; and_intros <;> first | omega | rfl | decide)) ?_ (by repeat (first | exact Fr.rfl' _ _ | assumption | refine Fr.updk ?_ (by omega) _))
      simp only [resA, resV, Try.results36, go_sem]
      all_goals try (first | exact Co.t2 (.dat rfl) (.dat rfl) | exact Co.t3 (.dat rfl) (.dat rfl) (.dat rfl))
      exact .dat rfl
    | false =>
      have h8' : ¬ l.length > 60 := by simp at h8; omega
      rw [if_neg h8']
      repeat' (first
        | refine awp_seq_k fun K hK => ?_
        | ((first | refine awp_region_k (by kernel_rfl) fun R hR => ?_ | refine awp_draw mixed (by kernel_rfl) (by kernel_rfl) fun R hR => ?_); simp only [go_sem, hs2, h8, bne_self_eq_false])
        | ((first | (refine hR _ ?_; clear hR R) | refine awp_skip ?_ | refine awp_exit ?_ | refine awp_ret ?_); try simp only [thenA, inBlockA, reduceIte, reduceCtorEq, Nat.reduceEqDiff, if_false, if_true])
        | ((first | refine hK _ ?_ | (clear hK K; first | refine hK _ ?_ | (clear hK K; first | refine hK _ ?_ | (clear hK K; first | refine hK _ ?_ | (clear hK K; refine hK _ ?_))))); clear hK K)
        | refine awp_true rfl rfl ?_
        | refine awp_false rfl rfl ?_
        | refine awp_block ?_
        | ((first | refine CallK.pure (enter53) (signature_tri g) ?_ ?_ | refine CallD.pure (enter53) (signature_tri g) ?_ ?_); (focus first | ((repeat (first | exact trivial | refine ⟨(by first | exact Or.inl rfl | exact Or.inr rfl), ?_⟩)); done) | (simp only [coL, AV.dat, true_or, or_true, AV.d.injEq, go_sem]; done)); simp only [go_sem, hs2, h8, bne_self_eq_false])
        | refine And.intro (by first | omega | exact trivial | rfl | assumption | (apply map_sz; intro a; simp only [go_sem]; done) | ((and_intros <;> first | omega | exact trivial | rfl | assumption | (apply map_sz; intro a; simp only [go_sem]; done) | fail); done) | fail) ?_
        | fail)
      refine awp_loop (fun σ => ∃ i : Nat, σ.t 2 = .ptr (k, 0) 0 ∧ σ.t 17 = .d (.sl (l.map fun c => clDV c)) ∧ σ.t 18 = iA l.length ∧ σ.t 19 = iA i ∧ σ.h (k, 0) = some (.cells 24 [.d (.sl (g.map iD))]) ∧ Fr k h0 σ.h ∧ k < σ.k ∧ i ≤ l.length ∧ clsL g (l.drop i) = clsL g l) (fun σ => l.length - (intOf' (σ.t 19)).toNat) ?_ ?_
      · refine ⟨0, ?_⟩
        simp only [go_sem, List.drop_zero]
        and_intros; all_goals try (first | rfl | omega | assumption | ((repeat (first | exact Fr.rfl' _ _ | assumption | refine Fr.updk ?_ (by omega) _)); done))
      · rintro σ ⟨i, s2, s17, s18, s19, sh, hF, hk, hi, hv⟩
        have hne := ltne hk
        rcases Nat.lt_or_ge i l.length with hlt | hge
        · have hz : (i : Int) < (l.length : Int) := by omega
          have e1 : (l.map fun c => clDV c).getD i default = clDV l[i] := nth_map (fun c => clDV c) hlt _
          rw [clsL_at hlt] at hv
          cases ha : clOk g l[i] == 0 with
          | true =>
            have ha' : clOk g l[i] = 0 := by simpa using ha
            rw [if_neg (by simp [ha'])] at hv
            repeat' (first
              | refine awp_seq_k fun K hK => ?_
              | ((first | refine awp_region_k (by kernel_rfl) fun R hR => ?_ | refine awp_draw mixed (by kernel_rfl) (by kernel_rfl) fun R hR => ?_); simp only [go_sem, s2, s17, s18, s19, sh, hz, e1, hne, ha', bne_self_eq_false, Int.toNat_natCast])
              | ((first | (refine hR _ ?_; clear hR R) | refine awp_skip ?_ | refine awp_exit ?_ | refine awp_ret ?_); try simp only [thenA, inBlockA, reduceIte, reduceCtorEq, Nat.reduceEqDiff, if_false, if_true])
              | ((first | refine hK _ ?_ | (clear hK K; first | refine hK _ ?_ | (clear hK K; first | refine hK _ ?_ | (clear hK K; first | refine hK _ ?_ | (clear hK K; refine hK _ ?_))))); clear hK K)
              | refine awp_true rfl rfl ?_
              | refine awp_false rfl rfl ?_
              | refine awp_block ?_
              | ((first | refine CallK.pure (enter95) (right_tri g l[i] (hc _ (List.getElem_mem hlt))) ?_ ?_ | refine CallD.pure (enter95) (right_tri g l[i] (hc _ (List.getElem_mem hlt))) ?_ ?_); (focus first | ((repeat (first | exact trivial | refine ⟨(by first | exact Or.inl rfl | exact Or.inr rfl), ?_⟩)); done) | (simp only [coL, AV.dat, true_or, or_true, AV.d.injEq, go_sem]; done)); simp only [go_sem, s2, s17, s18, s19, sh, hz, e1, hne, ha', bne_self_eq_false, Int.toNat_natCast])
              | refine And.intro (by first | omega | exact trivial | rfl | assumption | (apply map_sz; intro a; simp only [go_sem]; done) | ((and_intros <;> first | omega | exact trivial | rfl | assumption | (apply map_sz; intro a; simp only [go_sem]; done) | fail); done) | fail) ?_
              | fail)
            refine ⟨⟨i + 1, ?_⟩, ?_⟩
            rotate_left
            · simp only [go_sem, s2, s17, s18, s19, sh]; omega
            simp only [go_sem, s2, s17, s18, s19, sh]
            and_intros; all_goals try (first | rfl | omega | assumption | ((repeat (first | exact Fr.rfl' _ _ | assumption | refine Fr.updk ?_ (by omega) _)); done))
          | false =>
            have ha' : (clOk g l[i] != 0) = true := by simpa using ha
            have ha2 : clOk g l[i] ≠ 0 := by simpa using ha
            rw [if_pos ha2] at hv
            repeat' (first
              | refine awp_seq_k fun K hK => ?_
              | ((first | refine awp_region_k (by kernel_rfl) fun R hR => ?_ | refine awp_draw mixed (by kernel_rfl) (by kernel_rfl) fun R hR => ?_); simp only [go_sem, s2, s17, s18, s19, sh, hz, e1, hne, ha', Int.toNat_natCast])
              | ((first | (refine hR _ ?_; clear hR R) | refine awp_skip ?_ | refine awp_exit ?_ | refine awp_ret ?_); try simp only [thenA, inBlockA, reduceIte, reduceCtorEq, Nat.reduceEqDiff, if_false, if_true])
              | ((first | refine hK _ ?_ | (clear hK K; first | refine hK _ ?_ | (clear hK K; first | refine hK _ ?_ | (clear hK K; first | refine hK _ ?_ | (clear hK K; refine hK _ ?_))))); clear hK K)
              | refine awp_true rfl rfl ?_
              | refine awp_false rfl rfl ?_
              | refine awp_block ?_
              | ((first | refine CallK.pure (enter95) (right_tri g l[i] (hc _ (List.getElem_mem hlt))) ?_ ?_ | refine CallD.pure (enter95) (right_tri g l[i] (hc _ (List.getElem_mem hlt))) ?_ ?_); (focus first | ((repeat (first | exact trivial | refine ⟨(by first | exact Or.inl rfl | exact Or.inr rfl), ?_⟩)); done) | (simp only [coL, AV.dat, true_or, or_true, AV.d.injEq, go_sem]; done)); simp only [go_sem, s2, s17, s18, s19, sh, hz, e1, hne, ha', Int.toNat_natCast])
              | refine And.intro (by first | omega | exact trivial | rfl | assumption | (apply map_sz; intro a; simp only [go_sem]; done) | ((and_intros <;> first | omega | exact trivial | rfl | assumption | (apply map_sz; intro a; simp only [go_sem]; done) | fail); done) | fail) ?_
              | fail)
            first | refine ret_pure (by simp only [Try.results36, resOkL, resOk, Try.ntmps36, List.toList_toArray]; first | decide | (simp only [go_sem]; done) | (simp only [go_sem]; and_intros <;> first | omega | rfl | decide)) ?_ (by repeat (first | exact Fr.rfl' _ _ | assumption | refine Fr.updk ?_ (by omega) _)) | refine ret_ro (by simp only [Try.results36, resOkL, resOk, Try.ntmps36, List.toList_toArray]; first | decide | (simp only [go_sem]; done) | (simp only [go_sem]; and_intros <;> first | omega | rfl | decide)) ?_ (by repeat (first | exact Fr.rfl' _ _ | assumption | refine Fr.updk ?_ (by omega) _))
            simp only [resA, resV, Try.results36, go_sem]
            all_goals try (first | exact Co.t2 (.dat rfl) (.dat rfl) | exact Co.t3 (.dat rfl) (.dat rfl) (.dat rfl))
            exact co_i hv
        · have hz : ¬ ((i : Int) < (l.length : Int)) := by omega
          rw [List.drop_eq_nil_of_le hge, clsL] at hv
          repeat' (first
            | refine awp_seq_k fun K hK => ?_
            | ((first | refine awp_region_k (by kernel_rfl) fun R hR => ?_ | refine awp_draw mixed (by kernel_rfl) (by kernel_rfl) fun R hR => ?_); simp only [go_sem, s17, s18, s19, hz])
            | ((first | (refine hR _ ?_; clear hR R) | refine awp_skip ?_ | refine awp_exit ?_ | refine awp_ret ?_); try simp only [thenA, inBlockA, reduceIte, reduceCtorEq, Nat.reduceEqDiff, if_false, if_true])
            | ((first | refine hK _ ?_ | (clear hK K; first | refine hK _ ?_ | (clear hK K; first | refine hK _ ?_ | (clear hK K; first | refine hK _ ?_ | (clear hK K; refine hK _ ?_))))); clear hK K)
            | refine awp_true rfl rfl ?_
            | refine awp_false rfl rfl ?_
            | refine awp_block ?_
            | refine And.intro (by first | omega | exact trivial | rfl | assumption | (apply map_sz; intro a; simp only [go_sem]; done) | ((and_intros <;> first | omega | exact trivial | rfl | assumption | (apply map_sz; intro a; simp only [go_sem]; done) | fail); done) | fail) ?_
            | fail)
          first | refine ret_pure (by simp only [Try.results36, resOkL, resOk, Try.ntmps36, List.toList_toArray]; first | decide | (simp only [go_sem]; done) | (simp only [go_sem]; and_intros <;> first | omega | rfl | decide)) ?_ (by repeat (first | exact Fr.rfl' _ _ | assumption | refine Fr.updk ?_ (by omega) _)) | refine ret_ro (by simp only [Try.results36, resOkL, resOk, Try.ntmps36, List.toList_toArray]; first | decide | (simp only [go_sem]; done) | (simp only [go_sem]; and_intros <;> first | omega | rfl | decide)) ?_ (by repeat (first | exact Fr.rfl' _ _ | assumption | refine Fr.updk ?_ (by omega) _))
          simp only [resA, resV, Try.results36, go_sem]
          all_goals try (first | exact Co.t2 (.dat rfl) (.dat rfl) | exact Co.t3 (.dat rfl) (.dat rfl) (.dat rfl))
          exact co_i hv
set_option maxRecDepth 20000 in
theorem checkClauses_loop {w0 : World} {g : List Int} {l : List (List Lt)} (hl : l.length ≤ 4000000) (hc : ∀ c ∈ l, c.length ≤ 4000000) {v : Int} {h0 : Heap} {k : Nat} {fn : Func} (hfn : fn = Try.f24) (σ : St) (e : Int) (s2 : σ.t 2 = .ptr (k, 0) 0) (s1 : σ.t 1 = .d (.sl (l.map fun c => clDV c))) (s5 : σ.t 5 = iA e)
    (sh : σ.h (k, 0) = some (.cells 24 [.d (.sl (g.map iD))])) (hF : Fr k h0 σ.h) (hk : k < σ.k) (he : v = if e ≠ 0 then e else clsL g l) {N : Nat} {c : Code} (hN : (Try.f24).ntmps = N) (hc : bodyAt (Try.f24) [true,true,true] = some c) : awp Try.prog w0 N c (retQ Try.prog fn (pure' (iA v)) h0 k) σ := by
  subst hfn
  obtain rfl := (Try.ntmps24).symm.trans hN; obtain rfl := Option.some.inj (show some _ = some c from hc); clear hN hc
  repeat' (first
    | refine awp_seq_k fun K hK => ?_
    | ((first | refine awp_region_k (by kernel_rfl) fun R hR => ?_ | refine awp_draw mixed (by kernel_rfl) (by kernel_rfl) fun R hR => ?_); simp only [go_sem, s2, s1, s5, sh])
    | ((first | (refine hR _ ?_; clear hR R) | refine awp_skip ?_ | refine awp_exit ?_ | refine awp_ret ?_); try simp only [thenA, inBlockA, reduceIte, reduceCtorEq, Nat.reduceEqDiff, if_false, if_true])
    | ((first | refine hK _ ?_ | (clear hK K; first | refine hK _ ?_ | (clear hK K; first | refine hK _ ?_ | (clear hK K; first | refine hK _ ?_ | (clear hK K; refine hK _ ?_))))); clear hK K)
    | refine awp_true rfl rfl ?_
    | refine awp_false rfl rfl ?_
    | refine awp_block ?_
    | refine And.intro (by first | omega | exact trivial | rfl | assumption | (apply map_sz; intro a; simp only [go_sem]; done) | ((and_intros <;> first | omega | exact trivial | rfl | assumption | (apply map_sz; intro a; simp only [go_sem]; done) | fail); done) | fail) ?_
    | fail)
  refine awp_loop (fun σ => ∃ (i : Nat) (e : Int), σ.t 2 = .ptr (k, 0) 0 ∧ σ.t 1 = .d (.sl (l.map fun c => clDV c)) ∧ σ.t 5 = iA e ∧ σ.t 6 = iA i ∧ σ.h (k, 0) = some (.cells 24 [.d (.sl (g.map iD))]) ∧ Fr k h0 σ.h ∧ k < σ.k ∧ i ≤ l.length ∧ (v = if e ≠ 0 then e else clsL g (l.drop i))) (fun σ => l.length - (intOf' (σ.t 6)).toNat) ?_ ?_
  · refine ⟨0, e, ?_⟩
    simp only [go_sem, s2, s1, s5, sh, List.drop_zero]
    and_intros; all_goals try (first | rfl | omega | assumption | ((repeat (first | exact Fr.rfl' _ _ | assumption | refine Fr.updk ?_ (by omega) _)); done))
  · rintro σ ⟨i, e, s2, s1, s5, s6, sh, hF, hk, hi, hv⟩
    have hne := ltne hk
    rcases Nat.lt_or_ge i l.length with hlt | hge
    · have hz : (i : Int) < (l.length : Int) := by omega
      have e1 : (l.map fun c => clDV c).getD i default = clDV l[i] := nth_map (fun c => clDV c) hlt _
      cases ha : e == 0 with
      | true =>
        have ha' : e = 0 := by simpa using ha
        subst ha'
        rw [if_neg (by simp), clsL_at hlt] at hv
        repeat' (first
          | refine awp_seq_k fun K hK => ?_
          | ((first | refine awp_region_k (by kernel_rfl) fun R hR => ?_ | refine awp_draw mixed (by kernel_rfl) (by kernel_rfl) fun R hR => ?_); simp only [go_sem, s2, s1, s5, s6, sh, hz, e1, hne, beq_self_eq_true, Int.toNat_natCast])
          | ((first | (refine hR _ ?_; clear hR R) | refine awp_skip ?_ | refine awp_exit ?_ | refine awp_ret ?_); try simp only [thenA, inBlockA, reduceIte, reduceCtorEq, Nat.reduceEqDiff, if_false, if_true])
          | ((first | refine hK _ ?_ | (clear hK K; first | refine hK _ ?_ | (clear hK K; first | refine hK _ ?_ | (clear hK K; first | refine hK _ ?_ | (clear hK K; refine hK _ ?_))))); clear hK K)
          | refine awp_true rfl rfl ?_
          | refine awp_false rfl rfl ?_
          | refine awp_block ?_
          | ((first | refine CallK.pure (enter83) (checkClause_tri g l[i] (hc _ (List.getElem_mem hlt))) ?_ ?_ | refine CallD.pure (enter83) (checkClause_tri g l[i] (hc _ (List.getElem_mem hlt))) ?_ ?_); (focus first | ((repeat (first | exact trivial | refine ⟨(by first | exact Or.inl rfl | exact Or.inr rfl), ?_⟩)); done) | (simp only [coL, AV.dat, true_or, or_true, AV.d.injEq, go_sem]; done)); simp only [go_sem, s2, s1, s5, s6, sh, hz, e1, hne, beq_self_eq_true, Int.toNat_natCast])
          | refine And.intro (by first | omega | exact trivial | rfl | assumption | (apply map_sz; intro a; simp only [go_sem]; done) | ((and_intros <;> first | omega | exact trivial | rfl | assumption | (apply map_sz; intro a; simp only [go_sem]; done) | fail); done) | fail) ?_
          | fail)
        refine ⟨⟨i + 1, clOk g l[i], ?_⟩, ?_⟩
        rotate_left
        · simp only [go_sem, s2, s1, s5, s6, sh]; omega
        simp only [go_sem, s2, s1, s5, s6, sh]
        and_intros; all_goals try (first | rfl | omega | assumption | ((repeat (first | exact Fr.rfl' _ _ | assumption | refine Fr.updk ?_ (by omega) _)); done))
      | false =>
        have ha' : e ≠ 0 := by simpa using ha
        rw [if_pos ha'] at hv
        repeat' (first
          | refine awp_seq_k fun K hK => ?_
          | ((first | refine awp_region_k (by kernel_rfl) fun R hR => ?_ | refine awp_draw mixed (by kernel_rfl) (by kernel_rfl) fun R hR => ?_); simp only [go_sem, s2, s1, s5, s6, sh, hz, e1, hne, ha, Int.toNat_natCast])
          | ((first | (refine hR _ ?_; clear hR R) | refine awp_skip ?_ | refine awp_exit ?_ | refine awp_ret ?_); try simp only [thenA, inBlockA, reduceIte, reduceCtorEq, Nat.reduceEqDiff, if_false, if_true])
          | ((first | refine hK _ ?_ | (clear hK K; first | refine hK _ ?_ | (clear hK K; first | refine hK _ ?_ | (clear hK K; first | refine hK _ ?_ | (clear hK K; refine hK _ ?_))))); clear hK K)
          | refine awp_true rfl rfl ?_
          | refine awp_false rfl rfl ?_
          | refine awp_block ?_
          | refine And.intro (by first | omega | exact trivial | rfl | assumption | (apply map_sz; intro a; simp only [go_sem]; done) | ((and_intros <;> first | omega | exact trivial | rfl | assumption | (apply map_sz; intro a; simp only [go_sem]; done) | fail); done) | fail) ?_
          | fail)
        first | refine ret_pure (by simp only [Try.results24, resOkL, resOk, Try.ntmps24, List.toList_toArray]; first | decide | (simp only [go_sem]; done) | (simp only [go_sem]; and_intros <;> first | omega | rfl | decide)) ?_ (by repeat (first | exact Fr.rfl' _ _ | assumption | refine Fr.updk ?_ (by omega) _)) | refine ret_ro (by simp only [Try.results24, resOkL, resOk, Try.ntmps24, List.toList_toArray]; first | decide | (simp only [go_sem]; done) | (simp only [go_sem]; and_intros <;> first | omega | rfl | decide)) ?_ (by repeat (first | exact Fr.rfl' _ _ | assumption | refine Fr.updk ?_ (by omega) _))
        simp only [resA, resV, Try.results24, go_sem]
        all_goals try (first | exact Co.t2 (.dat rfl) (.dat rfl) | exact Co.t3 (.dat rfl) (.dat rfl) (.dat rfl))
        exact co_i hv.symm
    · have hz : ¬ ((i : Int) < (l.length : Int)) := by omega
      rw [List.drop_eq_nil_of_le hge, clsL] at hv
      have hv' : v = e := by
        by_cases h : e = 0
        · rw [hv, if_neg (by simp [h]), h]
        · rw [hv, if_pos h]
      repeat' (first
        | refine awp_seq_k fun K hK => ?_
        | ((first | refine awp_region_k (by kernel_rfl) fun R hR => ?_ | refine awp_draw mixed (by kernel_rfl) (by kernel_rfl) fun R hR => ?_); simp only [go_sem, s2, s1, s5, s6, sh, hz])
        | ((first | (refine hR _ ?_; clear hR R) | refine awp_skip ?_ | refine awp_exit ?_ | refine awp_ret ?_); try simp only [thenA, inBlockA, reduceIte, reduceCtorEq, Nat.reduceEqDiff, if_false, if_true])
        | ((first | refine hK _ ?_ | (clear hK K; first | refine hK _ ?_ | (clear hK K; first | refine hK _ ?_ | (clear hK K; first | refine hK _ ?_ | (clear hK K; refine hK _ ?_))))); clear hK K)
        | refine awp_true rfl rfl ?_
        | refine awp_false rfl rfl ?_
        | refine awp_block ?_
        | refine And.intro (by first | omega | exact trivial | rfl | assumption | (apply map_sz; intro a; simp only [go_sem]; done) | ((and_intros <;> first | omega | exact trivial | rfl | assumption | (apply map_sz; intro a; simp only [go_sem]; done) | fail); done) | fail) ?_
        | fail)
      first | refine ret_pure (by simp only [Try.results24, resOkL, resOk, Try.ntmps24, List.toList_toArray]; first | decide | (simp only [go_sem]; done) | (simp only [go_sem]; and_intros <;> first | omega | rfl | decide)) ?_ (by repeat (first | exact Fr.rfl' _ _ | assumption | refine Fr.updk ?_ (by omega) _)) | refine ret_ro (by simp only [Try.results24, resOkL, resOk, Try.ntmps24, List.toList_toArray]; first | decide | (simp only [go_sem]; done) | (simp only [go_sem]; and_intros <;> first | omega | rfl | decide)) ?_ (by repeat (first | exact Fr.rfl' _ _ | assumption | refine Fr.updk ?_ (by omega) _))
      simp only [resA, resV, Try.results24, go_sem]
      all_goals try (first | exact Co.t2 (.dat rfl) (.dat rfl) | exact Co.t3 (.dat rfl) (.dat rfl) (.dat rfl))
      exact co_i hv'.symm
set_option maxRecDepth 20000 in
theorem checkClauses_tri (g : List Int) (l : List (List Lt)) (hl : l.length ≤ 4000000) (hc : ∀ c ∈ l, c.length ≤ 4000000) : Tri Try.prog 24 [.d (sgDV g), .d (.sl (l.map fun c => clDV c))] (pure' (iA (clsOk g l))) := by
  refine tri_enter Try.func24 rfl Try.ntmps24 (by simp only [List.length_cons, List.length_nil]; omega) fun w0 h0 k hrd hwr => ?_
  have hfin : ∀ e0 : Int, e0 = (if sigOk g ≠ 0 then sigOk g else if l.length > 60 then 2 else 0) → clsOk g l = if e0 ≠ 0 then e0 else clsL g l := by
    intro e0 h; rw [h]; unfold clsOk
    by_cases h1 : sigOk g = 0
    · by_cases h2 : l.length > 60
      · simp [h1, h2]
      · simp [h1, h2]
    · simp [h1]
  cases hs : sigOk g == 0 with
  | false =>
    have hs2 : sigOk g ≠ 0 := by simpa using hs
    repeat' (first
      | refine checkClauses_loop hl hc rfl _ (sigOk g) ?_ ?_ ?_ ?_ (by repeat (first | exact Fr.rfl' _ _ | assumption | refine Fr.updk ?_ (by omega) _)) ?_ (hfin _ ?_) rfl rfl
      | refine awp_seq_k fun K hK => ?_
      | ((first | refine awp_region_k (by kernel_rfl) fun R hR => ?_ | refine awp_draw mixed (by kernel_rfl) (by kernel_rfl) fun R hR => ?_); simp only [go_sem, hs])
      | ((first | (refine hR _ ?_; clear hR R) | refine awp_skip ?_ | refine awp_exit ?_ | refine awp_ret ?_); try simp only [thenA, inBlockA, reduceIte, reduceCtorEq, Nat.reduceEqDiff, if_false, if_true])
      | ((first | refine hK _ ?_ | (clear hK K; first | refine hK _ ?_ | (clear hK K; first | refine hK _ ?_ | (clear hK K; first | refine hK _ ?_ | (clear hK K; refine hK _ ?_))))); clear hK K)
      | refine awp_true rfl rfl ?_
      | refine awp_false rfl rfl ?_
      | refine awp_block ?_
      | ((first | refine CallK.pure (enter54) (checkSig_tri g) ?_ ?_ | refine CallD.pure (enter54) (checkSig_tri g) ?_ ?_); (focus first | ((repeat (first | exact trivial | refine ⟨(by first | exact Or.inl rfl | exact Or.inr rfl), ?_⟩)); done) | (simp only [coL, AV.dat, true_or, or_true, AV.d.injEq, go_sem]; done)); simp only [go_sem, hs])
      | refine And.intro (by first | omega | exact trivial | rfl | assumption | (apply map_sz; intro a; simp only [go_sem]; done) | ((and_intros <;> first | omega | exact trivial | rfl | assumption | (apply map_sz; intro a; simp only [go_sem]; done) | fail); done) | fail) ?_
      | fail)
    all_goals try simp only [go_sem]
    all_goals try omega
  | true =>
    have hs2 : sigOk g = 0 := by simpa using hs
    cases h8 : decide ((l.length : Int) > 60) with
    | true =>
      have h8' : l.length > 60 := by simp at h8; omega
      repeat' (first
        | refine checkClauses_loop hl hc rfl _ 2 ?_ ?_ ?_ ?_ (by repeat (first | exact Fr.rfl' _ _ | assumption | refine Fr.updk ?_ (by omega) _)) ?_ (hfin _ ?_) rfl rfl
        | refine awp_seq_k fun K hK => ?_
        | ((first | refine awp_region_k (by kernel_rfl) fun R hR => ?_ | refine awp_draw mixed (by kernel_rfl) (by kernel_rfl) fun R hR => ?_); simp only [go_sem, hs2, h8, beq_self_eq_true])
        | ((first | (refine hR _ ?_; clear hR R) | refine awp_skip ?_ | refine awp_exit ?_ | refine awp_ret ?_); try simp only [thenA, inBlockA, reduceIte, reduceCtorEq, Nat.reduceEqDiff, if_false, if_true])
        | ((first | refine hK _ ?_ | (clear hK K; first | refine hK _ ?_ | (clear hK K; first | refine hK _ ?_ | (clear hK K; first | refine hK _ ?_ | (clear hK K; refine hK _ ?_))))); clear hK K)
        | refine awp_true rfl rfl ?_
        | refine awp_false rfl rfl ?_
        | refine awp_block ?_
        | ((first | refine CallK.pure (enter54) (checkSig_tri g) ?_ ?_ | refine CallD.pure (enter54) (checkSig_tri g) ?_ ?_); (focus first | ((repeat (first | exact trivial | refine ⟨(by first | exact Or.inl rfl | exact Or.inr rfl), ?_⟩)); done) | (simp only [coL, AV.dat, true_or, or_true, AV.d.injEq, go_sem]; done)); simp only [go_sem, hs2, h8, beq_self_eq_true])
        | refine And.intro (by first | omega | exact trivial | rfl | assumption | (apply map_sz; intro a; simp only [go_sem]; done) | ((and_intros <;> first | omega | exact trivial | rfl | assumption | (apply map_sz; intro a; simp only [go_sem]; done) | fail); done) | fail) ?_
        | fail)
      all_goals try simp only [go_sem]
      all_goals try omega
    | false =>
      have h8' : ¬ l.length > 60 := by simp at h8; omega
      repeat' (first
        | refine checkClauses_loop hl hc rfl _ 0 ?_ ?_ ?_ ?_ (by repeat (first | exact Fr.rfl' _ _ | assumption | refine Fr.updk ?_ (by omega) _)) ?_ (hfin _ ?_) rfl rfl
        | refine awp_seq_k fun K hK => ?_
        | ((first | refine awp_region_k (by kernel_rfl) fun R hR => ?_ | refine awp_draw mixed (by kernel_rfl) (by kernel_rfl) fun R hR => ?_); simp only [go_sem, hs2, h8, beq_self_eq_true])
        | ((first | (refine hR _ ?_; clear hR R) | refine awp_skip ?_ | refine awp_exit ?_ | refine awp_ret ?_); try simp only [thenA, inBlockA, reduceIte, reduceCtorEq, Nat.reduceEqDiff, if_false, if_true])
        | ((first | refine hK _ ?_ | (clear hK K; first | refine hK _ ?_ | (clear hK K; first | refine hK _ ?_ | (clear hK K; first | refine hK _ ?_ | (clear hK K; refine hK _ ?_))))); clear hK K)
        | refine awp_true rfl rfl ?_
        | refine awp_false rfl rfl ?_
        | refine awp_block ?_
        | ((first | refine CallK.pure (enter54) (checkSig_tri g) ?_ ?_ | refine CallD.pure (enter54) (checkSig_tri g) ?_ ?_); (focus first | ((repeat (first | exact trivial | refine ⟨(by first | exact Or.inl rfl | exact Or.inr rfl), ?_⟩)); done) | (simp only [coL, AV.dat, true_or, or_true, AV.d.injEq, go_sem]; done)); simp only [go_sem, hs2, h8, beq_self_eq_true])
        | refine And.intro (by first | omega | exact trivial | rfl | assumption | (apply map_sz; intro a; simp only [go_sem]; done) | ((and_intros <;> first | omega | exact trivial | rfl | assumption | (apply map_sz; intro a; simp only [go_sem]; done) | fail); done) | fail) ?_
        | fail)
      all_goals try simp only [go_sem]
      all_goals try omega
end Go.Proofs.Ytmeekpinkfpnhaa

namespace Go.Proofs.Ytmeekpinkfpnhaa
open Go.RowKit
set_option linter.unusedSimpArgs false
set_option linter.unusedSectionVars false

theorem parts_len (t : Tm) : (parts t).length = t.size := (size_parts t).symm
set_option maxHeartbeats 1000000 in
set_option maxRecDepth 20000 in
theorem firstVars_new (l : List Tm) (hl : Tm.size.sizes l ≤ 4000000) (n' : Nm) : Tri Try.prog 22 [.d (.sl (l.map tmDV))] (newEff 3 n' ((firstVars l).map iD)) := by
  refine tri_enter Try.func22 rfl Try.ntmps22 (by simp only [List.length_cons, List.length_nil]; omega) fun w0 h0 k hrd hwr => ?_
  have hn' : n'.1 < k := hwr _ (List.mem_cons_self ..)
  have h0' : h0 n' = none := hrd _ (List.mem_cons_self ..)
  have hll := Tm.sizes_len l
  repeat' (first
    | refine awp_ghost (ghost_nil (i := 3) (e := 3) rfl) ?_
    | refine awp_seq_k fun K hK => ?_
    | ((first | refine awp_region_k (by kernel_rfl) fun R hR => ?_ | refine awp_draw mixed (by kernel_rfl) (by kernel_rfl) fun R hR => ?_); simp only [go_sem])
    | ((first | (refine hR _ ?_; clear hR R) | refine awp_skip ?_ | refine awp_exit ?_ | refine awp_ret ?_); try simp only [thenA, inBlockA, reduceIte, reduceCtorEq, Nat.reduceEqDiff, if_false, if_true])
    | ((first | refine hK _ ?_ | (clear hK K; first | refine hK _ ?_ | (clear hK K; first | refine hK _ ?_ | (clear hK K; first | refine hK _ ?_ | (clear hK K; refine hK _ ?_))))); clear hK K)
    | refine awp_true rfl rfl ?_
    | refine awp_false rfl rfl ?_
    | refine awp_block ?_
    | refine And.intro (by first | omega | exact trivial | rfl | assumption | (apply map_sz; intro a; simp only [go_sem]; done) | ((and_intros <;> first | omega | exact trivial | rfl | assumption | (apply map_sz; intro a; simp only [go_sem]; done) | fail); done) | fail) ?_
    | fail)
  refine awp_loop (fun σ => ∃ (i : Nat) (o : List Int), σ.t 0 = .d (.sl (l.map tmDV)) ∧ σ.t 3 = .own (k + 1 + 1, 0) (o.map iD) ∧ σ.t 4 = iA i ∧ σ.h (k + 1 + 1, 0) = some (.perm 3 o.length) ∧ Fr k h0 σ.h ∧ k + 1 + 1 < σ.k ∧ i ≤ l.length ∧ o.length + Tm.size.sizes (l.drop i) ≤ 4000000 ∧ addVs o ((l.drop i).flatMap parts) = firstVars l) (fun σ => l.length - (intOf' (σ.t 4)).toNat) ?_ ?_
  · refine ⟨0, [], ?_⟩
    simp only [go_sem, List.drop_zero]
    and_intros; all_goals try (first | rfl | omega | assumption | ((repeat (first | exact Fr.rfl' _ _ | assumption | refine Fr.updk ?_ (by omega) _)); done))
  · rintro σ ⟨i, o, s0, s3, s4, sh, hF, hk, hi, ho, hv⟩
    have hne := ltne hk
    rcases Nat.lt_or_ge i l.length with hlt | hge
    · have hz : (i : Int) < (l.length : Int) := by omega
      have e1 : (l.map tmDV).getD i default = tmDV l[i] := nth_map tmDV hlt _
      rw [List.drop_eq_getElem_cons hlt, List.flatMap_cons, addVs_append] at hv
      rw [List.drop_eq_getElem_cons hlt, Tm.size.sizes] at ho
      have hpl := parts_len l[i]
      repeat' (first
        | refine awp_seq_k fun K hK => ?_
        | ((first | refine awp_region_k (by kernel_rfl) fun R hR => ?_ | refine awp_draw mixed (by kernel_rfl) (by kernel_rfl) fun R hR => ?_); simp only [go_sem, s0, s3, s4, sh, hz, e1, hne, Int.toNat_natCast])
        | ((first | (refine hR _ ?_; clear hR R) | refine awp_skip ?_ | refine awp_exit ?_ | refine awp_ret ?_); try simp only [thenA, inBlockA, reduceIte, reduceCtorEq, Nat.reduceEqDiff, if_false, if_true])
        | ((first | refine hK _ ?_ | (clear hK K; first | refine hK _ ?_ | (clear hK K; first | refine hK _ ?_ | (clear hK K; first | refine hK _ ?_ | (clear hK K; refine hK _ ?_))))); clear hK K)
        | refine awp_true rfl rfl ?_
        | refine awp_false rfl rfl ?_
        | refine awp_block ?_
        | ((first | refine CallK.pure (enter63) (partsOf_data l[i] (by unfold Tm.fits; omega) (by omega)) ?_ ?_ | refine CallD.pure (enter63) (partsOf_data l[i] (by unfold Tm.fits; omega) (by omega)) ?_ ?_); (focus first | ((repeat (first | exact trivial | refine ⟨(by first | exact Or.inl rfl | exact Or.inr rfl), ?_⟩)); done) | (simp only [coL, AV.dat, true_or, or_true, AV.d.injEq, go_sem]; done)); simp only [go_sem, s0, s3, s4, sh, hz, e1, hne, Int.toNat_natCast])
        | refine And.intro (by first | omega | exact trivial | rfl | assumption | (apply map_sz; intro a; simp only [go_sem]; done) | ((and_intros <;> first | omega | exact trivial | rfl | assumption | (apply map_sz; intro a; simp only [go_sem]; done) | fail); done) | fail) ?_
        | fail)
      refine awp_loop (fun τ => ∃ (j : Nat) (q : List Int), τ.t 0 = .d (.sl (l.map tmDV)) ∧ τ.t 3 = .own (k + 1 + 1, 0) (q.map iD) ∧ τ.t 4 = iA i ∧ τ.t 5 = .d (.sl ((parts l[i]).map tmDV)) ∧ τ.t 6 = iA j ∧ τ.h (k + 1 + 1, 0) = some (.perm 3 q.length) ∧ Fr k h0 τ.h ∧ k + 1 + 1 < τ.k ∧ j ≤ (parts l[i]).length ∧ q.length + ((parts l[i]).length - j) ≤ o.length + (parts l[i]).length ∧ addVs q ((parts l[i]).drop j) = addVs o (parts l[i])) (fun τ => (parts l[i]).length - (intOf' (τ.t 6)).toNat) ?_ ?_
      · refine ⟨0, o, ?_⟩
        simp only [go_sem, s0, s3, s4, sh, hne, List.drop_zero]
        and_intros; all_goals try (first | rfl | omega | assumption | ((repeat (first | exact Fr.rfl' _ _ | assumption | refine Fr.updk ?_ (by omega) _)); done))
      · rintro τ ⟨j, q, u0, u3, u4, u5, u6, uh, uF, uk, uj, uo, uv⟩
        have hne' := ltne uk
        rcases Nat.lt_or_ge j (parts l[i]).length with hlt' | hge'
        · have hz' : (j : Int) < ((parts l[i]).length : Int) := by omega
          have e2 : ((parts l[i]).map tmDV).getD j default = tmDV (parts l[i])[j] := nth_map tmDV hlt' _
          rw [List.drop_eq_getElem_cons hlt'] at uv
          generalize (parts l[i])[j] = x at *
          cases hx : decide (x.v > 0) with
          | false =>
            have hadd : addVs q (x :: (parts l[i]).drop (j + 1)) = addVs q ((parts l[i]).drop (j + 1)) := by
              show addVs (addV q x) _ = _
              unfold addV; rw [if_neg (by simp at hx; omega)]
            rw [hadd] at uv
            repeat' (first
              | refine awp_seq_k fun K hK => ?_
              | ((first | refine awp_region_k (by kernel_rfl) fun R hR => ?_ | refine awp_draw mixed (by kernel_rfl) (by kernel_rfl) fun R hR => ?_); simp only [go_sem, u0, u3, u4, u5, u6, uh, hz', e2, hne', hx, Int.toNat_natCast])
              | ((first | (refine hR _ ?_; clear hR R) | refine awp_skip ?_ | refine awp_exit ?_ | refine awp_ret ?_); try simp only [thenA, inBlockA, reduceIte, reduceCtorEq, Nat.reduceEqDiff, if_false, if_true])
              | ((first | refine hK _ ?_ | (clear hK K; first | refine hK _ ?_ | (clear hK K; first | refine hK _ ?_ | (clear hK K; first | refine hK _ ?_ | (clear hK K; refine hK _ ?_))))); clear hK K)
              | refine awp_true rfl rfl ?_
              | refine awp_false rfl rfl ?_
              | refine awp_block ?_
              | refine And.intro (by first | omega | exact trivial | rfl | assumption | (apply map_sz; intro a; simp only [go_sem]; done) | ((and_intros <;> first | omega | exact trivial | rfl | assumption | (apply map_sz; intro a; simp only [go_sem]; done) | fail); done) | fail) ?_
              | fail)
            refine ⟨⟨j + 1, q, ?_⟩, ?_⟩
            rotate_left
            · simp only [go_sem, u0, u3, u4, u5, u6, uh, hne']; omega
            simp only [go_sem, u0, u3, u4, u5, u6, uh, hne']
            and_intros; all_goals try (first | rfl | omega | assumption | ((repeat (first | exact Fr.rfl' _ _ | assumption | refine Fr.updk ?_ (by omega) _)); done))
          | true =>
            cases hc : q.contains x.v with
            | true =>
              have hadd : addVs q (x :: (parts l[i]).drop (j + 1)) = addVs q ((parts l[i]).drop (j + 1)) := by
                show addVs (addV q x) _ = _
                unfold addV; rw [if_neg]; rintro ⟨_, h⟩; rw [hc] at h; cases h
              rw [hadd] at uv
              repeat' (first
                | refine awp_seq_k fun K hK => ?_
                | ((first | refine awp_region_k (by kernel_rfl) fun R hR => ?_ | refine awp_draw mixed (by kernel_rfl) (by kernel_rfl) fun R hR => ?_); simp only [go_sem, u0, u3, u4, u5, u6, uh, hz', e2, hne', hx, hc, Int.toNat_natCast])
                | ((first | (refine hR _ ?_; clear hR R) | refine awp_skip ?_ | refine awp_exit ?_ | refine awp_ret ?_); try simp only [thenA, inBlockA, reduceIte, reduceCtorEq, Nat.reduceEqDiff, if_false, if_true])
                | ((first | refine hK _ ?_ | (clear hK K; first | refine hK _ ?_ | (clear hK K; first | refine hK _ ?_ | (clear hK K; first | refine hK _ ?_ | (clear hK K; refine hK _ ?_))))); clear hK K)
                | refine awp_true rfl rfl ?_
                | refine awp_false rfl rfl ?_
                | refine awp_block ?_
                | ((first | refine CallK.pure (enter82) (has_tri q (by omega) x.v) ?_ ?_ | refine CallD.pure (enter82) (has_tri q (by omega) x.v) ?_ ?_); (focus first | ((repeat (first | exact trivial | refine ⟨(by first | exact Or.inl rfl | exact Or.inr rfl), ?_⟩)); done) | (simp only [coL, AV.dat, true_or, or_true, AV.d.injEq, go_sem]; done)); simp only [go_sem, u0, u3, u4, u5, u6, uh, hz', e2, hne', hx, hc, Int.toNat_natCast])
                | refine And.intro (by first | omega | exact trivial | rfl | assumption | (apply map_sz; intro a; simp only [go_sem]; done) | ((and_intros <;> first | omega | exact trivial | rfl | assumption | (apply map_sz; intro a; simp only [go_sem]; done) | fail); done) | fail) ?_
                | fail)
              refine ⟨⟨j + 1, q, ?_⟩, ?_⟩
              rotate_left
              · simp only [go_sem, u0, u3, u4, u5, u6, uh, hne']; omega
              simp only [go_sem, u0, u3, u4, u5, u6, uh, hne']
              and_intros; all_goals try (first | rfl | omega | assumption | ((repeat (first | exact Fr.rfl' _ _ | assumption | refine Fr.updk ?_ (by omega) _)); done))
            | false =>
              have hadd : addVs q (x :: (parts l[i]).drop (j + 1)) = addVs (q ++ [x.v]) ((parts l[i]).drop (j + 1)) := by
                show addVs (addV q x) _ = _
                unfold addV; rw [if_pos ⟨by simpa using hx, hc⟩]
              rw [hadd] at uv
              have hq : q.map iD ++ [iD x.v] = (q ++ [x.v]).map iD := by simp
              repeat' (first
                | refine awp_seq_k fun K hK => ?_
                | ((first | refine awp_region_k (by kernel_rfl) fun R hR => ?_ | refine awp_draw mixed (by kernel_rfl) (by kernel_rfl) fun R hR => ?_); simp only [go_sem, u0, u3, u4, u5, u6, uh, hz', e2, hne', hx, hc, List.length_map, Int.toNat_natCast])
                | ((first | (refine hR _ ?_; clear hR R) | refine awp_skip ?_ | refine awp_exit ?_ | refine awp_ret ?_); try simp only [thenA, inBlockA, reduceIte, reduceCtorEq, Nat.reduceEqDiff, if_false, if_true])
                | ((first | refine hK _ ?_ | (clear hK K; first | refine hK _ ?_ | (clear hK K; first | refine hK _ ?_ | (clear hK K; first | refine hK _ ?_ | (clear hK K; refine hK _ ?_))))); clear hK K)
                | refine awp_true rfl rfl ?_
                | refine awp_false rfl rfl ?_
                | refine awp_block ?_
                | ((first | refine CallK.pure (enter82) (has_tri q (by omega) x.v) ?_ ?_ | refine CallD.pure (enter82) (has_tri q (by omega) x.v) ?_ ?_); (focus first | ((repeat (first | exact trivial | refine ⟨(by first | exact Or.inl rfl | exact Or.inr rfl), ?_⟩)); done) | (simp only [coL, AV.dat, true_or, or_true, AV.d.injEq, go_sem]; done)); simp only [go_sem, u0, u3, u4, u5, u6, uh, hz', e2, hne', hx, hc, List.length_map, Int.toNat_natCast])
                | refine And.intro (by first | omega | exact trivial | rfl | assumption | (apply map_sz; intro a; simp only [go_sem]; done) | ((and_intros <;> first | omega | exact trivial | rfl | assumption | (apply map_sz; intro a; simp only [go_sem]; done) | fail); done) | fail) ?_
                | fail)
              refine ⟨⟨j + 1, q ++ [x.v], ?_⟩, ?_⟩
              rotate_left
              · simp only [go_sem, u0, u3, u4, u5, u6, uh, hne', hq, List.length_map]; omega
              simp only [go_sem, u0, u3, u4, u5, u6, uh, hne', hq, List.length_map]
              and_intros; all_goals try (first | rfl | omega | assumption | ((repeat (first | exact Fr.rfl' _ _ | assumption | refine Fr.updk ?_ (by omega) _)); done))
              simp only [List.length_append, List.length_singleton]; omega
        · have hz' : ¬ ((j : Int) < ((parts l[i]).length : Int)) := by omega
          rw [List.drop_eq_nil_of_le hge'] at uv
          have uv' : q = addVs o (parts l[i]) := uv
          rw [← uv'] at hv
          repeat' (first
            | refine awp_seq_k fun K hK => ?_
            | ((first | refine awp_region_k (by kernel_rfl) fun R hR => ?_ | refine awp_draw mixed (by kernel_rfl) (by kernel_rfl) fun R hR => ?_); simp only [go_sem, u0, u3, u4, u5, u6, uh, hz', hne'])
            | ((first | (refine hR _ ?_; clear hR R) | refine awp_skip ?_ | refine awp_exit ?_ | refine awp_ret ?_); try simp only [thenA, inBlockA, reduceIte, reduceCtorEq, Nat.reduceEqDiff, if_false, if_true])
            | ((first | refine hK _ ?_ | (clear hK K; first | refine hK _ ?_ | (clear hK K; first | refine hK _ ?_ | (clear hK K; first | refine hK _ ?_ | (clear hK K; refine hK _ ?_))))); clear hK K)
            | refine awp_true rfl rfl ?_
            | refine awp_false rfl rfl ?_
            | refine awp_block ?_
            | refine And.intro (by first | omega | exact trivial | rfl | assumption | (apply map_sz; intro a; simp only [go_sem]; done) | ((and_intros <;> first | omega | exact trivial | rfl | assumption | (apply map_sz; intro a; simp only [go_sem]; done) | fail); done) | fail) ?_
            | fail)
          refine ⟨⟨i + 1, q, ?_⟩, ?_⟩
          rotate_left
          · simp only [go_sem, u0, u3, u4, uh, hne', s4]; omega
          simp only [go_sem, u0, u3, u4, uh, hne', s4]
          and_intros; all_goals try (first | rfl | omega | assumption | ((repeat (first | exact Fr.rfl' _ _ | assumption | refine Fr.updk ?_ (by omega) _)); done))
    · have hz : ¬ ((i : Int) < (l.length : Int)) := by omega
      rw [List.drop_eq_nil_of_le hge] at hv
      have hv' : o = firstVars l := hv
      subst hv'
      repeat' (first
        | refine awp_seq_k fun K hK => ?_
        | ((first | refine awp_region_k (by kernel_rfl) fun R hR => ?_ | refine awp_draw mixed (by kernel_rfl) (by kernel_rfl) fun R hR => ?_); simp only [go_sem, s0, s3, s4, sh, hz, hne])
        | ((first | (refine hR _ ?_; clear hR R) | refine awp_skip ?_ | refine awp_exit ?_ | refine awp_ret ?_); try simp only [thenA, inBlockA, reduceIte, reduceCtorEq, Nat.reduceEqDiff, if_false, if_true])
        | ((first | refine hK _ ?_ | (clear hK K; first | refine hK _ ?_ | (clear hK K; first | refine hK _ ?_ | (clear hK K; first | refine hK _ ?_ | (clear hK K; refine hK _ ?_))))); clear hK K)
        | refine awp_true rfl rfl ?_
        | refine awp_false rfl rfl ?_
        | refine awp_block ?_
        | refine And.intro (by first | omega | exact trivial | rfl | assumption | (apply map_sz; intro a; simp only [go_sem]; done) | ((and_intros <;> first | omega | exact trivial | rfl | assumption | (apply map_sz; intro a; simp only [go_sem]; done) | fail); done) | fail) ?_
        | fail)
      refine ret_new (by simp only [Try.results22, resOkL, resOk, Try.ntmps22, List.toList_toArray]; first | decide | (simp only [go_sem, hne, sh]; done) | (simp only [go_sem, hne, sh]; and_intros <;> first | omega | rfl | decide)) (by simp only [resA, resV, Try.results22, go_sem, hne, sh]; try rfl) ?_ hn' h0' ?_ (by repeat (first | exact Fr.rfl' _ _ | assumption | refine Fr.updk ?_ (by omega) _)) <;> simp only [go_sem, List.length_map, hne, sh] <;> first | rfl | omega
theorem firstVars_tri (l : List Tm) (hl : Tm.size.sizes l ≤ 4000000) : Tri Try.prog 22 [.d (.sl (l.map tmDV))] (pure' (.d (.sl ((firstVars l).map iD)))) := Tri.data fun n' => firstVars_new l hl n'
end Go.Proofs.Ytmeekpinkfpnhaa

namespace Go.Proofs.Ytmeekpinkfpnhaa

theorem pw3 {n : Int} (h1 : 1 ≤ n) (h3 : n ≤ 3) : ∀ i : Nat, 1 ≤ n ^ i ∧ n ^ i ≤ 3 ^ i
  | 0 => by simp
  | i + 1 => by
    obtain ⟨h4, h5⟩ := pw3 h1 h3 i
    rw [Int.pow_succ, Int.pow_succ]
    have : n = 1 ∨ n = 2 ∨ n = 3 := by omega
    rcases this with rfl | rfl | rfl <;> omega
theorem pw_le {n : Int} (h1 : 1 ≤ n) (h3 : n ≤ 3) {i : Nat} (hi : i ≤ 8) : 1 ≤ n ^ i ∧ n ^ i ≤ 6561 := by
  obtain ⟨h4, h5⟩ := pw3 h1 h3 i
  refine ⟨h4, Int.le_trans h5 ?_⟩
  have : i = 0 ∨ i = 1 ∨ i = 2 ∨ i = 3 ∨ i = 4 ∨ i = 5 ∨ i = 6 ∨ i = 7 ∨ i = 8 := by omega
  rcases this with rfl | rfl | rfl | rfl | rfl | rfl | rfl | rfl | rfl <;> decide
/-- Is a table of another length than its function wants? -/
def rowsBad (sz : Int) : List Int → List (List Int) → Bool
  | n :: g, r :: tb => ((r.length : Int) != sz ^ n.toNat) || rowsBad sz g tb
  | _, _ => false
theorem rowsBad_at {sz : Int} {g : List Int} {tb : List (List Int)} {i : Nat} (hi : i < g.length) (hi' : i < tb.length) : rowsBad sz (g.drop i) (tb.drop i) = (((tb[i].length : Int) != sz ^ g[i].toNat) || rowsBad sz (g.drop (i + 1)) (tb.drop (i + 1))) := by
  rw [List.drop_eq_getElem_cons hi, List.drop_eq_getElem_cons hi', rowsBad]
theorem rowsBad_end {sz : Int} {g : List Int} {tb : List (List Int)} {i : Nat} (hi' : tb.length ≤ i) : rowsBad sz (g.drop i) (tb.drop i) = false := by
  rw [List.drop_eq_nil_of_le hi']
  cases g.drop i <;> rfl
def outOf (sz n : Int) : Bool := decide (n < 0) || decide (n ≥ sz)
/-- model.Check, superposeref.CheckModel -/
def mdOk (g : List Int) (sz : Int) (tb : List (List Int)) : Int :=
  if sigOk g ≠ 0 then sigOk g else if sz < 1 ∨ sz > 3 then 3 else if tb.length ≠ g.length then 1 else if rowsBad sz g tb = true then 1 else if (tb.any fun r => r.any (outOf sz)) = true then 5 else 0
theorem sig_each {g : List Int} (h : sigOk g = 0) : ∀ n ∈ g, 0 ≤ n ∧ n ≤ 3 := by
  unfold sigOk at h
  split at h
  · cases h
  · split at h
    · cases h
    · rename_i hn
      intro n hn'
      have : ¬ ((n < 0 || n > 3) = true) := fun hc => hn (List.any_eq_true.2 ⟨n, hn', by simpa using hc⟩)
      simp at this
      omega
theorem sig_len {g : List Int} (h : sigOk g = 0) : g.length ≤ 12 := by
  unfold sigOk at h
  split at h
  · cases h
  · omega
theorem rowsBad_all {sz : Int} : ∀ {g : List Int} {tb : List (List Int)}, rowsBad sz g tb = false → ∀ (i : Nat) (h : i < g.length) (h' : i < tb.length), (tb[i].length : Int) = sz ^ g[i].toNat
  | n :: g, r :: tb, h, i, hi, hi' => by
    rw [rowsBad, Bool.or_eq_false_iff] at h
    cases i with
    | zero => simpa using h.1
    | succ i => simpa using rowsBad_all h.2 i (by simpa using hi) (by simpa using hi')
theorem mdOk_all {g : List Int} {sz : Int} {tb : List (List Int)} (h : mdOk g sz tb = 0) : sigOk g = 0 ∧ 1 ≤ sz ∧ sz ≤ 3 ∧ tb.length = g.length ∧ rowsBad sz g tb = false ∧ ∀ r ∈ tb, ∀ n ∈ r, 0 ≤ n ∧ n < sz := by
  unfold mdOk at h
  by_cases h1 : sigOk g = 0
  · rw [if_neg (by simp [h1])] at h
    by_cases h2 : sz < 1 ∨ sz > 3
    · rw [if_pos h2] at h; cases h
    · rw [if_neg h2] at h
      by_cases h3 : tb.length = g.length
      · rw [if_neg (by simp [h3])] at h
        cases h4 : rowsBad sz g tb with
        | true => rw [h4] at h; simp at h
        | false =>
          rw [h4] at h
          simp only [Bool.false_eq_true, if_false] at h
          cases h5 : tb.any fun r => r.any (outOf sz) with
          | true => rw [h5] at h; simp at h
          | false =>
            refine ⟨h1, by omega, by omega, h3, rfl, fun r hr n hn => ?_⟩
            have h6 := List.any_eq_false.1 h5 r hr
            simp only [Bool.not_eq_true] at h6
            have h7 := List.any_eq_false.1 h6 n hn
            simp [outOf] at h7
            omega
      · rw [if_pos (by simpa using h3)] at h; cases h
  · rw [if_pos (by simpa using h1)] at h; exact absurd h h1
end Go.Proofs.Ytmeekpinkfpnhaa

namespace Go.Proofs.Ytmeekpinkfpnhaa
open Go.RowKit
set_option linter.unusedSimpArgs false
set_option linter.unusedSectionVars false

def mdDV (sz : Int) (tb : List (List Int)) : DV := .st [iD sz, .sl (tb.map gI)]
@[go_sem] theorem mdDV_cells (sz : Int) (tb : List (List Int)) : (mdDV sz tb).cells = [iD sz, .sl (tb.map gI)] := (Eq.trans rfl (Eq.refl _))
@[go_sem] theorem mdDV_fold (sz : Int) (tb : List (List Int)) : DV.st [iD sz, .sl (tb.map gI)] = mdDV sz tb := (Eq.trans rfl (Eq.refl _))

set_option maxRecDepth 20000 in
theorem power_tri {n : Int} (h1 : 1 ≤ n) (h3 : n ≤ 3) {j : Nat} (hj : j ≤ 8) : Tri Try.prog 76 [iA n, iA j] (pure' (iA (n ^ j))) := by
  refine tri_enter Try.func76 rfl Try.ntmps76 (by simp only [List.length_cons, List.length_nil]; omega) fun w0 h0 k hrd hwr => ?_
  repeat' (first
    | refine awp_seq_k fun K hK => ?_
    | ((first | refine awp_region_k (by kernel_rfl) fun R hR => ?_ | refine awp_draw mixed (by kernel_rfl) (by kernel_rfl) fun R hR => ?_); simp only [go_sem])
    | ((first | (refine hR _ ?_; clear hR R) | refine awp_skip ?_ | refine awp_exit ?_ | refine awp_ret ?_); try simp only [thenA, inBlockA, reduceIte, reduceCtorEq, Nat.reduceEqDiff, if_false, if_true])
    | ((first | refine hK _ ?_ | (clear hK K; first | refine hK _ ?_ | (clear hK K; first | refine hK _ ?_ | (clear hK K; first | refine hK _ ?_ | (clear hK K; refine hK _ ?_))))); clear hK K)
    | refine awp_true rfl rfl ?_
    | refine awp_false rfl rfl ?_
    | refine awp_block ?_
    | refine And.intro (by first | omega | exact trivial | rfl | assumption | (apply map_sz; intro a; simp only [go_sem]; done) | ((and_intros <;> first | omega | exact trivial | rfl | assumption | (apply map_sz; intro a; simp only [go_sem]; done) | fail); done) | fail) ?_
    | fail)
  refine awp_loop (fun σ => ∃ i : Nat, σ.t 0 = iA n ∧ σ.t 6 = iA j ∧ σ.t 7 = iA i ∧ σ.t 5 = iA (n ^ i) ∧ σ.h = h0 ∧ i ≤ j) (fun σ => j - (intOf' (σ.t 7)).toNat) ?_ ?_
  · refine ⟨0, ?_⟩
    simp only [go_sem, Int.pow_zero]
    and_intros; all_goals try (first | rfl | omega | assumption | ((repeat (first | exact Fr.rfl' _ _ | assumption | refine Fr.updk ?_ (by omega) _)); done))
  · rintro σ ⟨i, s0, s6, s7, s5, sh, hi⟩
    have hfr : Fr k h0 σ.h := by rw [sh]; exact Fr.rfl' _ _
    obtain ⟨p1, p2⟩ := pw_le h1 h3 (i := i) (by omega)
    rcases Nat.lt_or_ge i j with hlt | hge
    · obtain ⟨p3, p4⟩ := pw_le h1 h3 (i := i + 1) (by omega)
      have hz : (i : Int) < (j : Int) := by omega
      have e : n ^ i * n = n ^ (i + 1) := (Int.pow_succ n i).symm
      repeat' (first
        | refine awp_seq_k fun K hK => ?_
        | ((first | refine awp_region_k (by kernel_rfl) fun R hR => ?_ | refine awp_draw mixed (by kernel_rfl) (by kernel_rfl) fun R hR => ?_); simp only [go_sem, s0, s6, s7, s5, hz, e])
        | ((first | (refine hR _ ?_; clear hR R) | refine awp_skip ?_ | refine awp_exit ?_ | refine awp_ret ?_); try simp only [thenA, inBlockA, reduceIte, reduceCtorEq, Nat.reduceEqDiff, if_false, if_true])
        | ((first | refine hK _ ?_ | (clear hK K; first | refine hK _ ?_ | (clear hK K; first | refine hK _ ?_ | (clear hK K; first | refine hK _ ?_ | (clear hK K; refine hK _ ?_))))); clear hK K)
        | refine awp_true rfl rfl ?_
        | refine awp_false rfl rfl ?_
        | refine awp_block ?_
        | refine And.intro (by first | omega | exact trivial | rfl | assumption | (apply map_sz; intro a; simp only [go_sem]; done) | ((and_intros <;> first | omega | exact trivial | rfl | assumption | (apply map_sz; intro a; simp only [go_sem]; done) | fail); done) | fail) ?_
        | fail)
      refine ⟨⟨i + 1, ?_⟩, ?_⟩
      rotate_left
      · simp only [go_sem, s0, s6, s7, s5, sh]; omega
      simp only [go_sem, s0, s6, s7, s5, sh]
      and_intros; all_goals try (first | rfl | omega | assumption | ((repeat (first | exact Fr.rfl' _ _ | assumption | refine Fr.updk ?_ (by omega) _)); done))
    · have hz : ¬ ((i : Int) < (j : Int)) := by omega
      obtain rfl : i = j := by omega
      repeat' (first
        | refine awp_seq_k fun K hK => ?_
        | ((first | refine awp_region_k (by kernel_rfl) fun R hR => ?_ | refine awp_draw mixed (by kernel_rfl) (by kernel_rfl) fun R hR => ?_); simp only [go_sem, s0, s6, s7, s5, hz])
        | ((first | (refine hR _ ?_; clear hR R) | refine awp_skip ?_ | refine awp_exit ?_ | refine awp_ret ?_); try simp only [thenA, inBlockA, reduceIte, reduceCtorEq, Nat.reduceEqDiff, if_false, if_true])
        | ((first | refine hK _ ?_ | (clear hK K; first | refine hK _ ?_ | (clear hK K; first | refine hK _ ?_ | (clear hK K; first | refine hK _ ?_ | (clear hK K; refine hK _ ?_))))); clear hK K)
        | refine awp_true rfl rfl ?_
        | refine awp_false rfl rfl ?_
        | refine awp_block ?_
        | refine And.intro (by first | omega | exact trivial | rfl | assumption | (apply map_sz; intro a; simp only [go_sem]; done) | ((and_intros <;> first | omega | exact trivial | rfl | assumption | (apply map_sz; intro a; simp only [go_sem]; done) | fail); done) | fail) ?_
        | fail)
      first | refine ret_pure (by simp only [Try.results76, resOkL, resOk, Try.ntmps76, List.toList_toArray]; first | decide | (simp only [go_sem]; done) | (simp only [go_sem]; and_intros <;> first | omega | rfl | decide)) ?_ (by repeat (first | exact Fr.rfl' _ _ | assumption | refine Fr.updk ?_ (by omega) _)) | refine ret_ro (by simp only [Try.results76, resOkL, resOk, Try.ntmps76, List.toList_toArray]; first | decide | (simp only [go_sem]; done) | (simp only [go_sem]; and_intros <;> first | omega | rfl | decide)) ?_ (by repeat (first | exact Fr.rfl' _ _ | assumption | refine Fr.updk ?_ (by omega) _))
      simp only [resA, resV, Try.results76, go_sem]
      all_goals try (first | exact Co.t2 (.dat rfl) (.dat rfl) | exact Co.t3 (.dat rfl) (.dat rfl) (.dat rfl))
      exact .dat rfl
set_option maxRecDepth 20000 in
theorem powerOf_tri {n : Int} (h1 : 1 ≤ n) (h3 : n ≤ 3) : ∀ {j : Nat}, j ≤ 8 → Tri Try.prog 81 [iA n, iA j] (pure' (iA (n ^ j)))
  | 0, _ => by
    refine tri_enter Try.func81 rfl Try.ntmps81 (by simp only [List.length_cons, List.length_nil]; omega) fun w0 h0 k hrd hwr => ?_
    have e : ((0 : Nat) : Int) = 0 := rfl
    repeat' (first
      | refine awp_seq_k fun K hK => ?_
      | ((first | refine awp_region_k (by kernel_rfl) fun R hR => ?_ | refine awp_draw mixed (by kernel_rfl) (by kernel_rfl) fun R hR => ?_); simp only [go_sem, e, beq_self_eq_true])
      | ((first | (refine hR _ ?_; clear hR R) | refine awp_skip ?_ | refine awp_exit ?_ | refine awp_ret ?_); try simp only [thenA, inBlockA, reduceIte, reduceCtorEq, Nat.reduceEqDiff, if_false, if_true])
      | ((first | refine hK _ ?_ | (clear hK K; first | refine hK _ ?_ | (clear hK K; first | refine hK _ ?_ | (clear hK K; first | refine hK _ ?_ | (clear hK K; refine hK _ ?_))))); clear hK K)
      | refine awp_true rfl rfl ?_
      | refine awp_false rfl rfl ?_
      | refine awp_block ?_
      | refine And.intro (by first | omega | exact trivial | rfl | assumption | (apply map_sz; intro a; simp only [go_sem]; done) | ((and_intros <;> first | omega | exact trivial | rfl | assumption | (apply map_sz; intro a; simp only [go_sem]; done) | fail); done) | fail) ?_
      | fail)
    first | refine ret_pure (by simp only [Try.results81, resOkL, resOk, Try.ntmps81, List.toList_toArray]; first | decide | (simp only [go_sem]; done) | (simp only [go_sem]; and_intros <;> first | omega | rfl | decide)) ?_ (by repeat (first | exact Fr.rfl' _ _ | assumption | refine Fr.updk ?_ (by omega) _)) | refine ret_ro (by simp only [Try.results81, resOkL, resOk, Try.ntmps81, List.toList_toArray]; first | decide | (simp only [go_sem]; done) | (simp only [go_sem]; and_intros <;> first | omega | rfl | decide)) ?_ (by repeat (first | exact Fr.rfl' _ _ | assumption | refine Fr.updk ?_ (by omega) _))
    simp only [resA, resV, Try.results81, go_sem]
    all_goals try (first | exact Co.t2 (.dat rfl) (.dat rfl) | exact Co.t3 (.dat rfl) (.dat rfl) (.dat rfl))
    exact co_i (Int.pow_zero n).symm
  | j + 1, hj => by
    have ih := powerOf_tri h1 h3 (j := j) (by omega)
    refine tri_enter Try.func81 rfl Try.ntmps81 (by simp only [List.length_cons, List.length_nil]; omega) fun w0 h0 k hrd hwr => ?_
    obtain ⟨p1, p2⟩ := pw_le h1 h3 (i := j) (by omega)
    obtain ⟨p3, p4⟩ := pw_le h1 h3 (i := j + 1) (by omega)
    have e0 : (((j + 1 : Nat) : Int) == 0) = false := by simp; omega
    have e1 : ((j + 1 : Nat) : Int) - 1 = j := by omega
    have e2 : n * n ^ j = n ^ (j + 1) := by rw [Int.pow_succ, Int.mul_comm]
    repeat' (first
      | refine awp_seq_k fun K hK => ?_
      | ((first | refine awp_region_k (by kernel_rfl) fun R hR => ?_ | refine awp_draw mixed (by kernel_rfl) (by kernel_rfl) fun R hR => ?_); simp only [go_sem, e0, e1, e2])
      | ((first | (refine hR _ ?_; clear hR R) | refine awp_skip ?_ | refine awp_exit ?_ | refine awp_ret ?_); try simp only [thenA, inBlockA, reduceIte, reduceCtorEq, Nat.reduceEqDiff, if_false, if_true])
      | ((first | refine hK _ ?_ | (clear hK K; first | refine hK _ ?_ | (clear hK K; first | refine hK _ ?_ | (clear hK K; first | refine hK _ ?_ | (clear hK K; refine hK _ ?_))))); clear hK K)
      | refine awp_true rfl rfl ?_
      | refine awp_false rfl rfl ?_
      | refine awp_block ?_
      | ((first | refine CallK.pure (enter81) (ih) ?_ ?_ | refine CallD.pure (enter81) (ih) ?_ ?_); (focus first | ((repeat (first | exact trivial | refine ⟨(by first | exact Or.inl rfl | exact Or.inr rfl), ?_⟩)); done) | (simp only [coL, AV.dat, true_or, or_true, AV.d.injEq, go_sem]; done)); simp only [go_sem, e0, e1, e2])
      | refine And.intro (by first | omega | exact trivial | rfl | assumption | (apply map_sz; intro a; simp only [go_sem]; done) | ((and_intros <;> first | omega | exact trivial | rfl | assumption | (apply map_sz; intro a; simp only [go_sem]; done) | fail); done) | fail) ?_
      | fail)
    first | refine ret_pure (by simp only [Try.results81, resOkL, resOk, Try.ntmps81, List.toList_toArray]; first | decide | (simp only [go_sem]; done) | (simp only [go_sem]; and_intros <;> first | omega | rfl | decide)) ?_ (by repeat (first | exact Fr.rfl' _ _ | assumption | refine Fr.updk ?_ (by omega) _)) | refine ret_ro (by simp only [Try.results81, resOkL, resOk, Try.ntmps81, List.toList_toArray]; first | decide | (simp only [go_sem]; done) | (simp only [go_sem]; and_intros <;> first | omega | rfl | decide)) ?_ (by repeat (first | exact Fr.rfl' _ _ | assumption | refine Fr.updk ?_ (by omega) _))
    simp only [resA, resV, Try.results81, go_sem]
    all_goals try (first | exact Co.t2 (.dat rfl) (.dat rfl) | exact Co.t3 (.dat rfl) (.dat rfl) (.dat rfl))
    exact .dat rfl

/-- What a model in a box is. -/
abbrev mdO (b : Nm) (sz : Int) (tb : List (List Int)) : List (Nm × Ob) := [(b, .cells 39 [iA sz, .d (.sl (tb.map gI))])]
theorem roMd {b : Nm} {sz : Int} {tb : List (List Int)} {k : Nat} {h : Heap} (hb : b.1 < k) (h1 : h b = some (.cells 39 [iA sz, .d (.sl (tb.map gI))])) : RoOK k (mdO b sz tb) h := ⟨fun x hx => by
  simp only [mdO, List.mem_cons, List.not_mem_nil, or_false] at hx; subst hx; exact ⟨hb, h1⟩⟩
set_option maxRecDepth 20000 in
theorem check11_tri (b : Nm) (sz : Int) (tb : List (List Int)) (n : Int) : Tri Try.prog 86 [iA n, .ptr b 0] (rdE (mdO b sz tb) (bA (outOf sz n))) := by
  refine tri_enter_ro Try.func86 rfl Try.ntmps86 (by simp only [List.length_cons, List.length_nil]; omega) fun w0 h0 k hro => ?_
  obtain ⟨hb, eb⟩ := hro.get _ (List.mem_cons_self ..)
  unfold outOf
  cases h1 : decide (n < 0) with
  | true =>
    repeat' (first
      | refine awp_seq_k fun K hK => ?_
      | ((first | refine awp_region_k (by kernel_rfl) fun R hR => ?_ | refine awp_draw mixed (by kernel_rfl) (by kernel_rfl) fun R hR => ?_); simp only [go_sem, eb, h1])
      | ((first | (refine hR _ ?_; clear hR R) | refine awp_skip ?_ | refine awp_exit ?_ | refine awp_ret ?_); try simp only [thenA, inBlockA, reduceIte, reduceCtorEq, Nat.reduceEqDiff, if_false, if_true])
      | ((first | refine hK _ ?_ | (clear hK K; first | refine hK _ ?_ | (clear hK K; first | refine hK _ ?_ | (clear hK K; first | refine hK _ ?_ | (clear hK K; refine hK _ ?_))))); clear hK K)
      | refine awp_true rfl rfl ?_
      | refine awp_false rfl rfl ?_
      | refine awp_block ?_
      | refine And.intro (by first | omega | exact trivial | rfl | assumption | (apply map_sz; intro a; simp only [go_sem]; done) | ((and_intros <;> first | omega | exact trivial | rfl | assumption | (apply map_sz; intro a; simp only [go_sem]; done) | fail); done) | fail) ?_
      | fail)
    first | refine ret_pure (by simp only [Try.results86, resOkL, resOk, Try.ntmps86, List.toList_toArray]; first | decide | (simp only [go_sem]; done) | (simp only [go_sem]; and_intros <;> first | omega | rfl | decide)) ?_ (by repeat (first | exact Fr.rfl' _ _ | assumption | refine Fr.updk ?_ (by omega) _)) | refine ret_ro (by simp only [Try.results86, resOkL, resOk, Try.ntmps86, List.toList_toArray]; first | decide | (simp only [go_sem]; done) | (simp only [go_sem]; and_intros <;> first | omega | rfl | decide)) ?_ (by repeat (first | exact Fr.rfl' _ _ | assumption | refine Fr.updk ?_ (by omega) _))
    simp only [resA, resV, Try.results86, go_sem]
    all_goals try (first | exact Co.t2 (.dat rfl) (.dat rfl) | exact Co.t3 (.dat rfl) (.dat rfl) (.dat rfl))
    exact .dat rfl
  | false =>
    repeat' (first
      | refine awp_seq_k fun K hK => ?_
      | ((first | refine awp_region_k (by kernel_rfl) fun R hR => ?_ | refine awp_draw mixed (by kernel_rfl) (by kernel_rfl) fun R hR => ?_); simp only [go_sem, eb, h1])
      | ((first | (refine hR _ ?_; clear hR R) | refine awp_skip ?_ | refine awp_exit ?_ | refine awp_ret ?_); try simp only [thenA, inBlockA, reduceIte, reduceCtorEq, Nat.reduceEqDiff, if_false, if_true])
      | ((first | refine hK _ ?_ | (clear hK K; first | refine hK _ ?_ | (clear hK K; first | refine hK _ ?_ | (clear hK K; first | refine hK _ ?_ | (clear hK K; refine hK _ ?_))))); clear hK K)
      | refine awp_true rfl rfl ?_
      | refine awp_false rfl rfl ?_
      | refine awp_block ?_
      | refine And.intro (by first | omega | exact trivial | rfl | assumption | (apply map_sz; intro a; simp only [go_sem]; done) | ((and_intros <;> first | omega | exact trivial | rfl | assumption | (apply map_sz; intro a; simp only [go_sem]; done) | fail); done) | fail) ?_
      | fail)
    first | refine ret_pure (by simp only [Try.results86, resOkL, resOk, Try.ntmps86, List.toList_toArray]; first | decide | (simp only [go_sem]; done) | (simp only [go_sem]; and_intros <;> first | omega | rfl | decide)) ?_ (by repeat (first | exact Fr.rfl' _ _ | assumption | refine Fr.updk ?_ (by omega) _)) | refine ret_ro (by simp only [Try.results86, resOkL, resOk, Try.ntmps86, List.toList_toArray]; first | decide | (simp only [go_sem]; done) | (simp only [go_sem]; and_intros <;> first | omega | rfl | decide)) ?_ (by repeat (first | exact Fr.rfl' _ _ | assumption | refine Fr.updk ?_ (by omega) _))
    simp only [resA, resV, Try.results86, go_sem]
    all_goals try (first | exact Co.t2 (.dat rfl) (.dat rfl) | exact Co.t3 (.dat rfl) (.dat rfl) (.dat rfl))
    exact .dat rfl
set_option maxRecDepth 20000 in
theorem check1_tri (b : Nm) (sz : Int) (tb : List (List Int)) (r : List Int) (hr : r.length ≤ 16777216) : Tri Try.prog 85 [.d (gI r), .ptr b 0] (rdE (mdO b sz tb) (bA (r.any (outOf sz)))) := by
  refine tri_enter_ro Try.func85 rfl Try.ntmps85 (by simp only [List.length_cons, List.length_nil]; omega) fun w0 h0 k hro => ?_
  repeat' (first
    | refine awp_seq_k fun K hK => ?_
    | ((first | refine awp_region_k (by kernel_rfl) fun R hR => ?_ | refine awp_draw mixed (by kernel_rfl) (by kernel_rfl) fun R hR => ?_); simp only [go_sem])
    | ((first | (refine hR _ ?_; clear hR R) | refine awp_skip ?_ | refine awp_exit ?_ | refine awp_ret ?_); try simp only [thenA, inBlockA, reduceIte, reduceCtorEq, Nat.reduceEqDiff, if_false, if_true])
    | ((first | refine hK _ ?_ | (clear hK K; first | refine hK _ ?_ | (clear hK K; first | refine hK _ ?_ | (clear hK K; first | refine hK _ ?_ | (clear hK K; refine hK _ ?_))))); clear hK K)
    | refine awp_true rfl rfl ?_
    | refine awp_false rfl rfl ?_
    | refine awp_block ?_
    | ((first | refine CallK.look (enter69) (containsF_ints r hr 86 (enter86) [.ptr b 0] (mdO b sz tb) (outOf sz) (fun n _ => check11_tri b sz tb n)) ?_ (by assumption) (by repeat (first | exact Fr.rfl' _ _ | assumption | refine Fr.updk ?_ (by omega) _)) ?_ | refine CallD.look (enter69) (containsF_ints r hr 86 (enter86) [.ptr b 0] (mdO b sz tb) (outOf sz) (fun n _ => check11_tri b sz tb n)) ?_ (by assumption) (by repeat (first | exact Fr.rfl' _ _ | assumption | refine Fr.updk ?_ (by omega) _)) (by first | assumption | exact List.cons_ne_nil _ _) ?_); (focus first | ((repeat (first | exact trivial | refine ⟨(by first | exact Or.inl rfl | exact Or.inr rfl), ?_⟩)); done) | (simp only [coL, AV.dat, true_or, or_true, AV.d.injEq, go_sem]; done)); simp only [go_sem])
    | refine And.intro (by first | omega | exact trivial | rfl | assumption | (apply map_sz; intro a; simp only [go_sem]; done) | ((and_intros <;> first | omega | exact trivial | rfl | assumption | (apply map_sz; intro a; simp only [go_sem]; done) | fail); done) | fail) ?_
    | fail)
  first | refine ret_pure (by simp only [Try.results85, resOkL, resOk, Try.ntmps85, List.toList_toArray]; first | decide | (simp only [go_sem]; done) | (simp only [go_sem]; and_intros <;> first | omega | rfl | decide)) ?_ (by repeat (first | exact Fr.rfl' _ _ | assumption | refine Fr.updk ?_ (by omega) _)) | refine ret_ro (by simp only [Try.results85, resOkL, resOk, Try.ntmps85, List.toList_toArray]; first | decide | (simp only [go_sem]; done) | (simp only [go_sem]; and_intros <;> first | omega | rfl | decide)) ?_ (by repeat (first | exact Fr.rfl' _ _ | assumption | refine Fr.updk ?_ (by omega) _))
  simp only [resA, resV, Try.results85, go_sem]
  all_goals try (first | exact Co.t2 (.dat rfl) (.dat rfl) | exact Co.t3 (.dat rfl) (.dat rfl) (.dat rfl))
  exact .dat rfl
end Go.Proofs.Ytmeekpinkfpnhaa

namespace Go.Proofs.Ytmeekpinkfpnhaa
open Go.ChangeShapes Go.WideShapes Go.RowKit

theorem sum_one (l : List Int) : (l.map fun _ => 1).sum = l.length := by
  induction l with
  | nil => rfl
  | cons x xs ih => simp only [List.map_cons, List.sum_cons, List.length_cons, ih]; omega
set_option maxRecDepth 20000 in
theorem ints_reads : Reads Try.prog 22 (fun l : List Int => .sl (l.map iD)) (fun _ => True) (fun l => l.length + 1) := by
  intro n
  refine ReadsN.map (reads_slice Try.underlying22 (by decide +kernel) fun m _ => reads_int Try.underlying3 m) (fun l => l) fun l _ => ⟨rfl, trivial, ?_⟩
  rw [sum_one]; exact Nat.le_refl _
theorem ints_arg : ArgOf Try.prog 22 (fun l : List Int => .sl (l.map iD)) (fun _ => True) (fun l => l.length + 1) := argOf_slice Try.underlying22 ints_reads
set_option maxRecDepth 20000 in
theorem model_reads : Reads Try.prog 39 (fun m : Int × List (List Int) => mdDV m.1 m.2) (fun _ => True) (fun m => (m.2.map fun r => r.length + 1).sum + 2) := by
  intro n
  refine ReadsN.map (reads_struct Try.underlying39 rfl (by kernel_rfl) fun m hm => readsF_cons rfl (reads_int Try.underlying3 m) (readsF_cons rfl (reads_slice Try.underlying37 (by decide +kernel) fun m' _ => ints_reads m') readsF_nil)) (fun p => (p.1, p.2.1)) fun p _ => ⟨rfl, trivial, ?_⟩
  simp only
  omega
theorem model_arg : ArgOf Try.prog 39 (fun m : Int × List (List Int) => mdDV m.1 m.2) (fun _ => True) (fun m => (m.2.map fun r => r.length + 1).sum + 2) := argOf_struct Try.underlying39 model_reads fun a => ⟨_, rfl⟩
set_option maxRecDepth 20000 in
theorem lit_reads : Reads Try.prog 107 ltDV (fun _ => True) Lt.size := by
  intro n
  refine ReadsN.map (reads_struct Try.underlying107 rfl (by kernel_rfl) fun m hm => readsF_cons rfl (reads_bool Try.underlying4 m) (readsF_cons rfl (term_reads m) (readsF_cons rfl (term_reads m) readsF_nil))) (fun p => ⟨p.1, p.2.1, p.2.2.1⟩) fun p _ => ⟨?_, trivial, ?_⟩
  · simp only [tmDV_cells]; rfl
  · unfold Lt.size; simp only; omega
set_option maxRecDepth 20000 in
theorem clause_reads : Reads Try.prog 41 (fun c : List Lt => clDV c) (fun _ => True) (fun c => (c.map Lt.size).sum + 1) := by
  intro n
  exact ReadsN.map (reads_slice Try.underlying41 (by decide +kernel) fun m _ => lit_reads m) (fun l => l) fun l _ => ⟨rfl, trivial, Nat.le_refl _⟩
theorem clause_arg : ArgOf Try.prog 41 (fun c : List Lt => clDV c) (fun _ => True) (fun c => (c.map Lt.size).sum + 1) := argOf_slice Try.underlying41 clause_reads
end Go.Proofs.Ytmeekpinkfpnhaa

namespace Go.Proofs.Ytmeekpinkfpnhaa
open Go.RowKit
set_option linter.unusedSimpArgs false
set_option linter.unusedSectionVars false

theorem co_tm {k : Nat} {ren : Ren} {v f : Int} {a : AV} {us : List Tm} (h : a.toD? = some (.sl (us.map tmDV))) : Co k ren (.st [iA v, iA f, a]) (.d (tmDV (.mk v f us))) :=
  .dat (by simp only [AV.toD?, allD, h]; rw [tmDV_eq]; rfl)
set_option maxRecDepth 20000 in
theorem small_tri : Tri Try.prog 65 [] (pure' (.d (sgDV [0, 1]))) := by
  refine tri_enter Try.func65 rfl Try.ntmps65 (by simp only [List.length_cons, List.length_nil]; omega) fun w0 h0 k hrd hwr => ?_
  repeat' (first
    | refine awp_seq_k fun K hK => ?_
    | ((first | refine awp_region_k (by kernel_rfl) fun R hR => ?_ | refine awp_draw mixed (by kernel_rfl) (by kernel_rfl) fun R hR => ?_); simp only [go_sem])
    | ((first | (refine hR _ ?_; clear hR R) | refine awp_skip ?_ | refine awp_exit ?_ | refine awp_ret ?_); try simp only [thenA, inBlockA, reduceIte, reduceCtorEq, Nat.reduceEqDiff, if_false, if_true])
    | ((first | refine hK _ ?_ | (clear hK K; first | refine hK _ ?_ | (clear hK K; first | refine hK _ ?_ | (clear hK K; first | refine hK _ ?_ | (clear hK K; refine hK _ ?_))))); clear hK K)
    | refine awp_true rfl rfl ?_
    | refine awp_false rfl rfl ?_
    | refine awp_block ?_
    | refine And.intro (by first | omega | exact trivial | rfl | assumption | (apply map_sz; intro a; simp only [go_sem]; done) | ((and_intros <;> first | omega | exact trivial | rfl | assumption | (apply map_sz; intro a; simp only [go_sem]; done) | fail); done) | fail) ?_
    | fail)
  first | refine ret_pure (by simp only [Try.results65, resOkL, resOk, Try.ntmps65, List.toList_toArray]; first | decide | (simp only [go_sem]; done) | (simp only [go_sem]; and_intros <;> first | omega | rfl | decide)) ?_ (by repeat (first | exact Fr.rfl' _ _ | assumption | refine Fr.updk ?_ (by omega) _)) | refine ret_ro (by simp only [Try.results65, resOkL, resOk, Try.ntmps65, List.toList_toArray]; first | decide | (simp only [go_sem]; done) | (simp only [go_sem]; and_intros <;> first | omega | rfl | decide)) ?_ (by repeat (first | exact Fr.rfl' _ _ | assumption | refine Fr.updk ?_ (by omega) _))
  simp only [resA, resV, Try.results65, go_sem]
  all_goals try (first | exact Co.t2 (.dat rfl) (.dat rfl) | exact Co.t3 (.dat rfl) (.dat rfl) (.dat rfl))
  exact .dat rfl
set_option maxRecDepth 20000 in
theorem fn_tri (n : Int) (us : List Tm) : Tri Try.prog 66 [iA n, .d (.sl (us.map tmDV))] (pure' (.d (tmDV (.mk 0 n us)))) := by
  refine tri_enter Try.func66 rfl Try.ntmps66 (by simp only [List.length_cons, List.length_nil]; omega) fun w0 h0 k hrd hwr => ?_
  repeat' (first
    | refine awp_seq_k fun K hK => ?_
    | ((first | refine awp_region_k (by kernel_rfl) fun R hR => ?_ | refine awp_draw mixed (by kernel_rfl) (by kernel_rfl) fun R hR => ?_); simp only [go_sem])
    | ((first | (refine hR _ ?_; clear hR R) | refine awp_skip ?_ | refine awp_exit ?_ | refine awp_ret ?_); try simp only [thenA, inBlockA, reduceIte, reduceCtorEq, Nat.reduceEqDiff, if_false, if_true])
    | ((first | refine hK _ ?_ | (clear hK K; first | refine hK _ ?_ | (clear hK K; first | refine hK _ ?_ | (clear hK K; first | refine hK _ ?_ | (clear hK K; refine hK _ ?_))))); clear hK K)
    | refine awp_true rfl rfl ?_
    | refine awp_false rfl rfl ?_
    | refine awp_block ?_
    | refine And.intro (by first | omega | exact trivial | rfl | assumption | (apply map_sz; intro a; simp only [go_sem]; done) | ((and_intros <;> first | omega | exact trivial | rfl | assumption | (apply map_sz; intro a; simp only [go_sem]; done) | fail); done) | fail) ?_
    | fail)
  first | refine ret_pure (by simp only [Try.results66, resOkL, resOk, Try.ntmps66, List.toList_toArray]; first | decide | (simp only [go_sem]; done) | (simp only [go_sem]; and_intros <;> first | omega | rfl | decide)) ?_ (by repeat (first | exact Fr.rfl' _ _ | assumption | refine Fr.updk ?_ (by omega) _)) | refine ret_ro (by simp only [Try.results66, resOkL, resOk, Try.ntmps66, List.toList_toArray]; first | decide | (simp only [go_sem]; done) | (simp only [go_sem]; and_intros <;> first | omega | rfl | decide)) ?_ (by repeat (first | exact Fr.rfl' _ _ | assumption | refine Fr.updk ?_ (by omega) _))
  simp only [resA, resV, Try.results66, go_sem]
  all_goals try (first | exact Co.t2 (.dat rfl) (.dat rfl) | exact Co.t3 (.dat rfl) (.dat rfl) (.dat rfl))
  exact co_tm rfl
set_option maxRecDepth 20000 in
theorem va_tri (n : Int) : Tri Try.prog 67 [iA n] (pure' (.d (tmDV (.mk n 0 [])))) := by
  refine tri_enter Try.func67 rfl Try.ntmps67 (by simp only [List.length_cons, List.length_nil]; omega) fun w0 h0 k hrd hwr => ?_
  repeat' (first
    | refine awp_seq_k fun K hK => ?_
    | ((first | refine awp_region_k (by kernel_rfl) fun R hR => ?_ | refine awp_draw mixed (by kernel_rfl) (by kernel_rfl) fun R hR => ?_); simp only [go_sem])
    | ((first | (refine hR _ ?_; clear hR R) | refine awp_skip ?_ | refine awp_exit ?_ | refine awp_ret ?_); try simp only [thenA, inBlockA, reduceIte, reduceCtorEq, Nat.reduceEqDiff, if_false, if_true])
    | ((first | refine hK _ ?_ | (clear hK K; first | refine hK _ ?_ | (clear hK K; first | refine hK _ ?_ | (clear hK K; first | refine hK _ ?_ | (clear hK K; refine hK _ ?_))))); clear hK K)
    | refine awp_true rfl rfl ?_
    | refine awp_false rfl rfl ?_
    | refine awp_block ?_
    | refine And.intro (by first | omega | exact trivial | rfl | assumption | (apply map_sz; intro a; simp only [go_sem]; done) | ((and_intros <;> first | omega | exact trivial | rfl | assumption | (apply map_sz; intro a; simp only [go_sem]; done) | fail); done) | fail) ?_
    | fail)
  first | refine ret_pure (by simp only [Try.results67, resOkL, resOk, Try.ntmps67, List.toList_toArray]; first | decide | (simp only [go_sem]; done) | (simp only [go_sem]; and_intros <;> first | omega | rfl | decide)) ?_ (by repeat (first | exact Fr.rfl' _ _ | assumption | refine Fr.updk ?_ (by omega) _)) | refine ret_ro (by simp only [Try.results67, resOkL, resOk, Try.ntmps67, List.toList_toArray]; first | decide | (simp only [go_sem]; done) | (simp only [go_sem]; and_intros <;> first | omega | rfl | decide)) ?_ (by repeat (first | exact Fr.rfl' _ _ | assumption | refine Fr.updk ?_ (by omega) _))
  simp only [resA, resV, Try.results67, go_sem]
  all_goals try (first | exact Co.t2 (.dat rfl) (.dat rfl) | exact Co.t3 (.dat rfl) (.dat rfl) (.dat rfl))
  exact co_tm rfl
end Go.Proofs.Ytmeekpinkfpnhaa

namespace Go.Proofs.Ytmeekpinkfpnhaa

abbrev Bs := List (Int × Tm)
def lookB (v : Int) : Bs → Option Tm
  | [] => none
  | p :: b => if v = p.1 then some p.2 else lookB v b
mutual
/-- subst.Meet, superposeref.Grow: does it go; what is bound by then. -/
def meet : Tm → Tm → Bs → Bool × Bs
  | .mk v f us, t, b =>
    if v > 0 then match lookB v b with
      | some u => (same u t, b)
      | none => (true, b ++ [(v, t)])
    else if t.v = 0 ∧ f = t.f ∧ us.length = t.us.length then meetL us t.us b else (false, b)
def meetL : List Tm → List Tm → Bs → Bool × Bs
  | x :: xs, y :: ys, b => if (meet x y b).1 = true then meetL xs ys (meet x y b).2 else (false, (meet x y b).2)
  | _, _, b => (true, b)
end
theorem meet_eq (p t : Tm) (b : Bs) : meet p t b = if p.v > 0 then (match lookB p.v b with | some u => (same u t, b) | none => (true, b ++ [(p.v, t)])) else if t.v = 0 ∧ p.f = t.f ∧ p.us.length = t.us.length then meetL p.us t.us b else (false, b) := by
  cases p; rw [meet]; rfl
end Go.Proofs.Ytmeekpinkfpnhaa

namespace Go.Proofs.Ytmeekpinkfpnhaa

def sidesB (a b : Lt) : Bool := (same a.a b.a && same a.b b.b) || (same a.a b.b && same a.b b.a)
/-- clause.IsAlways, superposeref.AlwaysOf -/
def alwB (c : List Lt) : Bool := c.any fun l => l.y && (same l.a l.b || c.any fun x => !x.y && sidesB x l)
/-- Is a literal dropped, where these are ahead of it? -/
def dropB (o : List Lt) (l : Lt) : Bool := (!l.y && same l.a l.b) || o.any fun x => x.y == l.y && sidesB x l
theorem same_comm (a b : Tm) : same a b = same b a := by
  rw [Bool.eq_iff_iff, same_iff, same_iff]; exact eq_comm
theorem sides_comm (a b : Lt) : sidesB a b = sidesB b a := by
  unfold sidesB
  rw [same_comm a.a b.a, same_comm a.b b.b, same_comm a.a b.b, same_comm a.b b.a]
  cases same b.a a.a <;> cases same b.b a.b <;> cases same b.b a.a <;> cases same b.a a.b <;> rfl
end Go.Proofs.Ytmeekpinkfpnhaa

namespace Go.Proofs.Ytmeekpinkfpnhaa

/-- Which binding a variable has; -1: none. -/
def idxB (v : Int) : Bs → Nat → Int
  | [], _ => -1
  | p :: b, i => if p.1 = v then i else idxB v b (i + 1)
theorem idxB_at {v : Int} {b : Bs} {i : Nat} (hi : i < b.length) : idxB v (b.drop i) i = if b[i].1 = v then (i : Int) else idxB v (b.drop (i + 1)) (i + 1) := by
  rw [List.drop_eq_getElem_cons hi, idxB]
theorem idxB_look (v : Int) : ∀ (b : Bs) (i : Nat), (idxB v b i = -1 ∧ lookB v b = none) ∨ ∃ (j : Nat) (h : j < b.length), idxB v b i = ((i + j : Nat) : Int) ∧ lookB v b = some b[j].2
  | [], i => .inl ⟨rfl, rfl⟩
  | p :: b, i => by
    rw [idxB, lookB]
    by_cases h : p.1 = v
    · rw [if_pos h, if_pos h.symm]
      exact .inr ⟨0, by simp, by simp, rfl⟩
    · rw [if_neg h, if_neg (fun e => h e.symm)]
      rcases idxB_look v b (i + 1) with ⟨h1, h2⟩ | ⟨j, hj, h1, h2⟩
      · exact .inl ⟨h1, h2⟩
      · exact .inr ⟨j + 1, by simpa using hj, by rw [h1]; congr 1; omega, by simpa using h2⟩
mutual
/-- superposeref.Grow. -/
def grow : Tm → Tm → Bs → Bool × Bs
  | .mk v f us, t, b =>
    if v > 0 then match lookB v b with
      | some u => (same u t, b)
      | none => (true, b ++ [(v, t)])
    else if t.v > 0 ∨ f ≠ t.f ∨ us.length ≠ t.us.length then (false, b) else growL us t.us b
def growL : List Tm → List Tm → Bs → Bool × Bs
  | x :: xs, y :: ys, b => if (grow x y b).1 = true then growL xs ys (grow x y b).2 else (false, b)
  | _, _, b => (true, b)
end
theorem grow_eq (p t : Tm) (b : Bs) : grow p t b = if p.v > 0 then (match lookB p.v b with | some u => (same u t, b) | none => (true, b ++ [(p.v, t)])) else if t.v > 0 ∨ p.f ≠ t.f ∨ p.us.length ≠ t.us.length then (false, b) else growL p.us t.us b := by
  cases p; rw [grow]; rfl
theorem growL_at {xs ys : List Tm} {i : Nat} (hi : i < xs.length) (hi' : i < ys.length) (b : Bs) : growL (xs.drop i) (ys.drop i) b = if (grow xs[i] ys[i] b).1 = true then growL (xs.drop (i + 1)) (ys.drop (i + 1)) (grow xs[i] ys[i] b).2 else (false, b) := by
  rw [List.drop_eq_getElem_cons hi, List.drop_eq_getElem_cons hi', growL]
mutual
/-- Both roads go alike. -/
theorem meet_grow : ∀ (p t : Tm) (b : Bs), (∀ x ∈ parts t, 0 ≤ x.v) → (meet p t b).1 = (grow p t b).1 ∧ ((meet p t b).1 = true → (meet p t b).2 = (grow p t b).2)
  | .mk v f us, t, b, h => by
    rw [meet, grow]
    by_cases hv : v > 0
    · rw [if_pos hv, if_pos hv]; exact ⟨rfl, fun _ => rfl⟩
    · rw [if_neg hv, if_neg hv]
      have h0 := h t (by rw [parts_eq]; simp)
      by_cases hc : t.v = 0 ∧ f = t.f ∧ us.length = t.us.length
      · rw [if_pos hc, if_neg (by omega)]
        exact meetL_growL us t.us b fun x hx => h x (by rw [parts_eq]; exact List.mem_append_left _ hx)
      · rw [if_neg hc, if_pos (by omega)]; exact ⟨rfl, fun _ => rfl⟩
theorem meetL_growL : ∀ (xs ys : List Tm) (b : Bs), (∀ x ∈ partsL ys, 0 ≤ x.v) → (meetL xs ys b).1 = (growL xs ys b).1 ∧ ((meetL xs ys b).1 = true → (meetL xs ys b).2 = (growL xs ys b).2)
  | [], ys, b, _ => by cases ys <;> exact ⟨rfl, fun _ => rfl⟩
  | x :: xs, [], b, _ => ⟨rfl, fun _ => rfl⟩
  | x :: xs, y :: ys, b, h => by
    obtain ⟨h1, h2⟩ := meet_grow x y b fun z hz => h z (by rw [partsL]; exact List.mem_append_left _ hz)
    rw [meetL, growL, ← h1]
    by_cases hc : (meet x y b).1 = true
    · rw [if_pos hc, if_pos hc, h2 hc]
      exact meetL_growL xs ys _ fun z hz => h z (by rw [partsL]; exact List.mem_append_right _ hz)
    · rw [if_neg hc, if_neg hc]; exact ⟨rfl, fun h => by cases h⟩
end
theorem grow_len : ∀ (p t : Tm) (b : Bs), (grow p t b).2.length ≤ b.length + p.size := by
  suffices h : ∀ p : Tm, ∀ (t : Tm) (b : Bs), (grow p t b).2.length ≤ b.length + p.size from h
  intro p
  refine Tm.rec (motive_1 := fun p => ∀ (t : Tm) (b : Bs), (grow p t b).2.length ≤ b.length + p.size) (motive_2 := fun us => ∀ (ys : List Tm) (b : Bs), (growL us ys b).2.length ≤ b.length + Tm.size.sizes us) ?_ ?_ ?_ p
  · intro v f us ih t b
    rw [grow, Tm.size]
    by_cases hv : v > 0
    · rw [if_pos hv]
      cases lookB v b <;> simp <;> omega
    · rw [if_neg hv]
      split
      · simp
      · have := ih t.us b; omega
  · intro ys b; cases ys <;> simp [growL]
  · intro x xs h1 h2 ys b
    cases ys with
    | nil => simp [growL]
    | cons y ys =>
      rw [growL, Tm.size.sizes]
      split
      · have := h1 y b
        have := h2 ys (grow x y b).2
        omega
      · simp
end Go.Proofs.Ytmeekpinkfpnhaa
