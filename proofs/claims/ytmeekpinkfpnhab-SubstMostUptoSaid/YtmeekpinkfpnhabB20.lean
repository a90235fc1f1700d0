/- The law SubstMost: its walk. The law SubstMost: all its cases. -/
import Derived.Test.YtmeekpinkfpnhabB06
import Derived.Test.YtmeekpinkfpnhabB12
import Derived.Test.YtmeekpinkfpnhabB16
import Derived.Test.YtmeekpinkfpnhabB17
import Derived.Test.YtmeekpinkfpnhabB18
import Derived.Test.YtmeekpinkfpnhabB19
set_option linter.unusedSimpArgs false
set_option linter.unusedSectionVars false
set_option linter.unusedVariables false
set_option linter.unnecessarySimpa false
set_option linter.all false
namespace Go.Proofs.Ytmeekpinkfpnhab
open Go.RowKit
section
variable (g : List Int) (s t : Tm) (b m u : Bs) (x y p z : Tm) (f h e : Int)
  (hA1 : Tri Try.prog 8 [.d (sgDV g), .d (bsDV b), .d (tmDV s)] (pure' (.tup [.d (tmDV x), iA f])))
  (hA2 : Tri Try.prog 8 [.d (sgDV g), .d (bsDV b), .d (tmDV t)] (pure' (.tup [.d (tmDV y), iA h])))
section
variable (hU : Tri Try.prog 16 [.d (sgDV g), .d (tmDV s), .d (tmDV t)] (pure' (.tup [.d (.sl []), bA false, iA e])))
include hA1 hA2 hU
set_option maxHeartbeats 4000000 in
set_option maxRecDepth 20000 in
theorem smE_tri (hM : Tri Try.prog 15 [.d (sgDV g), .d (tmDV s), .d (tmDV t)] (pure' (.tup [.d (.sl []), bA false, iA e]))) (he : e ≠ 0) : Tri Try.prog 5 [.d (sgDV g), .d (tmDV s), .d (tmDV t), .d (bsDV b)] (pure' (bA true)) := by
  have q1 : (e == 0) = false := by simpa using he
  have q2 : (e != 0) = true := by simpa using he
  refine tri_enter Try.func5 rfl Try.ntmps5 (by simp only [List.length_cons, List.length_nil]; omega) fun w0 h0 k hrd hwr => ?_
  repeat' (first | refine awp_seq_k fun K hK => ?_ | ((first | refine awp_region_k (by kernel_rfl) fun R hR => ?_ | refine awp_draw mixed (by kernel_rfl) (by kernel_rfl) fun R hR => ?_); simp only [go_sem, q1, q2, beq_self_eq_true, bne_self_eq_false]) | ((first | (refine hR _ ?_; clear hR R) | refine awp_skip ?_ | refine awp_exit ?_ | refine awp_ret ?_); try simp only [thenA, inBlockA, reduceIte, reduceCtorEq, Nat.reduceEqDiff, if_false, if_true]) | ((first | refine hK _ ?_ | (clear hK K; first | refine hK _ ?_ | (clear hK K; first | refine hK _ ?_ | (clear hK K; first | refine hK _ ?_ | (clear hK K; refine hK _ ?_))))); clear hK K) | refine awp_true rfl rfl ?_ | refine awp_false rfl rfl ?_ | refine awp_block ?_ | ((first | refine CallK.pure (enter8) (hA1) ?_ ?_ | refine CallD.pure (enter8) (hA1) ?_ ?_); (focus first | ((repeat (first | exact trivial | refine ⟨(by first | exact Or.inl rfl | exact Or.inr rfl), ?_⟩)); done) | (simp only [coL, AV.dat, true_or, or_true, AV.d.injEq, go_sem]; done)); simp only [go_sem, q1, q2, beq_self_eq_true, bne_self_eq_false]) | ((first | refine CallK.pure (enter8) (hA2) ?_ ?_ | refine CallD.pure (enter8) (hA2) ?_ ?_); (focus first | ((repeat (first | exact trivial | refine ⟨(by first | exact Or.inl rfl | exact Or.inr rfl), ?_⟩)); done) | (simp only [coL, AV.dat, true_or, or_true, AV.d.injEq, go_sem]; done)); simp only [go_sem, q1, q2, beq_self_eq_true, bne_self_eq_false]) | ((first | refine CallK.pure (enter15) (hM) ?_ ?_ | refine CallD.pure (enter15) (hM) ?_ ?_ | refine CallK.pure (enter16) (hU) ?_ ?_ | refine CallD.pure (enter16) (hU) ?_ ?_ | refine CallK.pure (enter13) (substBegun_tri) ?_ ?_ | refine CallD.pure (enter13) (substBegun_tri) ?_ ?_); (focus first | ((repeat (first | exact trivial | refine ⟨(by first | exact Or.inl rfl | exact Or.inr rfl), ?_⟩)); done) | (simp only [coL, AV.dat, true_or, or_true, AV.d.injEq, go_sem]; done)); simp only [go_sem, q1, q2, beq_self_eq_true, bne_self_eq_false]) | refine And.intro (by first | ((repeat' first | omega | exact trivial | rfl | assumption | (intro a e; subst e; rfl) | exact map_sz fun a => (by simp only [go_sem]) | refine And.intro ?_ ?_); done) | fail) ?_ | fail)
  (first | refine ret_pure ?_ ?_ ?_ | refine ret_ro ?_ ?_ ?_); focus exact (by simp only [Try.results5, resOkL, resOk, Try.ntmps5, List.toList_toArray]; first | decide | (simp only [go_sem]; done) | (simp only [go_sem]; and_intros <;> first | omega | rfl | decide))
  rotate_left; focus exact (by repeat (first | exact Fr.rfl' _ _ | assumption | refine Fr.updk ?_ (by omega) _))
  simp only [resA, resV, Try.results5, go_sem]
  all_goals try (first | exact Co.t2 (.dat rfl) (.dat rfl) | exact Co.t3 (.dat rfl) (.dat rfl) (.dat rfl))
  exact .dat rfl
set_option maxHeartbeats 4000000 in
set_option maxRecDepth 20000 in
theorem smMN_tri (hM : Tri Try.prog 15 [.d (sgDV g), .d (tmDV s), .d (tmDV t)] (pure' (.tup [.d (.sl []), bA false, iA 0]))) (he : e ≠ 0) : Tri Try.prog 5 [.d (sgDV g), .d (tmDV s), .d (tmDV t), .d (bsDV b)] (pure' (bA true)) := by
  have q1 : (e == 0) = false := by simpa using he
  have q2 : (e != 0) = true := by simpa using he
  refine tri_enter Try.func5 rfl Try.ntmps5 (by simp only [List.length_cons, List.length_nil]; omega) fun w0 h0 k hrd hwr => ?_
  repeat' (first | refine awp_seq_k fun K hK => ?_ | ((first | refine awp_region_k (by kernel_rfl) fun R hR => ?_ | refine awp_draw mixed (by kernel_rfl) (by kernel_rfl) fun R hR => ?_); simp only [go_sem, q1, q2, beq_self_eq_true, bne_self_eq_false]) | ((first | (refine hR _ ?_; clear hR R) | refine awp_skip ?_ | refine awp_exit ?_ | refine awp_ret ?_); try simp only [thenA, inBlockA, reduceIte, reduceCtorEq, Nat.reduceEqDiff, if_false, if_true]) | ((first | refine hK _ ?_ | (clear hK K; first | refine hK _ ?_ | (clear hK K; first | refine hK _ ?_ | (clear hK K; first | refine hK _ ?_ | (clear hK K; refine hK _ ?_))))); clear hK K) | refine awp_true rfl rfl ?_ | refine awp_false rfl rfl ?_ | refine awp_block ?_ | ((first | refine CallK.pure (enter8) (hA1) ?_ ?_ | refine CallD.pure (enter8) (hA1) ?_ ?_); (focus first | ((repeat (first | exact trivial | refine ⟨(by first | exact Or.inl rfl | exact Or.inr rfl), ?_⟩)); done) | (simp only [coL, AV.dat, true_or, or_true, AV.d.injEq, go_sem]; done)); simp only [go_sem, q1, q2, beq_self_eq_true, bne_self_eq_false]) | ((first | refine CallK.pure (enter8) (hA2) ?_ ?_ | refine CallD.pure (enter8) (hA2) ?_ ?_); (focus first | ((repeat (first | exact trivial | refine ⟨(by first | exact Or.inl rfl | exact Or.inr rfl), ?_⟩)); done) | (simp only [coL, AV.dat, true_or, or_true, AV.d.injEq, go_sem]; done)); simp only [go_sem, q1, q2, beq_self_eq_true, bne_self_eq_false]) | ((first | refine CallK.pure (enter15) (hM) ?_ ?_ | refine CallD.pure (enter15) (hM) ?_ ?_ | refine CallK.pure (enter16) (hU) ?_ ?_ | refine CallD.pure (enter16) (hU) ?_ ?_ | refine CallK.pure (enter13) (substBegun_tri) ?_ ?_ | refine CallD.pure (enter13) (substBegun_tri) ?_ ?_); (focus first | ((repeat (first | exact trivial | refine ⟨(by first | exact Or.inl rfl | exact Or.inr rfl), ?_⟩)); done) | (simp only [coL, AV.dat, true_or, or_true, AV.d.injEq, go_sem]; done)); simp only [go_sem, q1, q2, beq_self_eq_true, bne_self_eq_false]) | refine And.intro (by first | ((repeat' first | omega | exact trivial | rfl | assumption | (intro a e; subst e; rfl) | exact map_sz fun a => (by simp only [go_sem]) | refine And.intro ?_ ?_); done) | fail) ?_ | fail)
  (first | refine ret_pure ?_ ?_ ?_ | refine ret_ro ?_ ?_ ?_); focus exact (by simp only [Try.results5, resOkL, resOk, Try.ntmps5, List.toList_toArray]; first | decide | (simp only [go_sem]; done) | (simp only [go_sem]; and_intros <;> first | omega | rfl | decide))
  rotate_left; focus exact (by repeat (first | exact Fr.rfl' _ _ | assumption | refine Fr.updk ?_ (by omega) _))
  simp only [resA, resV, Try.results5, go_sem]
  all_goals try (first | exact Co.t2 (.dat rfl) (.dat rfl) | exact Co.t3 (.dat rfl) (.dat rfl) (.dat rfl))
  exact .dat rfl
set_option maxHeartbeats 4000000 in
set_option maxRecDepth 20000 in
theorem smNN_tri (hM : Tri Try.prog 15 [.d (sgDV g), .d (tmDV s), .d (tmDV t)] (pure' (.tup [.d (.sl []), bA false, iA 0]))) (he : e = 0) (hq : f = 0 → h = 0 → same x y = false) : Tri Try.prog 5 [.d (sgDV g), .d (tmDV s), .d (tmDV t), .d (bsDV b)] (pure' (bA true)) := by
  subst he
  have hS1 := sameR_tri x y
  cases q1 : (f == 0) with
  | false =>
    refine tri_enter Try.func5 rfl Try.ntmps5 (by simp only [List.length_cons, List.length_nil]; omega) fun w0 h0 k hrd hwr => ?_
    repeat' (first | refine awp_seq_k fun K hK => ?_ | ((first | refine awp_region_k (by kernel_rfl) fun R hR => ?_ | refine awp_draw mixed (by kernel_rfl) (by kernel_rfl) fun R hR => ?_); simp only [go_sem, q1, beq_self_eq_true, bne_self_eq_false]) | ((first | (refine hR _ ?_; clear hR R) | refine awp_skip ?_ | refine awp_exit ?_ | refine awp_ret ?_); try simp only [thenA, inBlockA, reduceIte, reduceCtorEq, Nat.reduceEqDiff, if_false, if_true]) | ((first | refine hK _ ?_ | (clear hK K; first | refine hK _ ?_ | (clear hK K; first | refine hK _ ?_ | (clear hK K; first | refine hK _ ?_ | (clear hK K; refine hK _ ?_))))); clear hK K) | refine awp_true rfl rfl ?_ | refine awp_false rfl rfl ?_ | refine awp_block ?_ | ((first | refine CallK.pure (enter8) (hA1) ?_ ?_ | refine CallD.pure (enter8) (hA1) ?_ ?_); (focus first | ((repeat (first | exact trivial | refine ⟨(by first | exact Or.inl rfl | exact Or.inr rfl), ?_⟩)); done) | (simp only [coL, AV.dat, true_or, or_true, AV.d.injEq, go_sem]; done)); simp only [go_sem, q1, beq_self_eq_true, bne_self_eq_false]) | ((first | refine CallK.pure (enter8) (hA2) ?_ ?_ | refine CallD.pure (enter8) (hA2) ?_ ?_); (focus first | ((repeat (first | exact trivial | refine ⟨(by first | exact Or.inl rfl | exact Or.inr rfl), ?_⟩)); done) | (simp only [coL, AV.dat, true_or, or_true, AV.d.injEq, go_sem]; done)); simp only [go_sem, q1, beq_self_eq_true, bne_self_eq_false]) | ((first | refine CallK.pure (enter15) (hM) ?_ ?_ | refine CallD.pure (enter15) (hM) ?_ ?_ | refine CallK.pure (enter16) (hU) ?_ ?_ | refine CallD.pure (enter16) (hU) ?_ ?_ | refine CallK.pure (enter13) (substBegun_tri) ?_ ?_ | refine CallD.pure (enter13) (substBegun_tri) ?_ ?_); (focus first | ((repeat (first | exact trivial | refine ⟨(by first | exact Or.inl rfl | exact Or.inr rfl), ?_⟩)); done) | (simp only [coL, AV.dat, true_or, or_true, AV.d.injEq, go_sem]; done)); simp only [go_sem, q1, beq_self_eq_true, bne_self_eq_false]) | refine And.intro (by first | ((repeat' first | omega | exact trivial | rfl | assumption | (intro a e; subst e; rfl) | exact map_sz fun a => (by simp only [go_sem]) | refine And.intro ?_ ?_); done) | fail) ?_ | fail)
    (first | refine ret_pure ?_ ?_ ?_ | refine ret_ro ?_ ?_ ?_); focus exact (by simp only [Try.results5, resOkL, resOk, Try.ntmps5, List.toList_toArray]; first | decide | (simp only [go_sem]; done) | (simp only [go_sem]; and_intros <;> first | omega | rfl | decide))
    rotate_left; focus exact (by repeat (first | exact Fr.rfl' _ _ | assumption | refine Fr.updk ?_ (by omega) _))
    simp only [resA, resV, Try.results5, go_sem]
    all_goals try (first | exact Co.t2 (.dat rfl) (.dat rfl) | exact Co.t3 (.dat rfl) (.dat rfl) (.dat rfl))
    exact .dat rfl
  | true =>
    cases q2 : (h == 0) with
    | false =>
      refine tri_enter Try.func5 rfl Try.ntmps5 (by simp only [List.length_cons, List.length_nil]; omega) fun w0 h0 k hrd hwr => ?_
      repeat' (first | refine awp_seq_k fun K hK => ?_ | ((first | refine awp_region_k (by kernel_rfl) fun R hR => ?_ | refine awp_draw mixed (by kernel_rfl) (by kernel_rfl) fun R hR => ?_); simp only [go_sem, q1, q2, beq_self_eq_true, bne_self_eq_false]) | ((first | (refine hR _ ?_; clear hR R) | refine awp_skip ?_ | refine awp_exit ?_ | refine awp_ret ?_); try simp only [thenA, inBlockA, reduceIte, reduceCtorEq, Nat.reduceEqDiff, if_false, if_true]) | ((first | refine hK _ ?_ | (clear hK K; first | refine hK _ ?_ | (clear hK K; first | refine hK _ ?_ | (clear hK K; first | refine hK _ ?_ | (clear hK K; refine hK _ ?_))))); clear hK K) | refine awp_true rfl rfl ?_ | refine awp_false rfl rfl ?_ | refine awp_block ?_ | ((first | refine CallK.pure (enter8) (hA1) ?_ ?_ | refine CallD.pure (enter8) (hA1) ?_ ?_); (focus first | ((repeat (first | exact trivial | refine ⟨(by first | exact Or.inl rfl | exact Or.inr rfl), ?_⟩)); done) | (simp only [coL, AV.dat, true_or, or_true, AV.d.injEq, go_sem]; done)); simp only [go_sem, q1, q2, beq_self_eq_true, bne_self_eq_false]) | ((first | refine CallK.pure (enter8) (hA2) ?_ ?_ | refine CallD.pure (enter8) (hA2) ?_ ?_); (focus first | ((repeat (first | exact trivial | refine ⟨(by first | exact Or.inl rfl | exact Or.inr rfl), ?_⟩)); done) | (simp only [coL, AV.dat, true_or, or_true, AV.d.injEq, go_sem]; done)); simp only [go_sem, q1, q2, beq_self_eq_true, bne_self_eq_false]) | ((first | refine CallK.pure (enter15) (hM) ?_ ?_ | refine CallD.pure (enter15) (hM) ?_ ?_ | refine CallK.pure (enter16) (hU) ?_ ?_ | refine CallD.pure (enter16) (hU) ?_ ?_ | refine CallK.pure (enter13) (substBegun_tri) ?_ ?_ | refine CallD.pure (enter13) (substBegun_tri) ?_ ?_); (focus first | ((repeat (first | exact trivial | refine ⟨(by first | exact Or.inl rfl | exact Or.inr rfl), ?_⟩)); done) | (simp only [coL, AV.dat, true_or, or_true, AV.d.injEq, go_sem]; done)); simp only [go_sem, q1, q2, beq_self_eq_true, bne_self_eq_false]) | refine And.intro (by first | ((repeat' first | omega | exact trivial | rfl | assumption | (intro a e; subst e; rfl) | exact map_sz fun a => (by simp only [go_sem]) | refine And.intro ?_ ?_); done) | fail) ?_ | fail)
      (first | refine ret_pure ?_ ?_ ?_ | refine ret_ro ?_ ?_ ?_); focus exact (by simp only [Try.results5, resOkL, resOk, Try.ntmps5, List.toList_toArray]; first | decide | (simp only [go_sem]; done) | (simp only [go_sem]; and_intros <;> first | omega | rfl | decide))
      rotate_left; focus exact (by repeat (first | exact Fr.rfl' _ _ | assumption | refine Fr.updk ?_ (by omega) _))
      simp only [resA, resV, Try.results5, go_sem]
      all_goals try (first | exact Co.t2 (.dat rfl) (.dat rfl) | exact Co.t3 (.dat rfl) (.dat rfl) (.dat rfl))
      exact .dat rfl
    | true =>
      rw [hq (by simpa using q1) (by simpa using q2)] at hS1
      refine tri_enter Try.func5 rfl Try.ntmps5 (by simp only [List.length_cons, List.length_nil]; omega) fun w0 h0 k hrd hwr => ?_
      repeat' (first | refine awp_seq_k fun K hK => ?_ | ((first | refine awp_region_k (by kernel_rfl) fun R hR => ?_ | refine awp_draw mixed (by kernel_rfl) (by kernel_rfl) fun R hR => ?_); simp only [go_sem, q1, q2, beq_self_eq_true, bne_self_eq_false]) | ((first | (refine hR _ ?_; clear hR R) | refine awp_skip ?_ | refine awp_exit ?_ | refine awp_ret ?_); try simp only [thenA, inBlockA, reduceIte, reduceCtorEq, Nat.reduceEqDiff, if_false, if_true]) | ((first | refine hK _ ?_ | (clear hK K; first | refine hK _ ?_ | (clear hK K; first | refine hK _ ?_ | (clear hK K; first | refine hK _ ?_ | (clear hK K; refine hK _ ?_))))); clear hK K) | refine awp_true rfl rfl ?_ | refine awp_false rfl rfl ?_ | refine awp_block ?_ | ((first | refine CallK.pure (enter8) (hA1) ?_ ?_ | refine CallD.pure (enter8) (hA1) ?_ ?_); (focus first | ((repeat (first | exact trivial | refine ⟨(by first | exact Or.inl rfl | exact Or.inr rfl), ?_⟩)); done) | (simp only [coL, AV.dat, true_or, or_true, AV.d.injEq, go_sem]; done)); simp only [go_sem, q1, q2, beq_self_eq_true, bne_self_eq_false]) | ((first | refine CallK.pure (enter8) (hA2) ?_ ?_ | refine CallD.pure (enter8) (hA2) ?_ ?_); (focus first | ((repeat (first | exact trivial | refine ⟨(by first | exact Or.inl rfl | exact Or.inr rfl), ?_⟩)); done) | (simp only [coL, AV.dat, true_or, or_true, AV.d.injEq, go_sem]; done)); simp only [go_sem, q1, q2, beq_self_eq_true, bne_self_eq_false]) | ((first | refine CallK.pure (enter15) (hM) ?_ ?_ | refine CallD.pure (enter15) (hM) ?_ ?_ | refine CallK.pure (enter16) (hU) ?_ ?_ | refine CallD.pure (enter16) (hU) ?_ ?_ | refine CallK.pure (enter13) (substBegun_tri) ?_ ?_ | refine CallD.pure (enter13) (substBegun_tri) ?_ ?_ | refine CallK.pure (enter22) (hS1) ?_ ?_ | refine CallD.pure (enter22) (hS1) ?_ ?_); (focus first | ((repeat (first | exact trivial | refine ⟨(by first | exact Or.inl rfl | exact Or.inr rfl), ?_⟩)); done) | (simp only [coL, AV.dat, true_or, or_true, AV.d.injEq, go_sem]; done)); simp only [go_sem, q1, q2, beq_self_eq_true, bne_self_eq_false]) | refine And.intro (by first | ((repeat' first | omega | exact trivial | rfl | assumption | (intro a e; subst e; rfl) | exact map_sz fun a => (by simp only [go_sem]) | refine And.intro ?_ ?_); done) | fail) ?_ | fail)
      (first | refine ret_pure ?_ ?_ ?_ | refine ret_ro ?_ ?_ ?_); focus exact (by simp only [Try.results5, resOkL, resOk, Try.ntmps5, List.toList_toArray]; first | decide | (simp only [go_sem]; done) | (simp only [go_sem]; and_intros <;> first | omega | rfl | decide))
      rotate_left; focus exact (by repeat (first | exact Fr.rfl' _ _ | assumption | refine Fr.updk ?_ (by omega) _))
      simp only [resA, resV, Try.results5, go_sem]
      all_goals try (first | exact Co.t2 (.dat rfl) (.dat rfl) | exact Co.t3 (.dat rfl) (.dat rfl) (.dat rfl))
      exact .dat rfl
set_option maxHeartbeats 4000000 in
set_option maxRecDepth 20000 in
theorem smMP_tri (hM : Tri Try.prog 15 [.d (sgDV g), .d (tmDV s), .d (tmDV t)] (pure' (.tup [.d (bsDV m), bA true, iA 0]))) (hA0 : Tri Try.prog 8 [.d (sgDV g), .d (bsDV m), .d (tmDV s)] (pure' (.tup [.d (tmDV t), iA 0]))) (he : e ≠ 0) : Tri Try.prog 5 [.d (sgDV g), .d (tmDV s), .d (tmDV t), .d (bsDV b)] (pure' (bA true)) := by
  have hS0 := sameR_tri t t
  rw [same_rfl] at hS0
  have q1 : (e == 0) = false := by simpa using he
  have q2 : (e != 0) = true := by simpa using he
  refine tri_enter Try.func5 rfl Try.ntmps5 (by simp only [List.length_cons, List.length_nil]; omega) fun w0 h0 k hrd hwr => ?_
  repeat' (first | refine awp_seq_k fun K hK => ?_ | ((first | refine awp_region_k (by kernel_rfl) fun R hR => ?_ | refine awp_draw mixed (by kernel_rfl) (by kernel_rfl) fun R hR => ?_); simp only [go_sem, q1, q2, beq_self_eq_true, bne_self_eq_false]) | ((first | (refine hR _ ?_; clear hR R) | refine awp_skip ?_ | refine awp_exit ?_ | refine awp_ret ?_); try simp only [thenA, inBlockA, reduceIte, reduceCtorEq, Nat.reduceEqDiff, if_false, if_true]) | ((first | refine hK _ ?_ | (clear hK K; first | refine hK _ ?_ | (clear hK K; first | refine hK _ ?_ | (clear hK K; first | refine hK _ ?_ | (clear hK K; refine hK _ ?_))))); clear hK K) | refine awp_true rfl rfl ?_ | refine awp_false rfl rfl ?_ | refine awp_block ?_ | ((first | refine CallK.pure (enter8) (hA1) ?_ ?_ | refine CallD.pure (enter8) (hA1) ?_ ?_); (focus first | ((repeat (first | exact trivial | refine ⟨(by first | exact Or.inl rfl | exact Or.inr rfl), ?_⟩)); done) | (simp only [coL, AV.dat, true_or, or_true, AV.d.injEq, go_sem]; done)); simp only [go_sem, q1, q2, beq_self_eq_true, bne_self_eq_false]) | ((first | refine CallK.pure (enter8) (hA2) ?_ ?_ | refine CallD.pure (enter8) (hA2) ?_ ?_); (focus first | ((repeat (first | exact trivial | refine ⟨(by first | exact Or.inl rfl | exact Or.inr rfl), ?_⟩)); done) | (simp only [coL, AV.dat, true_or, or_true, AV.d.injEq, go_sem]; done)); simp only [go_sem, q1, q2, beq_self_eq_true, bne_self_eq_false]) | ((first | refine CallK.pure (enter8) (hA0) ?_ ?_ | refine CallD.pure (enter8) (hA0) ?_ ?_); (focus first | ((repeat (first | exact trivial | refine ⟨(by first | exact Or.inl rfl | exact Or.inr rfl), ?_⟩)); done) | (simp only [coL, AV.dat, true_or, or_true, AV.d.injEq, go_sem]; done)); simp only [go_sem, q1, q2, beq_self_eq_true, bne_self_eq_false]) | ((first | refine CallK.pure (enter15) (hM) ?_ ?_ | refine CallD.pure (enter15) (hM) ?_ ?_ | refine CallK.pure (enter16) (hU) ?_ ?_ | refine CallD.pure (enter16) (hU) ?_ ?_ | refine CallK.pure (enter13) (substBegun_tri) ?_ ?_ | refine CallD.pure (enter13) (substBegun_tri) ?_ ?_ | refine CallK.pure (enter22) (hS0) ?_ ?_ | refine CallD.pure (enter22) (hS0) ?_ ?_); (focus first | ((repeat (first | exact trivial | refine ⟨(by first | exact Or.inl rfl | exact Or.inr rfl), ?_⟩)); done) | (simp only [coL, AV.dat, true_or, or_true, AV.d.injEq, go_sem]; done)); simp only [go_sem, q1, q2, beq_self_eq_true, bne_self_eq_false]) | refine And.intro (by first | ((repeat' first | omega | exact trivial | rfl | assumption | (intro a e; subst e; rfl) | exact map_sz fun a => (by simp only [go_sem]) | refine And.intro ?_ ?_); done) | fail) ?_ | fail)
  (first | refine ret_pure ?_ ?_ ?_ | refine ret_ro ?_ ?_ ?_); focus exact (by simp only [Try.results5, resOkL, resOk, Try.ntmps5, List.toList_toArray]; first | decide | (simp only [go_sem]; done) | (simp only [go_sem]; and_intros <;> first | omega | rfl | decide))
  rotate_left; focus exact (by repeat (first | exact Fr.rfl' _ _ | assumption | refine Fr.updk ?_ (by omega) _))
  simp only [resA, resV, Try.results5, go_sem]
  all_goals try (first | exact Co.t2 (.dat rfl) (.dat rfl) | exact Co.t3 (.dat rfl) (.dat rfl) (.dat rfl))
  exact .dat rfl
set_option maxHeartbeats 4000000 in
set_option maxRecDepth 20000 in
theorem smNP_tri (hM : Tri Try.prog 15 [.d (sgDV g), .d (tmDV s), .d (tmDV t)] (pure' (.tup [.d (bsDV m), bA true, iA 0]))) (hA0 : Tri Try.prog 8 [.d (sgDV g), .d (bsDV m), .d (tmDV s)] (pure' (.tup [.d (tmDV t), iA 0]))) (he : e = 0) (hq : f = 0 → h = 0 → same x y = false) : Tri Try.prog 5 [.d (sgDV g), .d (tmDV s), .d (tmDV t), .d (bsDV b)] (pure' (bA true)) := by
  have hS0 := sameR_tri t t
  rw [same_rfl] at hS0
  subst he
  have hS1 := sameR_tri x y
  cases q1 : (f == 0) with
  | false =>
    refine tri_enter Try.func5 rfl Try.ntmps5 (by simp only [List.length_cons, List.length_nil]; omega) fun w0 h0 k hrd hwr => ?_
    repeat' (first | refine awp_seq_k fun K hK => ?_ | ((first | refine awp_region_k (by kernel_rfl) fun R hR => ?_ | refine awp_draw mixed (by kernel_rfl) (by kernel_rfl) fun R hR => ?_); simp only [go_sem, q1, beq_self_eq_true, bne_self_eq_false]) | ((first | (refine hR _ ?_; clear hR R) | refine awp_skip ?_ | refine awp_exit ?_ | refine awp_ret ?_); try simp only [thenA, inBlockA, reduceIte, reduceCtorEq, Nat.reduceEqDiff, if_false, if_true]) | ((first | refine hK _ ?_ | (clear hK K; first | refine hK _ ?_ | (clear hK K; first | refine hK _ ?_ | (clear hK K; first | refine hK _ ?_ | (clear hK K; refine hK _ ?_))))); clear hK K) | refine awp_true rfl rfl ?_ | refine awp_false rfl rfl ?_ | refine awp_block ?_ | ((first | refine CallK.pure (enter8) (hA1) ?_ ?_ | refine CallD.pure (enter8) (hA1) ?_ ?_); (focus first | ((repeat (first | exact trivial | refine ⟨(by first | exact Or.inl rfl | exact Or.inr rfl), ?_⟩)); done) | (simp only [coL, AV.dat, true_or, or_true, AV.d.injEq, go_sem]; done)); simp only [go_sem, q1, beq_self_eq_true, bne_self_eq_false]) | ((first | refine CallK.pure (enter8) (hA2) ?_ ?_ | refine CallD.pure (enter8) (hA2) ?_ ?_); (focus first | ((repeat (first | exact trivial | refine ⟨(by first | exact Or.inl rfl | exact Or.inr rfl), ?_⟩)); done) | (simp only [coL, AV.dat, true_or, or_true, AV.d.injEq, go_sem]; done)); simp only [go_sem, q1, beq_self_eq_true, bne_self_eq_false]) | ((first | refine CallK.pure (enter8) (hA0) ?_ ?_ | refine CallD.pure (enter8) (hA0) ?_ ?_); (focus first | ((repeat (first | exact trivial | refine ⟨(by first | exact Or.inl rfl | exact Or.inr rfl), ?_⟩)); done) | (simp only [coL, AV.dat, true_or, or_true, AV.d.injEq, go_sem]; done)); simp only [go_sem, q1, beq_self_eq_true, bne_self_eq_false]) | ((first | refine CallK.pure (enter15) (hM) ?_ ?_ | refine CallD.pure (enter15) (hM) ?_ ?_ | refine CallK.pure (enter16) (hU) ?_ ?_ | refine CallD.pure (enter16) (hU) ?_ ?_ | refine CallK.pure (enter13) (substBegun_tri) ?_ ?_ | refine CallD.pure (enter13) (substBegun_tri) ?_ ?_ | refine CallK.pure (enter22) (hS0) ?_ ?_ | refine CallD.pure (enter22) (hS0) ?_ ?_); (focus first | ((repeat (first | exact trivial | refine ⟨(by first | exact Or.inl rfl | exact Or.inr rfl), ?_⟩)); done) | (simp only [coL, AV.dat, true_or, or_true, AV.d.injEq, go_sem]; done)); simp only [go_sem, q1, beq_self_eq_true, bne_self_eq_false]) | refine And.intro (by first | ((repeat' first | omega | exact trivial | rfl | assumption | (intro a e; subst e; rfl) | exact map_sz fun a => (by simp only [go_sem]) | refine And.intro ?_ ?_); done) | fail) ?_ | fail)
    (first | refine ret_pure ?_ ?_ ?_ | refine ret_ro ?_ ?_ ?_); focus exact (by simp only [Try.results5, resOkL, resOk, Try.ntmps5, List.toList_toArray]; first | decide | (simp only [go_sem]; done) | (simp only [go_sem]; and_intros <;> first | omega | rfl | decide))
    rotate_left; focus exact (by repeat (first | exact Fr.rfl' _ _ | assumption | refine Fr.updk ?_ (by omega) _))
    simp only [resA, resV, Try.results5, go_sem]
    all_goals try (first | exact Co.t2 (.dat rfl) (.dat rfl) | exact Co.t3 (.dat rfl) (.dat rfl) (.dat rfl))
    exact .dat rfl
  | true =>
    cases q2 : (h == 0) with
    | false =>
      refine tri_enter Try.func5 rfl Try.ntmps5 (by simp only [List.length_cons, List.length_nil]; omega) fun w0 h0 k hrd hwr => ?_
      repeat' (first | refine awp_seq_k fun K hK => ?_ | ((first | refine awp_region_k (by kernel_rfl) fun R hR => ?_ | refine awp_draw mixed (by kernel_rfl) (by kernel_rfl) fun R hR => ?_); simp only [go_sem, q1, q2, beq_self_eq_true, bne_self_eq_false]) | ((first | (refine hR _ ?_; clear hR R) | refine awp_skip ?_ | refine awp_exit ?_ | refine awp_ret ?_); try simp only [thenA, inBlockA, reduceIte, reduceCtorEq, Nat.reduceEqDiff, if_false, if_true]) | ((first | refine hK _ ?_ | (clear hK K; first | refine hK _ ?_ | (clear hK K; first | refine hK _ ?_ | (clear hK K; first | refine hK _ ?_ | (clear hK K; refine hK _ ?_))))); clear hK K) | refine awp_true rfl rfl ?_ | refine awp_false rfl rfl ?_ | refine awp_block ?_ | ((first | refine CallK.pure (enter8) (hA1) ?_ ?_ | refine CallD.pure (enter8) (hA1) ?_ ?_); (focus first | ((repeat (first | exact trivial | refine ⟨(by first | exact Or.inl rfl | exact Or.inr rfl), ?_⟩)); done) | (simp only [coL, AV.dat, true_or, or_true, AV.d.injEq, go_sem]; done)); simp only [go_sem, q1, q2, beq_self_eq_true, bne_self_eq_false]) | ((first | refine CallK.pure (enter8) (hA2) ?_ ?_ | refine CallD.pure (enter8) (hA2) ?_ ?_); (focus first | ((repeat (first | exact trivial | refine ⟨(by first | exact Or.inl rfl | exact Or.inr rfl), ?_⟩)); done) | (simp only [coL, AV.dat, true_or, or_true, AV.d.injEq, go_sem]; done)); simp only [go_sem, q1, q2, beq_self_eq_true, bne_self_eq_false]) | ((first | refine CallK.pure (enter8) (hA0) ?_ ?_ | refine CallD.pure (enter8) (hA0) ?_ ?_); (focus first | ((repeat (first | exact trivial | refine ⟨(by first | exact Or.inl rfl | exact Or.inr rfl), ?_⟩)); done) | (simp only [coL, AV.dat, true_or, or_true, AV.d.injEq, go_sem]; done)); simp only [go_sem, q1, q2, beq_self_eq_true, bne_self_eq_false]) | ((first | refine CallK.pure (enter15) (hM) ?_ ?_ | refine CallD.pure (enter15) (hM) ?_ ?_ | refine CallK.pure (enter16) (hU) ?_ ?_ | refine CallD.pure (enter16) (hU) ?_ ?_ | refine CallK.pure (enter13) (substBegun_tri) ?_ ?_ | refine CallD.pure (enter13) (substBegun_tri) ?_ ?_ | refine CallK.pure (enter22) (hS0) ?_ ?_ | refine CallD.pure (enter22) (hS0) ?_ ?_); (focus first | ((repeat (first | exact trivial | refine ⟨(by first | exact Or.inl rfl | exact Or.inr rfl), ?_⟩)); done) | (simp only [coL, AV.dat, true_or, or_true, AV.d.injEq, go_sem]; done)); simp only [go_sem, q1, q2, beq_self_eq_true, bne_self_eq_false]) | refine And.intro (by first | ((repeat' first | omega | exact trivial | rfl | assumption | (intro a e; subst e; rfl) | exact map_sz fun a => (by simp only [go_sem]) | refine And.intro ?_ ?_); done) | fail) ?_ | fail)
      (first | refine ret_pure ?_ ?_ ?_ | refine ret_ro ?_ ?_ ?_); focus exact (by simp only [Try.results5, resOkL, resOk, Try.ntmps5, List.toList_toArray]; first | decide | (simp only [go_sem]; done) | (simp only [go_sem]; and_intros <;> first | omega | rfl | decide))
      rotate_left; focus exact (by repeat (first | exact Fr.rfl' _ _ | assumption | refine Fr.updk ?_ (by omega) _))
      simp only [resA, resV, Try.results5, go_sem]
      all_goals try (first | exact Co.t2 (.dat rfl) (.dat rfl) | exact Co.t3 (.dat rfl) (.dat rfl) (.dat rfl))
      exact .dat rfl
    | true =>
      rw [hq (by simpa using q1) (by simpa using q2)] at hS1
      refine tri_enter Try.func5 rfl Try.ntmps5 (by simp only [List.length_cons, List.length_nil]; omega) fun w0 h0 k hrd hwr => ?_
      repeat' (first | refine awp_seq_k fun K hK => ?_ | ((first | refine awp_region_k (by kernel_rfl) fun R hR => ?_ | refine awp_draw mixed (by kernel_rfl) (by kernel_rfl) fun R hR => ?_); simp only [go_sem, q1, q2, beq_self_eq_true, bne_self_eq_false]) | ((first | (refine hR _ ?_; clear hR R) | refine awp_skip ?_ | refine awp_exit ?_ | refine awp_ret ?_); try simp only [thenA, inBlockA, reduceIte, reduceCtorEq, Nat.reduceEqDiff, if_false, if_true]) | ((first | refine hK _ ?_ | (clear hK K; first | refine hK _ ?_ | (clear hK K; first | refine hK _ ?_ | (clear hK K; first | refine hK _ ?_ | (clear hK K; refine hK _ ?_))))); clear hK K) | refine awp_true rfl rfl ?_ | refine awp_false rfl rfl ?_ | refine awp_block ?_ | ((first | refine CallK.pure (enter8) (hA1) ?_ ?_ | refine CallD.pure (enter8) (hA1) ?_ ?_); (focus first | ((repeat (first | exact trivial | refine ⟨(by first | exact Or.inl rfl | exact Or.inr rfl), ?_⟩)); done) | (simp only [coL, AV.dat, true_or, or_true, AV.d.injEq, go_sem]; done)); simp only [go_sem, q1, q2, beq_self_eq_true, bne_self_eq_false]) | ((first | refine CallK.pure (enter8) (hA2) ?_ ?_ | refine CallD.pure (enter8) (hA2) ?_ ?_); (focus first | ((repeat (first | exact trivial | refine ⟨(by first | exact Or.inl rfl | exact Or.inr rfl), ?_⟩)); done) | (simp only [coL, AV.dat, true_or, or_true, AV.d.injEq, go_sem]; done)); simp only [go_sem, q1, q2, beq_self_eq_true, bne_self_eq_false]) | ((first | refine CallK.pure (enter8) (hA0) ?_ ?_ | refine CallD.pure (enter8) (hA0) ?_ ?_); (focus first | ((repeat (first | exact trivial | refine ⟨(by first | exact Or.inl rfl | exact Or.inr rfl), ?_⟩)); done) | (simp only [coL, AV.dat, true_or, or_true, AV.d.injEq, go_sem]; done)); simp only [go_sem, q1, q2, beq_self_eq_true, bne_self_eq_false]) | ((first | refine CallK.pure (enter22) (hS0) ?_ ?_ | refine CallD.pure (enter22) (hS0) ?_ ?_); (focus first | ((repeat (first | exact trivial | refine ⟨(by first | exact Or.inl rfl | exact Or.inr rfl), ?_⟩)); done) | (simp only [coL, AV.dat, true_or, or_true, AV.d.injEq, go_sem]; done)); simp only [go_sem, q1, q2, beq_self_eq_true, bne_self_eq_false]) | ((first | refine CallK.pure (enter22) (hS1) ?_ ?_ | refine CallD.pure (enter22) (hS1) ?_ ?_); (focus first | ((repeat (first | exact trivial | refine ⟨(by first | exact Or.inl rfl | exact Or.inr rfl), ?_⟩)); done) | (simp only [coL, AV.dat, true_or, or_true, AV.d.injEq, go_sem]; done)); simp only [go_sem, q1, q2, beq_self_eq_true, bne_self_eq_false]) | ((first | refine CallK.pure (enter15) (hM) ?_ ?_ | refine CallD.pure (enter15) (hM) ?_ ?_ | refine CallK.pure (enter16) (hU) ?_ ?_ | refine CallD.pure (enter16) (hU) ?_ ?_ | refine CallK.pure (enter13) (substBegun_tri) ?_ ?_ | refine CallD.pure (enter13) (substBegun_tri) ?_ ?_); (focus first | ((repeat (first | exact trivial | refine ⟨(by first | exact Or.inl rfl | exact Or.inr rfl), ?_⟩)); done) | (simp only [coL, AV.dat, true_or, or_true, AV.d.injEq, go_sem]; done)); simp only [go_sem, q1, q2, beq_self_eq_true, bne_self_eq_false]) | refine And.intro (by first | ((repeat' first | omega | exact trivial | rfl | assumption | (intro a e; subst e; rfl) | exact map_sz fun a => (by simp only [go_sem]) | refine And.intro ?_ ?_); done) | fail) ?_ | fail)
      (first | refine ret_pure ?_ ?_ ?_ | refine ret_ro ?_ ?_ ?_); focus exact (by simp only [Try.results5, resOkL, resOk, Try.ntmps5, List.toList_toArray]; first | decide | (simp only [go_sem]; done) | (simp only [go_sem]; and_intros <;> first | omega | rfl | decide))
      rotate_left; focus exact (by repeat (first | exact Fr.rfl' _ _ | assumption | refine Fr.updk ?_ (by omega) _))
      simp only [resA, resV, Try.results5, go_sem]
      all_goals try (first | exact Co.t2 (.dat rfl) (.dat rfl) | exact Co.t3 (.dat rfl) (.dat rfl) (.dat rfl))
      exact .dat rfl
end
end
end Go.Proofs.Ytmeekpinkfpnhab
namespace Go.Proofs.Ytmeekpinkfpnhab
open Go.RowKit
theorem substMost_tri (g : List Int) (s t : Tm) (b : Bs) (hb : b.length ≤ 4000000) : Tri Try.prog 5 [.d (sgDV g), .d (tmDV s), .d (tmDV t), .d (bsDV b)] (pure' (bA true)) := by
  have v1 := sapply_tri g b s hb
  have v2 := sapply_tri g b t hb
  by_cases he : allOk g [s, t] = 0
  · obtain ⟨hg, hown⟩ := allOk_own he
    have hs := hown s (by simp)
    have ht := hown t (by simp)
    have hq : ∀ x y f h, applyAns g b s = (x, f) → applyAns g b t = (y, h) → f = 0 → h = 0 → same x y = true → sub (sbOf b) s = sub (sbOf b) t ∧ x = sub (sbOf b) s ∧ bOk g b = 0 ∧ x.size ≤ 120 := by
      intro x y f h e1 e2 hf hh hxy
      rw [same_iff] at hxy
      obtain ⟨k1, k2, k3⟩ := ans_zero hs (by rw [e1]; exact hf)
      obtain ⟨_, j2, _⟩ := ans_zero ht (by rw [e2]; exact hh)
      rw [e1] at k2; rw [e2] at j2
      simp only at k2 j2
      exact ⟨by rw [← k2, ← j2, hxy], k2, k1, by rw [k2]; exact k3⟩
    generalize e1 : applyAns g b s = A1 at v1 hq
    generalize e2 : applyAns g b t = A2 at v2 hq
    obtain ⟨x, f⟩ := A1
    obtain ⟨y, h⟩ := A2
    have hq := hq x y f h rfl rfl
    simp only at v1 v2
    rcases unify_all he hg hs ht with ⟨hU, hn⟩ | hU | ⟨u, p, hU, hA3, hA4, hp, hm⟩
    · have hno : f = 0 → h = 0 → same x y = false := fun hf hh => by
        cases hxy : same x y with
        | false => rfl
        | true => exact absurd (hq hf hh hxy).1 (hn _)
      rcases match_both he hg hs ht with hM | ⟨m, hM, hA0⟩
      · exact smNN_tri g s t b x y f h 0 v1 v2 hU hM rfl hno
      · exact smNP_tri g s t b m x y f h 0 v1 v2 hU hM hA0 rfl hno
    · rcases match_both he hg hs ht with hM | ⟨m, hM, hA0⟩
      · exact smMN_tri g s t b x y f h 2 v1 v2 hU hM (by decide)
      · exact smMP_tri g s t b m x y f h 2 v1 v2 hU hM hA0 (by decide)
    · have hA5 : f = 0 → h = 0 → same x y = true → Tri Try.prog 8 [.d (sgDV g), .d (bsDV b), .d (tmDV p)] (pure' (.tup [.d (tmDV x), iA 0])) := fun hf hh hxy => by
        obtain ⟨q1, q2, q3, q4⟩ := hq hf hh hxy
        have v := sapply_tri g b p hb
        have e : sub (sbOf b) p = x := by rw [hm _ q1, q2]
        rw [ans_ok q3 hp, e, if_neg (by omega)] at v
        exact v
      rcases match_both he hg hs ht with hM | ⟨m, hM, hA0⟩
      · exact smUN_tri g s t b u x y p f h v1 v2 hU hA3 hA4 hM hA5
      · exact smUP_tri g s t b m u x y p f h v1 v2 hU hA3 hA4 hM hA0 hA5
  · exact smE_tri g s t b (applyAns g b s).1 (applyAns g b t).1 (applyAns g b s).2 (applyAns g b t).2 (allOk g [s, t]) v1 v2 (unifyE_tri g s t he) (matchE_tri g s t he) he
theorem smBds_len (b : Bs) : b.length ≤ (b.map bdSz).sum := by
  induction b with
  | nil => simp
  | cons p b ih => simp only [List.length_cons, List.map_cons, List.sum_cons, bdSz] at ih ⊢; omega
theorem substMost_law (g : List Int) (s t : Tm) (b : Bs) (_ : True) (_ : True) (_ : True) (_ : True) (h : (g.length + 1) + s.size + t.size + ((b.map bdSz).sum + 1) ≤ 1048576) : Tri Try.prog 5 [.d (sgDV g), .d (tmDV s), .d (tmDV t), .d (bsDV b)] (pure' (bA true)) := substMost_tri g s t b (by have := smBds_len b; omega)
end Go.Proofs.Ytmeekpinkfpnhab
