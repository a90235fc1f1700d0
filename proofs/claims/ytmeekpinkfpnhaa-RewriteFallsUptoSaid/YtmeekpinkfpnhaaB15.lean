/- The law OrderTells: its walk. The law RewriteFalls: its walk. -/
import Derived.Test.YtmeekpinkfpnhaaB06
import Derived.Test.YtmeekpinkfpnhaaB11
import Derived.Test.YtmeekpinkfpnhaaB13
import Derived.Test.YtmeekpinkfpnhaaB14
set_option linter.unusedSimpArgs false
set_option linter.unusedSectionVars false
set_option linter.unusedVariables false
set_option linter.unnecessarySimpa false
set_option linter.all false
namespace Go.Proofs.Ytmeekpinkfpnhaa
open Go.RowKit
theorem tmDV_map2 (a b : Tm) : [tmDV a, tmDV b] = [a, b].map tmDV := rfl
theorem ob1 : allOk [0, 1] [.mk 0 1 [.mk 1 0 []], .mk 1 0 []] = 0 := by decide
theorem ob2 : allOk [0, 1] [.mk 0 0 [], .mk 0 1 [.mk 0 0 []]] = 0 := by decide
theorem ob3 : gt (.mk 0 1 [.mk 1 0 []]) (.mk 1 0 []) = true := by rw [gt_eq]; simp [gtStep, same, sameL, Tm.us, Tm.v, Tm.f]
theorem ob4 : gt (.mk 0 0 []) (.mk 0 1 [.mk 0 0 []]) = false := by rw [gt_eq]; simp [gtStep, same, sameL, Tm.us, Tm.v, Tm.f]
theorem ob5 : gt (.mk 0 1 [.mk 0 0 []]) (.mk 0 0 []) = true := by rw [gt_eq]; simp [gtStep, same, sameL, Tm.us, Tm.v, Tm.f]
set_option maxRecDepth 20000 in
theorem orderBegun_tri : Tri Try.prog 17 [] (pure' (bA true)) := by
  refine tri_enter Try.func17 rfl Try.ntmps17 (by simp only [List.length_cons, List.length_nil]; omega) fun w0 h0 k hrd hwr => ?_
  repeat' (first | refine awp_seq_k fun K hK => ?_ | ((first | refine awp_region_k (by kernel_rfl) fun R hR => ?_ | refine awp_draw mixed (by kernel_rfl) (by kernel_rfl) fun R hR => ?_); simp only [go_sem, ob1, ob2, ob3, ob4, ob5, eq_self, beq_self_eq_true]) | ((first | (refine hR _ ?_; clear hR R) | refine awp_skip ?_ | refine awp_exit ?_ | refine awp_ret ?_); try simp only [thenA, inBlockA, reduceIte, reduceCtorEq, Nat.reduceEqDiff, if_false, if_true]) | ((first | refine hK _ ?_ | (clear hK K; first | refine hK _ ?_ | (clear hK K; first | refine hK _ ?_ | (clear hK K; first | refine hK _ ?_ | (clear hK K; refine hK _ ?_))))); clear hK K) | refine awp_true rfl rfl ?_ | refine awp_false rfl rfl ?_ | refine awp_block ?_ | ((first | refine CallK.pure (enter66) (fn_tri 0 []) ?_ ?_ | refine CallD.pure (enter66) (fn_tri 0 []) ?_ ?_); (focus first | ((repeat (first | exact trivial | refine ⟨(by first | exact Or.inl rfl | exact Or.inr rfl), ?_⟩)); done) | (simp only [coL, AV.dat, true_or, or_true, AV.d.injEq, go_sem]; done)); simp only [go_sem, ob1, ob2, ob3, ob4, ob5, eq_self, beq_self_eq_true]) | ((first | refine CallK.pure (enter66) (fn_tri 1 [.mk 1 0 []]) ?_ ?_ | refine CallD.pure (enter66) (fn_tri 1 [.mk 1 0 []]) ?_ ?_); (focus first | ((repeat (first | exact trivial | refine ⟨(by first | exact Or.inl rfl | exact Or.inr rfl), ?_⟩)); done) | (simp only [coL, AV.dat, true_or, or_true, AV.d.injEq, go_sem]; done)); simp only [go_sem, ob1, ob2, ob3, ob4, ob5, eq_self, beq_self_eq_true]) | ((first | refine CallK.pure (enter66) (fn_tri 1 [.mk 0 0 []]) ?_ ?_ | refine CallD.pure (enter66) (fn_tri 1 [.mk 0 0 []]) ?_ ?_); (focus first | ((repeat (first | exact trivial | refine ⟨(by first | exact Or.inl rfl | exact Or.inr rfl), ?_⟩)); done) | (simp only [coL, AV.dat, true_or, or_true, AV.d.injEq, go_sem]; done)); simp only [go_sem, ob1, ob2, ob3, ob4, ob5, eq_self, beq_self_eq_true]) | ((first | refine CallK.pure (enter65) (small_tri) ?_ ?_ | refine CallD.pure (enter65) (small_tri) ?_ ?_ | refine CallK.pure (enter67) (va_tri 1) ?_ ?_ | refine CallD.pure (enter67) (va_tri 1) ?_ ?_ | refine CallK.pure (enter13) (greater_tri [0, 1] (.mk 0 1 [.mk 1 0 []]) (.mk 1 0 [])) ?_ ?_ | refine CallD.pure (enter13) (greater_tri [0, 1] (.mk 0 1 [.mk 1 0 []]) (.mk 1 0 [])) ?_ ?_ | refine CallK.pure (enter14) (compare_tri [0, 1] (.mk 0 0 []) (.mk 0 1 [.mk 0 0 []])) ?_ ?_ | refine CallD.pure (enter14) (compare_tri [0, 1] (.mk 0 0 []) (.mk 0 1 [.mk 0 0 []])) ?_ ?_); (focus first | ((repeat (first | exact trivial | refine ⟨(by first | exact Or.inl rfl | exact Or.inr rfl), ?_⟩)); done) | (simp only [coL, AV.dat, true_or, or_true, AV.d.injEq, go_sem]; done)); simp only [go_sem, ob1, ob2, ob3, ob4, ob5, eq_self, beq_self_eq_true]) | refine And.intro (by first | ((repeat' first | omega | exact trivial | rfl | assumption | (intro a e; subst e; rfl) | exact map_sz fun a => (by simp only [go_sem]) | refine And.intro ?_ ?_); done) | fail) ?_ | fail)
  (first | refine ret_pure ?_ ?_ ?_ | refine ret_ro ?_ ?_ ?_); focus exact (by simp only [Try.results17, resOkL, resOk, Try.ntmps17, List.toList_toArray]; first | decide | (simp only [go_sem]; done) | (simp only [go_sem]; and_intros <;> first | omega | rfl | decide))
  rotate_left; focus exact (by repeat (first | exact Fr.rfl' _ _ | assumption | refine Fr.updk ?_ (by omega) _))
  simp only [resA, resV, Try.results17, go_sem]
  all_goals try (first | exact Co.t2 (.dat rfl) (.dat rfl) | exact Co.t3 (.dat rfl) (.dat rfl) (.dat rfl))
  exact .dat rfl
set_option maxHeartbeats 4000000 in
set_option maxRecDepth 20000 in
theorem orderTells_tri (g : List Int) (s t : Tm) (hs : s.fits) (ht : t.fits) : Tri Try.prog 3 [.d (sgDV g), .d (tmDV s), .d (tmDV t)] (pure' (bA true)) := by
  refine tri_enter Try.func3 rfl Try.ntmps3 (by simp only [List.length_cons, List.length_nil]; omega) fun w0 h0 k hrd hwr => ?_
  cases h : allOk g [s, t] == 0 with
  | true =>
    obtain ⟨_, h2⟩ := allOk_own (beq_iff_eq.1 h)
    have os := h2 s (by simp)
    have ot := h2 t (by simp)
    have ps := own_parts os
    have pt := own_parts ot
    have h0 : allOk g [s, t] = 0 := beq_iff_eq.1 h
    have c1 := greaterOf_tri s t hs ht (by omega) (by omega) (own_arit os ot) (fun u hu => own_v os hu) (fun u hu => own_v ot hu)
    have c2 := greaterOf_tri t s ht hs (by omega) (by omega) (own_arit ot os) (fun u hu => own_v ot hu) (fun u hu => own_v os hu)
    unfold GreSpec at c1 c2
    cases h4 : gt s t with
    | true =>
      rw [h4] at c1
      repeat' (first | refine awp_seq_k fun K hK => ?_ | ((first | refine awp_region_k (by kernel_rfl) fun R hR => ?_ | refine awp_draw mixed (by kernel_rfl) (by kernel_rfl) fun R hR => ?_); simp only [go_sem, h0, h4, eq_self, beq_self_eq_true]) | ((first | (refine hR _ ?_; clear hR R) | refine awp_skip ?_ | refine awp_exit ?_ | refine awp_ret ?_); try simp only [thenA, inBlockA, reduceIte, reduceCtorEq, Nat.reduceEqDiff, if_false, if_true]) | ((first | refine hK _ ?_ | (clear hK K; first | refine hK _ ?_ | (clear hK K; first | refine hK _ ?_ | (clear hK K; first | refine hK _ ?_ | (clear hK K; refine hK _ ?_))))); clear hK K) | refine awp_true rfl rfl ?_ | refine awp_false rfl rfl ?_ | refine awp_block ?_ | ((first | refine CallK.pure (enter13) (greater_tri g s t) ?_ ?_ | refine CallD.pure (enter13) (greater_tri g s t) ?_ ?_ | refine CallK.pure (enter14) (compare_tri g s t) ?_ ?_ | refine CallD.pure (enter14) (compare_tri g s t) ?_ ?_ | refine CallK.pure (enter15) (checkTerms_tri g [s, t]) ?_ ?_ | refine CallD.pure (enter15) (checkTerms_tri g [s, t]) ?_ ?_ | refine CallK.pure (enter16) (c1) ?_ ?_ | refine CallD.pure (enter16) (c1) ?_ ?_ | refine CallK.pure (enter17) (orderBegun_tri) ?_ ?_ | refine CallD.pure (enter17) (orderBegun_tri) ?_ ?_); (focus first | ((repeat (first | exact trivial | refine ⟨(by first | exact Or.inl rfl | exact Or.inr rfl), ?_⟩)); done) | (simp only [coL, AV.dat, true_or, or_true, AV.d.injEq, go_sem]; done)); simp only [go_sem, h0, h4, eq_self, beq_self_eq_true]) | refine And.intro (by first | ((repeat' first | omega | exact trivial | rfl | assumption | (intro a e; subst e; rfl) | exact map_sz fun a => (by simp only [go_sem]) | refine And.intro ?_ ?_); done) | fail) ?_ | fail)
      (first | refine ret_pure ?_ ?_ ?_ | refine ret_ro ?_ ?_ ?_); focus exact (by simp only [Try.results3, resOkL, resOk, Try.ntmps3, List.toList_toArray]; first | decide | (simp only [go_sem]; done) | (simp only [go_sem]; and_intros <;> first | omega | rfl | decide))
      rotate_left; focus exact (by repeat (first | exact Fr.rfl' _ _ | assumption | refine Fr.updk ?_ (by omega) _))
      simp only [resA, resV, Try.results3, go_sem]
      all_goals try (first | exact Co.t2 (.dat rfl) (.dat rfl) | exact Co.t3 (.dat rfl) (.dat rfl) (.dat rfl))
      exact .dat rfl
    | false =>
      rw [h4] at c1
      cases h5 : gt t s with
      | true =>
        rw [h5] at c2
        repeat' (first | refine awp_seq_k fun K hK => ?_ | ((first | refine awp_region_k (by kernel_rfl) fun R hR => ?_ | refine awp_draw mixed (by kernel_rfl) (by kernel_rfl) fun R hR => ?_); simp only [go_sem, h0, h4, h5, eq_self, beq_self_eq_true]) | ((first | (refine hR _ ?_; clear hR R) | refine awp_skip ?_ | refine awp_exit ?_ | refine awp_ret ?_); try simp only [thenA, inBlockA, reduceIte, reduceCtorEq, Nat.reduceEqDiff, if_false, if_true]) | ((first | refine hK _ ?_ | (clear hK K; first | refine hK _ ?_ | (clear hK K; first | refine hK _ ?_ | (clear hK K; first | refine hK _ ?_ | (clear hK K; refine hK _ ?_))))); clear hK K) | refine awp_true rfl rfl ?_ | refine awp_false rfl rfl ?_ | refine awp_block ?_ | ((first | refine CallK.pure (enter16) (c1) ?_ ?_ | refine CallD.pure (enter16) (c1) ?_ ?_); (focus first | ((repeat (first | exact trivial | refine ⟨(by first | exact Or.inl rfl | exact Or.inr rfl), ?_⟩)); done) | (simp only [coL, AV.dat, true_or, or_true, AV.d.injEq, go_sem]; done)); simp only [go_sem, h0, h4, h5, eq_self, beq_self_eq_true]) | ((first | refine CallK.pure (enter16) (c2) ?_ ?_ | refine CallD.pure (enter16) (c2) ?_ ?_); (focus first | ((repeat (first | exact trivial | refine ⟨(by first | exact Or.inl rfl | exact Or.inr rfl), ?_⟩)); done) | (simp only [coL, AV.dat, true_or, or_true, AV.d.injEq, go_sem]; done)); simp only [go_sem, h0, h4, h5, eq_self, beq_self_eq_true]) | ((first | refine CallK.pure (enter13) (greater_tri g s t) ?_ ?_ | refine CallD.pure (enter13) (greater_tri g s t) ?_ ?_ | refine CallK.pure (enter14) (compare_tri g s t) ?_ ?_ | refine CallD.pure (enter14) (compare_tri g s t) ?_ ?_ | refine CallK.pure (enter15) (checkTerms_tri g [s, t]) ?_ ?_ | refine CallD.pure (enter15) (checkTerms_tri g [s, t]) ?_ ?_ | refine CallK.pure (enter17) (orderBegun_tri) ?_ ?_ | refine CallD.pure (enter17) (orderBegun_tri) ?_ ?_); (focus first | ((repeat (first | exact trivial | refine ⟨(by first | exact Or.inl rfl | exact Or.inr rfl), ?_⟩)); done) | (simp only [coL, AV.dat, true_or, or_true, AV.d.injEq, go_sem]; done)); simp only [go_sem, h0, h4, h5, eq_self, beq_self_eq_true]) | refine And.intro (by first | ((repeat' first | omega | exact trivial | rfl | assumption | (intro a e; subst e; rfl) | exact map_sz fun a => (by simp only [go_sem]) | refine And.intro ?_ ?_); done) | fail) ?_ | fail)
        (first | refine ret_pure ?_ ?_ ?_ | refine ret_ro ?_ ?_ ?_); focus exact (by simp only [Try.results3, resOkL, resOk, Try.ntmps3, List.toList_toArray]; first | decide | (simp only [go_sem]; done) | (simp only [go_sem]; and_intros <;> first | omega | rfl | decide))
        rotate_left; focus exact (by repeat (first | exact Fr.rfl' _ _ | assumption | refine Fr.updk ?_ (by omega) _))
        simp only [resA, resV, Try.results3, go_sem]
        all_goals try (first | exact Co.t2 (.dat rfl) (.dat rfl) | exact Co.t3 (.dat rfl) (.dat rfl) (.dat rfl))
        exact .dat rfl
      | false =>
        rw [h5] at c2
        repeat' (first | refine awp_seq_k fun K hK => ?_ | ((first | refine awp_region_k (by kernel_rfl) fun R hR => ?_ | refine awp_draw mixed (by kernel_rfl) (by kernel_rfl) fun R hR => ?_); simp only [go_sem, h0, h4, h5, eq_self, beq_self_eq_true]) | ((first | (refine hR _ ?_; clear hR R) | refine awp_skip ?_ | refine awp_exit ?_ | refine awp_ret ?_); try simp only [thenA, inBlockA, reduceIte, reduceCtorEq, Nat.reduceEqDiff, if_false, if_true]) | ((first | refine hK _ ?_ | (clear hK K; first | refine hK _ ?_ | (clear hK K; first | refine hK _ ?_ | (clear hK K; first | refine hK _ ?_ | (clear hK K; refine hK _ ?_))))); clear hK K) | refine awp_true rfl rfl ?_ | refine awp_false rfl rfl ?_ | refine awp_block ?_ | ((first | refine CallK.pure (enter16) (c1) ?_ ?_ | refine CallD.pure (enter16) (c1) ?_ ?_); (focus first | ((repeat (first | exact trivial | refine ⟨(by first | exact Or.inl rfl | exact Or.inr rfl), ?_⟩)); done) | (simp only [coL, AV.dat, true_or, or_true, AV.d.injEq, go_sem]; done)); simp only [go_sem, h0, h4, h5, eq_self, beq_self_eq_true]) | ((first | refine CallK.pure (enter16) (c2) ?_ ?_ | refine CallD.pure (enter16) (c2) ?_ ?_); (focus first | ((repeat (first | exact trivial | refine ⟨(by first | exact Or.inl rfl | exact Or.inr rfl), ?_⟩)); done) | (simp only [coL, AV.dat, true_or, or_true, AV.d.injEq, go_sem]; done)); simp only [go_sem, h0, h4, h5, eq_self, beq_self_eq_true]) | ((first | refine CallK.pure (enter13) (greater_tri g s t) ?_ ?_ | refine CallD.pure (enter13) (greater_tri g s t) ?_ ?_ | refine CallK.pure (enter14) (compare_tri g s t) ?_ ?_ | refine CallD.pure (enter14) (compare_tri g s t) ?_ ?_ | refine CallK.pure (enter15) (checkTerms_tri g [s, t]) ?_ ?_ | refine CallD.pure (enter15) (checkTerms_tri g [s, t]) ?_ ?_ | refine CallK.pure (enter17) (orderBegun_tri) ?_ ?_ | refine CallD.pure (enter17) (orderBegun_tri) ?_ ?_); (focus first | ((repeat (first | exact trivial | refine ⟨(by first | exact Or.inl rfl | exact Or.inr rfl), ?_⟩)); done) | (simp only [coL, AV.dat, true_or, or_true, AV.d.injEq, go_sem]; done)); simp only [go_sem, h0, h4, h5, eq_self, beq_self_eq_true]) | refine And.intro (by first | ((repeat' first | omega | exact trivial | rfl | assumption | (intro a e; subst e; rfl) | exact map_sz fun a => (by simp only [go_sem]) | refine And.intro ?_ ?_); done) | fail) ?_ | fail)
        (first | refine ret_pure ?_ ?_ ?_ | refine ret_ro ?_ ?_ ?_); focus exact (by simp only [Try.results3, resOkL, resOk, Try.ntmps3, List.toList_toArray]; first | decide | (simp only [go_sem]; done) | (simp only [go_sem]; and_intros <;> first | omega | rfl | decide))
        rotate_left; focus exact (by repeat (first | exact Fr.rfl' _ _ | assumption | refine Fr.updk ?_ (by omega) _))
        simp only [resA, resV, Try.results3, go_sem]
        all_goals try (first | exact Co.t2 (.dat rfl) (.dat rfl) | exact Co.t3 (.dat rfl) (.dat rfl) (.dat rfl))
        exact .dat rfl
  | false =>
    have h0 : ¬ allOk g [s, t] = 0 := by simpa using h
    repeat' (first | refine awp_seq_k fun K hK => ?_ | ((first | refine awp_region_k (by kernel_rfl) fun R hR => ?_ | refine awp_draw mixed (by kernel_rfl) (by kernel_rfl) fun R hR => ?_); simp only [go_sem, h, h0, beq_self_eq_true]) | ((first | (refine hR _ ?_; clear hR R) | refine awp_skip ?_ | refine awp_exit ?_ | refine awp_ret ?_); try simp only [thenA, inBlockA, reduceIte, reduceCtorEq, Nat.reduceEqDiff, if_false, if_true]) | ((first | refine hK _ ?_ | (clear hK K; first | refine hK _ ?_ | (clear hK K; first | refine hK _ ?_ | (clear hK K; first | refine hK _ ?_ | (clear hK K; refine hK _ ?_))))); clear hK K) | refine awp_true rfl rfl ?_ | refine awp_false rfl rfl ?_ | refine awp_block ?_ | ((first | refine CallK.pure (enter13) (greater_tri g s t) ?_ ?_ | refine CallD.pure (enter13) (greater_tri g s t) ?_ ?_ | refine CallK.pure (enter14) (compare_tri g s t) ?_ ?_ | refine CallD.pure (enter14) (compare_tri g s t) ?_ ?_ | refine CallK.pure (enter15) (checkTerms_tri g [s, t]) ?_ ?_ | refine CallD.pure (enter15) (checkTerms_tri g [s, t]) ?_ ?_ | refine CallK.pure (enter17) (orderBegun_tri) ?_ ?_ | refine CallD.pure (enter17) (orderBegun_tri) ?_ ?_); (focus first | ((repeat (first | exact trivial | refine ⟨(by first | exact Or.inl rfl | exact Or.inr rfl), ?_⟩)); done) | (simp only [coL, AV.dat, true_or, or_true, AV.d.injEq, go_sem]; done)); simp only [go_sem, h, h0, beq_self_eq_true]) | refine And.intro (by first | ((repeat' first | omega | exact trivial | rfl | assumption | (intro a e; subst e; rfl) | exact map_sz fun a => (by simp only [go_sem]) | refine And.intro ?_ ?_); done) | fail) ?_ | fail)
    (first | refine ret_pure ?_ ?_ ?_ | refine ret_ro ?_ ?_ ?_); focus exact (by simp only [Try.results3, resOkL, resOk, Try.ntmps3, List.toList_toArray]; first | decide | (simp only [go_sem]; done) | (simp only [go_sem]; and_intros <;> first | omega | rfl | decide))
    rotate_left; focus exact (by repeat (first | exact Fr.rfl' _ _ | assumption | refine Fr.updk ?_ (by omega) _))
    simp only [resA, resV, Try.results3, go_sem]
    all_goals try (first | exact Co.t2 (.dat rfl) (.dat rfl) | exact Co.t3 (.dat rfl) (.dat rfl) (.dat rfl))
    exact .dat rfl
theorem order_law (g : List Int) (s t : Tm) (_ : True) (_ : True) (_ : True) (hb : (g.length + 1) + s.size + t.size ≤ 1048576) : Tri Try.prog 3 [.d (sgDV g), .d (tmDV s), .d (tmDV t)] (pure' (bA true)) :=
  orderTells_tri g s t (by unfold Tm.fits; omega) (by unfold Tm.fits; omega)
end Go.Proofs.Ytmeekpinkfpnhaa
namespace Go.Proofs.Ytmeekpinkfpnhaa
open Go.RowKit
theorem allOk_two {g : List Int} {s t : Tm} (hg : sigOk g = 0) (hs : own g s = 0) (ht : own g t = 0) : allOk g [s, t] = 0 := by
  unfold allOk
  rw [if_neg (by simp [hg]), ownL, if_neg (by simp [hs]), ownL, if_neg (by simp [ht])]; rfl
theorem own_size {g : List Int} {t : Tm} (h : own g t = 0) : t.size ≤ 120 := by
  have := own_parts h; rw [parts_len] at this; exact this
set_option maxHeartbeats 4000000 in
set_option maxRecDepth 20000 in
theorem rewriteFalls_tri (g : List Int) (rs : List Rl) (hrl : rs.length ≤ 4000000) (t : Tm) (ht : t.size ≤ 4000000) : Tri Try.prog 8 [.d (sgDV g), .d (rlsDV rs), .d (tmDV t)] (pure' (bA true)) := by
  have v1 := rwStep_tri g rs hrl t ht
  have v2 := rwNormal_tri g rs hrl t ht
  refine tri_enter Try.func8 rfl Try.ntmps8 (by simp only [List.length_cons, List.length_nil]; omega) fun w0 h0 k hrd hwr => ?_
  cases he : (stpAns g rs t).2.2 == 0 with
  | false =>
    have hn : ((nrmAns g rs t).2.2 != 0) = true := by
      unfold stpAns at he
      unfold nrmAns
      by_cases h0' : rdyG g rs t = 0
      · rw [if_neg (by simp [h0'])] at he ⊢
        have h1 : (stepG rs t).2.2 ≠ 0 := by simpa using he
        rw [normG_eq, if_pos h1]; simpa using h1
      · rw [if_pos h0']; simpa using h0'
    generalize stpAns g rs t = r1 at *
    generalize nrmAns g rs t = r2 at *
    repeat' (first | refine awp_seq_k fun K hK => ?_ | ((first | refine awp_region_k (by kernel_rfl) fun R hR => ?_ | refine awp_draw mixed (by kernel_rfl) (by kernel_rfl) fun R hR => ?_); simp only [go_sem, he, hn, nat_ne8]) | ((first | (refine hR _ ?_; clear hR R) | refine awp_skip ?_ | refine awp_exit ?_ | refine awp_ret ?_); try simp only [thenA, inBlockA, reduceIte, reduceCtorEq, Nat.reduceEqDiff, if_false, if_true]) | ((first | refine hK _ ?_ | (clear hK K; first | refine hK _ ?_ | (clear hK K; first | refine hK _ ?_ | (clear hK K; first | refine hK _ ?_ | (clear hK K; refine hK _ ?_))))); clear hK K) | refine awp_true rfl rfl ?_ | refine awp_false rfl rfl ?_ | refine awp_block ?_ | ((first | refine CallK.pure (enter44) (rewriteBegun_tri) ?_ ?_ | refine CallD.pure (enter44) (rewriteBegun_tri) ?_ ?_ | refine CallK.pure (enter17) (orderBegun_tri) ?_ ?_ | refine CallD.pure (enter17) (orderBegun_tri) ?_ ?_ | refine CallK.pure (enter39) (v1) ?_ ?_ | refine CallD.pure (enter39) (v1) ?_ ?_ | refine CallK.pure (enter40) (v2) ?_ ?_ | refine CallD.pure (enter40) (v2) ?_ ?_); (focus first | ((repeat (first | exact trivial | refine ⟨(by first | exact Or.inl rfl | exact Or.inr rfl), ?_⟩)); done) | (simp only [coL, AV.dat, true_or, or_true, AV.d.injEq, go_sem]; done)); simp only [go_sem, he, hn, nat_ne8]) | refine And.intro (by first | ((repeat' first | omega | exact trivial | rfl | assumption | (intro a e; subst e; rfl) | exact map_sz fun a => (by simp only [go_sem]) | refine And.intro ?_ ?_); done) | fail) ?_ | fail)
    (first | refine ret_pure ?_ ?_ ?_ | refine ret_ro ?_ ?_ ?_); focus exact (by simp only [Try.results8, resOkL, resOk, Try.ntmps8, List.toList_toArray]; first | decide | (simp only [go_sem]; done) | (simp only [go_sem]; and_intros <;> first | omega | rfl | decide))
    rotate_left; focus exact (by repeat (first | exact Fr.rfl' _ _ | assumption | refine Fr.updk ?_ (by omega) _))
    simp only [resA, resV, Try.results8, go_sem]
    all_goals try (first | exact Co.t2 (.dat rfl) (.dat rfl) | exact Co.t3 (.dat rfl) (.dat rfl) (.dat rfl))
    exact .dat rfl
  | true =>
    have h0' : rdyG g rs t = 0 := by
      by_cases h0' : rdyG g rs t = 0
      · exact h0'
      · unfold stpAns at he; rw [if_pos h0'] at he; simp at he; exact absurd he h0'
    obtain ⟨k1, k2, _⟩ := rdy_small h0'
    obtain ⟨hsg, _, k4⟩ := rlOk_all k1
    have e1 : stpAns g rs t = stepG rs t := by unfold stpAns; rw [if_neg (by simp [h0'])]
    have e2 : nrmAns g rs t = normG rs 300 t 0 := by unfold nrmAns; rw [if_neg (by simp [h0'])]
    rw [e1] at he v1
    rw [e2] at v2
    obtain ⟨s1, s2, s3⟩ := step_ok k2 k4 (show (stepG rs t).2.2 = 0 by simpa using he)
    have v3 := compare_tri g t (stepG rs t).1
    rw [allOk_two hsg k2 s1, if_pos rfl] at v3
    have v4 := sameR_tri (stepG rs t).1 t
    have hN := norm_ok k4 300 t 0 k2
    have hst : ∀ y : Tm, own g y = 0 → stepG rs y = (y, false, 0) → Tri Try.prog 39 [.d (sgDV g), .d (rlsDV rs), .d (tmDV y)] (pure' (.tup [.d (tmDV y), bA false, iA 0])) := by
      intro y hy hsy
      have := rwStep_tri g rs hrl y (by have := own_size hy; omega)
      have e : stpAns g rs y = (y, false, 0) := by
        have e0 : rdyG g rs y = 0 := by unfold rdyG; rw [if_neg (by simp [k1])]; exact hy
        unfold stpAns
        rw [if_neg (by simp [e0]), hsy]
      rw [e] at this; exact this
    clear e1 e2
    generalize hr1 : stepG rs t = r1 at *
    generalize normG rs 300 t 0 = r2 at *
    have he0 : r1.2.2 = 0 := by simpa using he
    cases hn : (r2.2.2 != 0) with
    | true =>
      cases hok : r1.2.1 with
      | true =>
        rw [s2 hok, if_pos rfl] at v3
        repeat' (first | refine awp_seq_k fun K hK => ?_ | ((first | refine awp_region_k (by kernel_rfl) fun R hR => ?_ | refine awp_draw mixed (by kernel_rfl) (by kernel_rfl) fun R hR => ?_); simp only [go_sem, he0, hn, hok, nat_ne8, beq_self_eq_true, bne_self_eq_false]) | ((first | (refine hR _ ?_; clear hR R) | refine awp_skip ?_ | refine awp_exit ?_ | refine awp_ret ?_); try simp only [thenA, inBlockA, reduceIte, reduceCtorEq, Nat.reduceEqDiff, if_false, if_true]) | ((first | refine hK _ ?_ | (clear hK K; first | refine hK _ ?_ | (clear hK K; first | refine hK _ ?_ | (clear hK K; first | refine hK _ ?_ | (clear hK K; refine hK _ ?_))))); clear hK K) | refine awp_true rfl rfl ?_ | refine awp_false rfl rfl ?_ | refine awp_block ?_ | ((first | refine CallK.pure (enter44) (rewriteBegun_tri) ?_ ?_ | refine CallD.pure (enter44) (rewriteBegun_tri) ?_ ?_ | refine CallK.pure (enter17) (orderBegun_tri) ?_ ?_ | refine CallD.pure (enter17) (orderBegun_tri) ?_ ?_ | refine CallK.pure (enter39) (v1) ?_ ?_ | refine CallD.pure (enter39) (v1) ?_ ?_ | refine CallK.pure (enter14) (v3) ?_ ?_ | refine CallD.pure (enter14) (v3) ?_ ?_ | refine CallK.pure (enter40) (v2) ?_ ?_ | refine CallD.pure (enter40) (v2) ?_ ?_); (focus first | ((repeat (first | exact trivial | refine ⟨(by first | exact Or.inl rfl | exact Or.inr rfl), ?_⟩)); done) | (simp only [coL, AV.dat, true_or, or_true, AV.d.injEq, go_sem]; done)); simp only [go_sem, he0, hn, hok, nat_ne8, beq_self_eq_true, bne_self_eq_false]) | refine And.intro (by first | ((repeat' first | omega | exact trivial | rfl | assumption | (intro a e; subst e; rfl) | exact map_sz fun a => (by simp only [go_sem]) | refine And.intro ?_ ?_); done) | fail) ?_ | fail)
        (first | refine ret_pure ?_ ?_ ?_ | refine ret_ro ?_ ?_ ?_); focus exact (by simp only [Try.results8, resOkL, resOk, Try.ntmps8, List.toList_toArray]; first | decide | (simp only [go_sem]; done) | (simp only [go_sem]; and_intros <;> first | omega | rfl | decide))
        rotate_left; focus exact (by repeat (first | exact Fr.rfl' _ _ | assumption | refine Fr.updk ?_ (by omega) _))
        simp only [resA, resV, Try.results8, go_sem]
        all_goals try (first | exact Co.t2 (.dat rfl) (.dat rfl) | exact Co.t3 (.dat rfl) (.dat rfl) (.dat rfl))
        exact .dat rfl
      | false =>
        have hx := s3 hok
        rw [(same_iff _ _).2 hx] at v4
        repeat' (first | refine awp_seq_k fun K hK => ?_ | ((first | refine awp_region_k (by kernel_rfl) fun R hR => ?_ | refine awp_draw mixed (by kernel_rfl) (by kernel_rfl) fun R hR => ?_); simp only [go_sem, he0, hn, hok, nat_ne8, beq_self_eq_true, bne_self_eq_false]) | ((first | (refine hR _ ?_; clear hR R) | refine awp_skip ?_ | refine awp_exit ?_ | refine awp_ret ?_); try simp only [thenA, inBlockA, reduceIte, reduceCtorEq, Nat.reduceEqDiff, if_false, if_true]) | ((first | refine hK _ ?_ | (clear hK K; first | refine hK _ ?_ | (clear hK K; first | refine hK _ ?_ | (clear hK K; first | refine hK _ ?_ | (clear hK K; refine hK _ ?_))))); clear hK K) | refine awp_true rfl rfl ?_ | refine awp_false rfl rfl ?_ | refine awp_block ?_ | ((first | refine CallK.pure (enter44) (rewriteBegun_tri) ?_ ?_ | refine CallD.pure (enter44) (rewriteBegun_tri) ?_ ?_ | refine CallK.pure (enter17) (orderBegun_tri) ?_ ?_ | refine CallD.pure (enter17) (orderBegun_tri) ?_ ?_ | refine CallK.pure (enter39) (v1) ?_ ?_ | refine CallD.pure (enter39) (v1) ?_ ?_ | refine CallK.pure (enter14) (v3) ?_ ?_ | refine CallD.pure (enter14) (v3) ?_ ?_ | refine CallK.pure (enter47) (v4) ?_ ?_ | refine CallD.pure (enter47) (v4) ?_ ?_ | refine CallK.pure (enter40) (v2) ?_ ?_ | refine CallD.pure (enter40) (v2) ?_ ?_); (focus first | ((repeat (first | exact trivial | refine ⟨(by first | exact Or.inl rfl | exact Or.inr rfl), ?_⟩)); done) | (simp only [coL, AV.dat, true_or, or_true, AV.d.injEq, go_sem]; done)); simp only [go_sem, he0, hn, hok, nat_ne8, beq_self_eq_true, bne_self_eq_false]) | refine And.intro (by first | ((repeat' first | omega | exact trivial | rfl | assumption | (intro a e; subst e; rfl) | exact map_sz fun a => (by simp only [go_sem]) | refine And.intro ?_ ?_); done) | fail) ?_ | fail)
        (first | refine ret_pure ?_ ?_ ?_ | refine ret_ro ?_ ?_ ?_); focus exact (by simp only [Try.results8, resOkL, resOk, Try.ntmps8, List.toList_toArray]; first | decide | (simp only [go_sem]; done) | (simp only [go_sem]; and_intros <;> first | omega | rfl | decide))
        rotate_left; focus exact (by repeat (first | exact Fr.rfl' _ _ | assumption | refine Fr.updk ?_ (by omega) _))
        simp only [resA, resV, Try.results8, go_sem]
        all_goals try (first | exact Co.t2 (.dat rfl) (.dat rfl) | exact Co.t3 (.dat rfl) (.dat rfl) (.dat rfl))
        exact .dat rfl
    | false =>
      have hn0 : r2.2.2 = 0 := by simpa using hn
      obtain ⟨n1, n2, n3, n4, _⟩ := hN hn0
      have v5 := hst r2.1 n1 n2
      have v6 := sameR_tri r2.1 r2.1
      rw [same_rfl] at v6
      cases hok : r1.2.1 with
      | true =>
        have hp : decide (r2.2.1 > 0) = true := by simpa using n3 hok
        rw [s2 hok, if_pos rfl] at v3
        repeat' (first | refine awp_seq_k fun K hK => ?_ | ((first | refine awp_region_k (by kernel_rfl) fun R hR => ?_ | refine awp_draw mixed (by kernel_rfl) (by kernel_rfl) fun R hR => ?_); simp only [go_sem, he0, hn0, hok, hp, nat_ne8, beq_self_eq_true, bne_self_eq_false]) | ((first | (refine hR _ ?_; clear hR R) | refine awp_skip ?_ | refine awp_exit ?_ | refine awp_ret ?_); try simp only [thenA, inBlockA, reduceIte, reduceCtorEq, Nat.reduceEqDiff, if_false, if_true]) | ((first | refine hK _ ?_ | (clear hK K; first | refine hK _ ?_ | (clear hK K; first | refine hK _ ?_ | (clear hK K; first | refine hK _ ?_ | (clear hK K; refine hK _ ?_))))); clear hK K) | refine awp_true rfl rfl ?_ | refine awp_false rfl rfl ?_ | refine awp_block ?_ | ((first | refine CallK.pure (enter39) (v1) ?_ ?_ | refine CallD.pure (enter39) (v1) ?_ ?_); (focus first | ((repeat (first | exact trivial | refine ⟨(by first | exact Or.inl rfl | exact Or.inr rfl), ?_⟩)); done) | (simp only [coL, AV.dat, true_or, or_true, AV.d.injEq, go_sem]; done)); simp only [go_sem, he0, hn0, hok, hp, nat_ne8, beq_self_eq_true, bne_self_eq_false]) | ((first | refine CallK.pure (enter39) (v5) ?_ ?_ | refine CallD.pure (enter39) (v5) ?_ ?_); (focus first | ((repeat (first | exact trivial | refine ⟨(by first | exact Or.inl rfl | exact Or.inr rfl), ?_⟩)); done) | (simp only [coL, AV.dat, true_or, or_true, AV.d.injEq, go_sem]; done)); simp only [go_sem, he0, hn0, hok, hp, nat_ne8, beq_self_eq_true, bne_self_eq_false]) | ((first | refine CallK.pure (enter44) (rewriteBegun_tri) ?_ ?_ | refine CallD.pure (enter44) (rewriteBegun_tri) ?_ ?_ | refine CallK.pure (enter17) (orderBegun_tri) ?_ ?_ | refine CallD.pure (enter17) (orderBegun_tri) ?_ ?_ | refine CallK.pure (enter14) (v3) ?_ ?_ | refine CallD.pure (enter14) (v3) ?_ ?_ | refine CallK.pure (enter40) (v2) ?_ ?_ | refine CallD.pure (enter40) (v2) ?_ ?_ | refine CallK.pure (enter47) (v6) ?_ ?_ | refine CallD.pure (enter47) (v6) ?_ ?_); (focus first | ((repeat (first | exact trivial | refine ⟨(by first | exact Or.inl rfl | exact Or.inr rfl), ?_⟩)); done) | (simp only [coL, AV.dat, true_or, or_true, AV.d.injEq, go_sem]; done)); simp only [go_sem, he0, hn0, hok, hp, nat_ne8, beq_self_eq_true, bne_self_eq_false]) | refine And.intro (by first | ((repeat' first | omega | exact trivial | rfl | assumption | (intro a e; subst e; rfl) | exact map_sz fun a => (by simp only [go_sem]) | refine And.intro ?_ ?_); done) | fail) ?_ | fail)
        (first | refine ret_pure ?_ ?_ ?_ | refine ret_ro ?_ ?_ ?_); focus exact (by simp only [Try.results8, resOkL, resOk, Try.ntmps8, List.toList_toArray]; first | decide | (simp only [go_sem]; done) | (simp only [go_sem]; and_intros <;> first | omega | rfl | decide))
        rotate_left; focus exact (by repeat (first | exact Fr.rfl' _ _ | assumption | refine Fr.updk ?_ (by omega) _))
        simp only [resA, resV, Try.results8, go_sem]
        all_goals try (first | exact Co.t2 (.dat rfl) (.dat rfl) | exact Co.t3 (.dat rfl) (.dat rfl) (.dat rfl))
        exact .dat rfl
      | false =>
        have hp : decide (r2.2.1 > 0) = false := by have := n4 hok; simp; omega
        have hx := s3 hok
        rw [(same_iff _ _).2 hx] at v4
        repeat' (first | refine awp_seq_k fun K hK => ?_ | ((first | refine awp_region_k (by kernel_rfl) fun R hR => ?_ | refine awp_draw mixed (by kernel_rfl) (by kernel_rfl) fun R hR => ?_); simp only [go_sem, he0, hn0, hok, hp, nat_ne8, beq_self_eq_true, bne_self_eq_false]) | ((first | (refine hR _ ?_; clear hR R) | refine awp_skip ?_ | refine awp_exit ?_ | refine awp_ret ?_); try simp only [thenA, inBlockA, reduceIte, reduceCtorEq, Nat.reduceEqDiff, if_false, if_true]) | ((first | refine hK _ ?_ | (clear hK K; first | refine hK _ ?_ | (clear hK K; first | refine hK _ ?_ | (clear hK K; first | refine hK _ ?_ | (clear hK K; refine hK _ ?_))))); clear hK K) | refine awp_true rfl rfl ?_ | refine awp_false rfl rfl ?_ | refine awp_block ?_ | ((first | refine CallK.pure (enter39) (v1) ?_ ?_ | refine CallD.pure (enter39) (v1) ?_ ?_); (focus first | ((repeat (first | exact trivial | refine ⟨(by first | exact Or.inl rfl | exact Or.inr rfl), ?_⟩)); done) | (simp only [coL, AV.dat, true_or, or_true, AV.d.injEq, go_sem]; done)); simp only [go_sem, he0, hn0, hok, hp, nat_ne8, beq_self_eq_true, bne_self_eq_false]) | ((first | refine CallK.pure (enter47) (v4) ?_ ?_ | refine CallD.pure (enter47) (v4) ?_ ?_); (focus first | ((repeat (first | exact trivial | refine ⟨(by first | exact Or.inl rfl | exact Or.inr rfl), ?_⟩)); done) | (simp only [coL, AV.dat, true_or, or_true, AV.d.injEq, go_sem]; done)); simp only [go_sem, he0, hn0, hok, hp, nat_ne8, beq_self_eq_true, bne_self_eq_false]) | ((first | refine CallK.pure (enter39) (v5) ?_ ?_ | refine CallD.pure (enter39) (v5) ?_ ?_); (focus first | ((repeat (first | exact trivial | refine ⟨(by first | exact Or.inl rfl | exact Or.inr rfl), ?_⟩)); done) | (simp only [coL, AV.dat, true_or, or_true, AV.d.injEq, go_sem]; done)); simp only [go_sem, he0, hn0, hok, hp, nat_ne8, beq_self_eq_true, bne_self_eq_false]) | ((first | refine CallK.pure (enter47) (v6) ?_ ?_ | refine CallD.pure (enter47) (v6) ?_ ?_); (focus first | ((repeat (first | exact trivial | refine ⟨(by first | exact Or.inl rfl | exact Or.inr rfl), ?_⟩)); done) | (simp only [coL, AV.dat, true_or, or_true, AV.d.injEq, go_sem]; done)); simp only [go_sem, he0, hn0, hok, hp, nat_ne8, beq_self_eq_true, bne_self_eq_false]) | ((first | refine CallK.pure (enter44) (rewriteBegun_tri) ?_ ?_ | refine CallD.pure (enter44) (rewriteBegun_tri) ?_ ?_ | refine CallK.pure (enter17) (orderBegun_tri) ?_ ?_ | refine CallD.pure (enter17) (orderBegun_tri) ?_ ?_ | refine CallK.pure (enter14) (v3) ?_ ?_ | refine CallD.pure (enter14) (v3) ?_ ?_ | refine CallK.pure (enter40) (v2) ?_ ?_ | refine CallD.pure (enter40) (v2) ?_ ?_); (focus first | ((repeat (first | exact trivial | refine ⟨(by first | exact Or.inl rfl | exact Or.inr rfl), ?_⟩)); done) | (simp only [coL, AV.dat, true_or, or_true, AV.d.injEq, go_sem]; done)); simp only [go_sem, he0, hn0, hok, hp, nat_ne8, beq_self_eq_true, bne_self_eq_false]) | refine And.intro (by first | ((repeat' first | omega | exact trivial | rfl | assumption | (intro a e; subst e; rfl) | exact map_sz fun a => (by simp only [go_sem]) | refine And.intro ?_ ?_); done) | fail) ?_ | fail)
        (first | refine ret_pure ?_ ?_ ?_ | refine ret_ro ?_ ?_ ?_); focus exact (by simp only [Try.results8, resOkL, resOk, Try.ntmps8, List.toList_toArray]; first | decide | (simp only [go_sem]; done) | (simp only [go_sem]; and_intros <;> first | omega | rfl | decide))
        rotate_left; focus exact (by repeat (first | exact Fr.rfl' _ _ | assumption | refine Fr.updk ?_ (by omega) _))
        simp only [resA, resV, Try.results8, go_sem]
        all_goals try (first | exact Co.t2 (.dat rfl) (.dat rfl) | exact Co.t3 (.dat rfl) (.dat rfl) (.dat rfl))
        exact .dat rfl
theorem rewriteFalls_law (g : List Int) (rs : List Rl) (t : Tm) (_ : True) (_ : True) (_ : True) (hb : (g.length + 1) + ((rs.map Rl.size).sum + 1) + t.size ≤ 1048576) : Tri Try.prog 8 [.d (sgDV g), .d (rlsDV rs), .d (tmDV t)] (pure' (bA true)) := by
  obtain ⟨h1, h2⟩ := rl_sizes (rs := rs) (n := 1048576) (by omega)
  exact rewriteFalls_tri g rs (by omega) t (by omega)
end Go.Proofs.Ytmeekpinkfpnhaa
