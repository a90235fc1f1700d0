/- superposelaw.termIs. The law TermPuts: its walk. -/
import Derived.Test.YtmeekpinkfpnhaaB06
import Derived.Test.YtmeekpinkfpnhaaB09
import Derived.Test.YtmeekpinkfpnhaaB23
set_option linter.unusedSimpArgs false
set_option linter.unusedSectionVars false
set_option linter.unusedVariables false
set_option linter.unnecessarySimpa false
set_option linter.all false
namespace Go.Proofs.Ytmeekpinkfpnhaa
open Go.RowKit
theorem nat_ne8 (n : Nat) : ((n = n + 1 + 1 + 1 + 1 + 1 + 1 + 1 + 1) = False) ∧ ((n = n + 1 + 1 + 1 + 1 + 1 + 1 + 1 + 1 + 1) = False) ∧ ((n = n + 1 + 1 + 1 + 1 + 1 + 1 + 1 + 1 + 1 + 1) = False) ∧ ((n = n + 1 + 1 + 1 + 1 + 1 + 1 + 1 + 1 + 1 + 1 + 1) = False) ∧ ((n = n + 1 + 1 + 1 + 1 + 1 + 1 + 1 + 1 + 1 + 1 + 1 + 1) = False) ∧
    ((n + 1 + 1 + 1 + 1 + 1 + 1 + 1 + 1 = n) = False) ∧ ((n + 1 + 1 + 1 + 1 + 1 + 1 + 1 + 1 + 1 = n) = False) ∧ ((n + 1 + 1 + 1 + 1 + 1 + 1 + 1 + 1 + 1 + 1 = n) = False) ∧ ((n + 1 + 1 + 1 + 1 + 1 + 1 + 1 + 1 + 1 + 1 + 1 = n) = False) ∧ ((n + 1 + 1 + 1 + 1 + 1 + 1 + 1 + 1 + 1 + 1 + 1 + 1 = n) = False) := by
  and_intros <;> (apply eq_false; omega)
theorem tm0_DV : tmDV tm0 = .st [iD 0, iD 0, .sl []] := by rw [tmDV_eq]; rfl
set_option maxRecDepth 20000 in
theorem termIs_tri (t : Tm) (e w : Int) (want : Tm) : Tri Try.prog 46 [.d (tmDV t), iA e, iA w, .d (tmDV want)] (pure' (bA (e == w && same t (if w ≠ 0 then tm0 else want)))) := by
  have hs0 := sameR_tri t tm0
  rw [tm0_DV] at hs0
  refine tri_enter Try.func46 rfl Try.ntmps46 (by simp only [List.length_cons, List.length_nil]; omega) fun w0 h0 k hrd hwr => ?_
  cases hw : (w != 0) with
  | true =>
    rw [if_pos (by simpa using hw)]
    cases he : (e == w) with
    | true =>
      repeat' (first | refine awp_seq_k fun K hK => ?_ | ((first | refine awp_region_k (by kernel_rfl) fun R hR => ?_ | refine awp_draw mixed (by kernel_rfl) (by kernel_rfl) fun R hR => ?_); simp only [go_sem, hw, he]) | ((first | (refine hR _ ?_; clear hR R) | refine awp_skip ?_ | refine awp_exit ?_ | refine awp_ret ?_); try simp only [thenA, inBlockA, reduceIte, reduceCtorEq, Nat.reduceEqDiff, if_false, if_true]) | ((first | refine hK _ ?_ | (clear hK K; first | refine hK _ ?_ | (clear hK K; first | refine hK _ ?_ | (clear hK K; first | refine hK _ ?_ | (clear hK K; refine hK _ ?_))))); clear hK K) | refine awp_true rfl rfl ?_ | refine awp_false rfl rfl ?_ | refine awp_block ?_ | ((first | refine CallK.pure (enter47) (hs0) ?_ ?_ | refine CallD.pure (enter47) (hs0) ?_ ?_); (focus first | ((repeat (first | exact trivial | refine ⟨(by first | exact Or.inl rfl | exact Or.inr rfl), ?_⟩)); done) | (simp only [coL, AV.dat, true_or, or_true, AV.d.injEq, go_sem]; done)); simp only [go_sem, hw, he]) | refine And.intro (by first | ((repeat' first | omega | exact trivial | rfl | assumption | (intro a e; subst e; rfl) | exact map_sz fun a => (by simp only [go_sem]) | refine And.intro ?_ ?_); done) | fail) ?_ | fail)
      (first | refine ret_pure ?_ ?_ ?_ | refine ret_ro ?_ ?_ ?_); focus exact (by simp only [Try.results46, resOkL, resOk, Try.ntmps46, List.toList_toArray]; first | decide | (simp only [go_sem]; done) | (simp only [go_sem]; and_intros <;> first | omega | rfl | decide))
      rotate_left; focus exact (by repeat (first | exact Fr.rfl' _ _ | assumption | refine Fr.updk ?_ (by omega) _))
      simp only [resA, resV, Try.results46, go_sem]
      all_goals try (first | exact Co.t2 (.dat rfl) (.dat rfl) | exact Co.t3 (.dat rfl) (.dat rfl) (.dat rfl))
      all_goals exact .dat rfl
    | false =>
      repeat' (first | refine awp_seq_k fun K hK => ?_ | ((first | refine awp_region_k (by kernel_rfl) fun R hR => ?_ | refine awp_draw mixed (by kernel_rfl) (by kernel_rfl) fun R hR => ?_); simp only [go_sem, hw, he]) | ((first | (refine hR _ ?_; clear hR R) | refine awp_skip ?_ | refine awp_exit ?_ | refine awp_ret ?_); try simp only [thenA, inBlockA, reduceIte, reduceCtorEq, Nat.reduceEqDiff, if_false, if_true]) | ((first | refine hK _ ?_ | (clear hK K; first | refine hK _ ?_ | (clear hK K; first | refine hK _ ?_ | (clear hK K; first | refine hK _ ?_ | (clear hK K; refine hK _ ?_))))); clear hK K) | refine awp_true rfl rfl ?_ | refine awp_false rfl rfl ?_ | refine awp_block ?_ | refine And.intro (by first | ((repeat' first | omega | exact trivial | rfl | assumption | (intro a e; subst e; rfl) | exact map_sz fun a => (by simp only [go_sem]) | refine And.intro ?_ ?_); done) | fail) ?_ | fail)
      (first | refine ret_pure ?_ ?_ ?_ | refine ret_ro ?_ ?_ ?_); focus exact (by simp only [Try.results46, resOkL, resOk, Try.ntmps46, List.toList_toArray]; first | decide | (simp only [go_sem]; done) | (simp only [go_sem]; and_intros <;> first | omega | rfl | decide))
      rotate_left; focus exact (by repeat (first | exact Fr.rfl' _ _ | assumption | refine Fr.updk ?_ (by omega) _))
      simp only [resA, resV, Try.results46, go_sem]
      all_goals try (first | exact Co.t2 (.dat rfl) (.dat rfl) | exact Co.t3 (.dat rfl) (.dat rfl) (.dat rfl))
      all_goals exact .dat rfl
  | false =>
    rw [if_neg (by simpa using hw)]
    cases he : (e == w) with
    | true =>
      repeat' (first | refine awp_seq_k fun K hK => ?_ | ((first | refine awp_region_k (by kernel_rfl) fun R hR => ?_ | refine awp_draw mixed (by kernel_rfl) (by kernel_rfl) fun R hR => ?_); simp only [go_sem, hw, he]) | ((first | (refine hR _ ?_; clear hR R) | refine awp_skip ?_ | refine awp_exit ?_ | refine awp_ret ?_); try simp only [thenA, inBlockA, reduceIte, reduceCtorEq, Nat.reduceEqDiff, if_false, if_true]) | ((first | refine hK _ ?_ | (clear hK K; first | refine hK _ ?_ | (clear hK K; first | refine hK _ ?_ | (clear hK K; first | refine hK _ ?_ | (clear hK K; refine hK _ ?_))))); clear hK K) | refine awp_true rfl rfl ?_ | refine awp_false rfl rfl ?_ | refine awp_block ?_ | ((first | refine CallK.pure (enter47) (sameR_tri t want) ?_ ?_ | refine CallD.pure (enter47) (sameR_tri t want) ?_ ?_); (focus first | ((repeat (first | exact trivial | refine ⟨(by first | exact Or.inl rfl | exact Or.inr rfl), ?_⟩)); done) | (simp only [coL, AV.dat, true_or, or_true, AV.d.injEq, go_sem]; done)); simp only [go_sem, hw, he]) | refine And.intro (by first | ((repeat' first | omega | exact trivial | rfl | assumption | (intro a e; subst e; rfl) | exact map_sz fun a => (by simp only [go_sem]) | refine And.intro ?_ ?_); done) | fail) ?_ | fail)
      (first | refine ret_pure ?_ ?_ ?_ | refine ret_ro ?_ ?_ ?_); focus exact (by simp only [Try.results46, resOkL, resOk, Try.ntmps46, List.toList_toArray]; first | decide | (simp only [go_sem]; done) | (simp only [go_sem]; and_intros <;> first | omega | rfl | decide))
      rotate_left; focus exact (by repeat (first | exact Fr.rfl' _ _ | assumption | refine Fr.updk ?_ (by omega) _))
      simp only [resA, resV, Try.results46, go_sem]
      all_goals try (first | exact Co.t2 (.dat rfl) (.dat rfl) | exact Co.t3 (.dat rfl) (.dat rfl) (.dat rfl))
      all_goals exact .dat rfl
    | false =>
      repeat' (first | refine awp_seq_k fun K hK => ?_ | ((first | refine awp_region_k (by kernel_rfl) fun R hR => ?_ | refine awp_draw mixed (by kernel_rfl) (by kernel_rfl) fun R hR => ?_); simp only [go_sem, hw, he]) | ((first | (refine hR _ ?_; clear hR R) | refine awp_skip ?_ | refine awp_exit ?_ | refine awp_ret ?_); try simp only [thenA, inBlockA, reduceIte, reduceCtorEq, Nat.reduceEqDiff, if_false, if_true]) | ((first | refine hK _ ?_ | (clear hK K; first | refine hK _ ?_ | (clear hK K; first | refine hK _ ?_ | (clear hK K; first | refine hK _ ?_ | (clear hK K; refine hK _ ?_))))); clear hK K) | refine awp_true rfl rfl ?_ | refine awp_false rfl rfl ?_ | refine awp_block ?_ | refine And.intro (by first | ((repeat' first | omega | exact trivial | rfl | assumption | (intro a e; subst e; rfl) | exact map_sz fun a => (by simp only [go_sem]) | refine And.intro ?_ ?_); done) | fail) ?_ | fail)
      (first | refine ret_pure ?_ ?_ ?_ | refine ret_ro ?_ ?_ ?_); focus exact (by simp only [Try.results46, resOkL, resOk, Try.ntmps46, List.toList_toArray]; first | decide | (simp only [go_sem]; done) | (simp only [go_sem]; and_intros <;> first | omega | rfl | decide))
      rotate_left; focus exact (by repeat (first | exact Fr.rfl' _ _ | assumption | refine Fr.updk ?_ (by omega) _))
      simp only [resA, resV, Try.results46, go_sem]
      all_goals try (first | exact Co.t2 (.dat rfl) (.dat rfl) | exact Co.t3 (.dat rfl) (.dat rfl) (.dat rfl))
      all_goals exact .dat rfl
end Go.Proofs.Ytmeekpinkfpnhaa
namespace Go.Proofs.Ytmeekpinkfpnhaa
open Go.RowKit
theorem same_if {t want : Tm} {e w : Int} (h : t = if w ≠ 0 then tm0 else want) (he : e = w) : (e == w && same t (if w ≠ 0 then tm0 else want)) = true := by
  subst h; subst he; simp [same_rfl]
theorem isZ (e : Int) : Tri Try.prog 46 [.d (tmDV tm0), iA e, iA e, .d (.st [iD 0, iD 0, .sl []])] (pure' (bA true)) := by
  have w1 := termIs_tri tm0 e e tm0
  rw [same_if (by simp) rfl, tm0_DV] at w1
  rw [tm0_DV]
  exact w1
theorem isT (t want : Tm) (e w : Int) (h : t = if w ≠ 0 then tm0 else want) (he : e = w) : Tri Try.prog 46 [.d (tmDV t), iA e, iA w, .d (tmDV want)] (pure' (bA true)) := by
  have w1 := termIs_tri t e w want
  rw [same_if h he] at w1
  exact w1
set_option maxHeartbeats 4000000 in
set_option maxRecDepth 20000 in
theorem termPuts_tri (g : List Int) (t : Tm) (p : List Int) (u : Tm) (hp : p.length ≤ 4000000) (ht : t.size ≤ 4000000) : Tri Try.prog 11 [.d (sgDV g), .d (tmDV t), .d (.sl (p.map iD)), .d (tmDV u)] (pure' (bA true)) := by
  have v1 := at_tri g t p hp
  have v2 := put_tri g t p u hp
  have v3 := atOf_tri p t hp ht
  have c1 := checkTerms_tri (g := g) (l := [t])
  have c2 := checkTerms_tri (g := g) (l := [t, u])
  by_cases h1 : allOk g [t] = 0
  · obtain ⟨k1, k2⟩ := allOk_own h1
    have k2 := k2 t (by simp)
    rw [h1] at c1
    cases hx : atG t p with
    | none =>
      have ha : atA t p = (tm0, false) := by unfold atA; rw [hx]
      have a1 : atAns g t p = (tm0, 5) := by unfold atAns; rw [if_neg (by simp [h1]), ha, if_neg (by simp)]
      rw [a1] at v1
      rw [ha] at v3
      have w1 := isT tm0 tm0 5 5 (by simp) rfl
      by_cases h2 : allOk g [t, u] = 0
      · have a2 : putAns g t p u = (tm0, 5) := by unfold putAns; rw [if_neg (by simp [h2]), ha, if_neg (by simp)]
        rw [a2] at v2
        rw [h2] at c2
        refine tri_enter Try.func11 rfl Try.ntmps11 (by simp only [List.length_cons, List.length_nil]; omega) fun w0 h0 k hrd hwr => ?_
        repeat' (first | refine awp_seq_k fun K hK => ?_ | ((first | refine awp_region_k (by kernel_rfl) fun R hR => ?_ | refine awp_draw mixed (by kernel_rfl) (by kernel_rfl) fun R hR => ?_); simp only [go_sem, beq_self_eq_true, nat_ne8]) | ((first | (refine hR _ ?_; clear hR R) | refine awp_skip ?_ | refine awp_exit ?_ | refine awp_ret ?_); try simp only [thenA, inBlockA, reduceIte, reduceCtorEq, Nat.reduceEqDiff, if_false, if_true]) | ((first | refine hK _ ?_ | (clear hK K; first | refine hK _ ?_ | (clear hK K; first | refine hK _ ?_ | (clear hK K; first | refine hK _ ?_ | (clear hK K; refine hK _ ?_))))); clear hK K) | refine awp_true rfl rfl ?_ | refine awp_false rfl rfl ?_ | refine awp_block ?_ | ((first | refine CallK.pure (enter15) (c1) ?_ ?_ | refine CallD.pure (enter15) (c1) ?_ ?_); (focus first | ((repeat (first | exact trivial | refine ⟨(by first | exact Or.inl rfl | exact Or.inr rfl), ?_⟩)); done) | (simp only [coL, AV.dat, true_or, or_true, AV.d.injEq, go_sem]; done)); simp only [go_sem, beq_self_eq_true, nat_ne8]) | ((first | refine CallK.pure (enter15) (c2) ?_ ?_ | refine CallD.pure (enter15) (c2) ?_ ?_); (focus first | ((repeat (first | exact trivial | refine ⟨(by first | exact Or.inl rfl | exact Or.inr rfl), ?_⟩)); done) | (simp only [coL, AV.dat, true_or, or_true, AV.d.injEq, go_sem]; done)); simp only [go_sem, beq_self_eq_true, nat_ne8]) | ((first | refine CallK.pure (enter46) (w1) ?_ ?_ | refine CallD.pure (enter46) (w1) ?_ ?_); (focus first | ((repeat (first | exact trivial | refine ⟨(by first | exact Or.inl rfl | exact Or.inr rfl), ?_⟩)); done) | (simp only [coL, AV.dat, true_or, or_true, AV.d.injEq, go_sem]; done)); simp only [go_sem, beq_self_eq_true, nat_ne8]) | ((first | refine CallK.pure (enter46) (isZ 5) ?_ ?_ | refine CallD.pure (enter46) (isZ 5) ?_ ?_); (focus first | ((repeat (first | exact trivial | refine ⟨(by first | exact Or.inl rfl | exact Or.inr rfl), ?_⟩)); done) | (simp only [coL, AV.dat, true_or, or_true, AV.d.injEq, go_sem]; done)); simp only [go_sem, beq_self_eq_true, nat_ne8]) | ((first | refine CallK.pure (enter52) (termBegun_tri) ?_ ?_ | refine CallD.pure (enter52) (termBegun_tri) ?_ ?_ | refine CallK.pure (enter57) (v1) ?_ ?_ | refine CallD.pure (enter57) (v1) ?_ ?_ | refine CallK.pure (enter58) (v2) ?_ ?_ | refine CallD.pure (enter58) (v2) ?_ ?_ | refine CallK.pure (enter59) (v3) ?_ ?_ | refine CallD.pure (enter59) (v3) ?_ ?_); (focus first | ((repeat (first | exact trivial | refine ⟨(by first | exact Or.inl rfl | exact Or.inr rfl), ?_⟩)); done) | (simp only [coL, AV.dat, true_or, or_true, AV.d.injEq, go_sem]; done)); simp only [go_sem, beq_self_eq_true, nat_ne8]) | refine And.intro (by first | ((repeat' first | omega | exact trivial | rfl | assumption | (intro a e; subst e; rfl) | exact map_sz fun a => (by simp only [go_sem]) | refine And.intro ?_ ?_); done) | fail) ?_ | fail)
        (first | refine ret_pure ?_ ?_ ?_ | refine ret_ro ?_ ?_ ?_); focus exact (by simp only [Try.results11, resOkL, resOk, Try.ntmps11, List.toList_toArray]; first | decide | (simp only [go_sem]; done) | (simp only [go_sem]; and_intros <;> first | omega | rfl | decide))
        rotate_left; focus exact (by repeat (first | exact Fr.rfl' _ _ | assumption | refine Fr.updk ?_ (by omega) _))
        simp only [resA, resV, Try.results11, go_sem]
        all_goals try (first | exact Co.t2 (.dat rfl) (.dat rfl) | exact Co.t3 (.dat rfl) (.dat rfl) (.dat rfl))
        exact .dat rfl
      · have a2 : putAns g t p u = (tm0, allOk g [t, u]) := by unfold putAns; rw [if_pos h2]
        rw [a2] at v2
        have hq : (allOk g [t, u] == 0) = false := by simpa using h2
        generalize allOk g [t, u] = e at *
        refine tri_enter Try.func11 rfl Try.ntmps11 (by simp only [List.length_cons, List.length_nil]; omega) fun w0 h0 k hrd hwr => ?_
        repeat' (first | refine awp_seq_k fun K hK => ?_ | ((first | refine awp_region_k (by kernel_rfl) fun R hR => ?_ | refine awp_draw mixed (by kernel_rfl) (by kernel_rfl) fun R hR => ?_); simp only [go_sem, beq_self_eq_true, nat_ne8, hq]) | ((first | (refine hR _ ?_; clear hR R) | refine awp_skip ?_ | refine awp_exit ?_ | refine awp_ret ?_); try simp only [thenA, inBlockA, reduceIte, reduceCtorEq, Nat.reduceEqDiff, if_false, if_true]) | ((first | refine hK _ ?_ | (clear hK K; first | refine hK _ ?_ | (clear hK K; first | refine hK _ ?_ | (clear hK K; first | refine hK _ ?_ | (clear hK K; refine hK _ ?_))))); clear hK K) | refine awp_true rfl rfl ?_ | refine awp_false rfl rfl ?_ | refine awp_block ?_ | ((first | refine CallK.pure (enter15) (c1) ?_ ?_ | refine CallD.pure (enter15) (c1) ?_ ?_); (focus first | ((repeat (first | exact trivial | refine ⟨(by first | exact Or.inl rfl | exact Or.inr rfl), ?_⟩)); done) | (simp only [coL, AV.dat, true_or, or_true, AV.d.injEq, go_sem]; done)); simp only [go_sem, beq_self_eq_true, nat_ne8, hq]) | ((first | refine CallK.pure (enter15) (c2) ?_ ?_ | refine CallD.pure (enter15) (c2) ?_ ?_); (focus first | ((repeat (first | exact trivial | refine ⟨(by first | exact Or.inl rfl | exact Or.inr rfl), ?_⟩)); done) | (simp only [coL, AV.dat, true_or, or_true, AV.d.injEq, go_sem]; done)); simp only [go_sem, beq_self_eq_true, nat_ne8, hq]) | ((first | refine CallK.pure (enter46) (w1) ?_ ?_ | refine CallD.pure (enter46) (w1) ?_ ?_); (focus first | ((repeat (first | exact trivial | refine ⟨(by first | exact Or.inl rfl | exact Or.inr rfl), ?_⟩)); done) | (simp only [coL, AV.dat, true_or, or_true, AV.d.injEq, go_sem]; done)); simp only [go_sem, beq_self_eq_true, nat_ne8, hq]) | ((first | refine CallK.pure (enter46) (isZ e) ?_ ?_ | refine CallD.pure (enter46) (isZ e) ?_ ?_); (focus first | ((repeat (first | exact trivial | refine ⟨(by first | exact Or.inl rfl | exact Or.inr rfl), ?_⟩)); done) | (simp only [coL, AV.dat, true_or, or_true, AV.d.injEq, go_sem]; done)); simp only [go_sem, beq_self_eq_true, nat_ne8, hq]) | ((first | refine CallK.pure (enter52) (termBegun_tri) ?_ ?_ | refine CallD.pure (enter52) (termBegun_tri) ?_ ?_ | refine CallK.pure (enter57) (v1) ?_ ?_ | refine CallD.pure (enter57) (v1) ?_ ?_ | refine CallK.pure (enter58) (v2) ?_ ?_ | refine CallD.pure (enter58) (v2) ?_ ?_ | refine CallK.pure (enter59) (v3) ?_ ?_ | refine CallD.pure (enter59) (v3) ?_ ?_); (focus first | ((repeat (first | exact trivial | refine ⟨(by first | exact Or.inl rfl | exact Or.inr rfl), ?_⟩)); done) | (simp only [coL, AV.dat, true_or, or_true, AV.d.injEq, go_sem]; done)); simp only [go_sem, beq_self_eq_true, nat_ne8, hq]) | refine And.intro (by first | ((repeat' first | omega | exact trivial | rfl | assumption | (intro a e; subst e; rfl) | exact map_sz fun a => (by simp only [go_sem]) | refine And.intro ?_ ?_); done) | fail) ?_ | fail)
        (first | refine ret_pure ?_ ?_ ?_ | refine ret_ro ?_ ?_ ?_); focus exact (by simp only [Try.results11, resOkL, resOk, Try.ntmps11, List.toList_toArray]; first | decide | (simp only [go_sem]; done) | (simp only [go_sem]; and_intros <;> first | omega | rfl | decide))
        rotate_left; focus exact (by repeat (first | exact Fr.rfl' _ _ | assumption | refine Fr.updk ?_ (by omega) _))
        simp only [resA, resV, Try.results11, go_sem]
        all_goals try (first | exact Co.t2 (.dat rfl) (.dat rfl) | exact Co.t3 (.dat rfl) (.dat rfl) (.dat rfl))
        exact .dat rfl
    | some x =>
      have ha : atA t p = (x, true) := by unfold atA; rw [hx]
      have a1 := at_of k1 k2 hx
      rw [a1] at v1
      rw [ha] at v3
      have w1 := isT x x 0 0 (by simp) rfl
      by_cases h2 : allOk g [t, u] = 0
      · rw [h2] at c2
        have v4 := putOf_tri p t u x hx hp ht
        rw [put_lay p t u x (own_good k2) hx] at v4
        have v5 := sizeOf_tri (t := layG t p u) 120 (by omega) (by omega)
        cases hc : decide (count (layG t p u) 120 > 120) with
        | true =>
          have a2 : putAns g t p u = (tm0, 2) := by unfold putAns; rw [if_neg (by simp [h2]), ha, if_pos rfl, if_pos (by simpa using hc)]
          rw [a2] at v2
          have w2 := isT tm0 (layG t p u) 2 2 (by simp) rfl
          refine tri_enter Try.func11 rfl Try.ntmps11 (by simp only [List.length_cons, List.length_nil]; omega) fun w0 h0 k hrd hwr => ?_
          repeat' (first | refine awp_seq_k fun K hK => ?_ | ((first | refine awp_region_k (by kernel_rfl) fun R hR => ?_ | refine awp_draw mixed (by kernel_rfl) (by kernel_rfl) fun R hR => ?_); simp only [go_sem, beq_self_eq_true, nat_ne8, hc]) | ((first | (refine hR _ ?_; clear hR R) | refine awp_skip ?_ | refine awp_exit ?_ | refine awp_ret ?_); try simp only [thenA, inBlockA, reduceIte, reduceCtorEq, Nat.reduceEqDiff, if_false, if_true]) | ((first | refine hK _ ?_ | (clear hK K; first | refine hK _ ?_ | (clear hK K; first | refine hK _ ?_ | (clear hK K; first | refine hK _ ?_ | (clear hK K; refine hK _ ?_))))); clear hK K) | refine awp_true rfl rfl ?_ | refine awp_false rfl rfl ?_ | refine awp_block ?_ | ((first | refine CallK.pure (enter15) (c1) ?_ ?_ | refine CallD.pure (enter15) (c1) ?_ ?_); (focus first | ((repeat (first | exact trivial | refine ⟨(by first | exact Or.inl rfl | exact Or.inr rfl), ?_⟩)); done) | (simp only [coL, AV.dat, true_or, or_true, AV.d.injEq, go_sem]; done)); simp only [go_sem, beq_self_eq_true, nat_ne8, hc]) | ((first | refine CallK.pure (enter15) (c2) ?_ ?_ | refine CallD.pure (enter15) (c2) ?_ ?_); (focus first | ((repeat (first | exact trivial | refine ⟨(by first | exact Or.inl rfl | exact Or.inr rfl), ?_⟩)); done) | (simp only [coL, AV.dat, true_or, or_true, AV.d.injEq, go_sem]; done)); simp only [go_sem, beq_self_eq_true, nat_ne8, hc]) | ((first | refine CallK.pure (enter46) (w1) ?_ ?_ | refine CallD.pure (enter46) (w1) ?_ ?_); (focus first | ((repeat (first | exact trivial | refine ⟨(by first | exact Or.inl rfl | exact Or.inr rfl), ?_⟩)); done) | (simp only [coL, AV.dat, true_or, or_true, AV.d.injEq, go_sem]; done)); simp only [go_sem, beq_self_eq_true, nat_ne8, hc]) | ((first | refine CallK.pure (enter46) (w2) ?_ ?_ | refine CallD.pure (enter46) (w2) ?_ ?_); (focus first | ((repeat (first | exact trivial | refine ⟨(by first | exact Or.inl rfl | exact Or.inr rfl), ?_⟩)); done) | (simp only [coL, AV.dat, true_or, or_true, AV.d.injEq, go_sem]; done)); simp only [go_sem, beq_self_eq_true, nat_ne8, hc]) | ((first | refine CallK.pure (enter52) (termBegun_tri) ?_ ?_ | refine CallD.pure (enter52) (termBegun_tri) ?_ ?_ | refine CallK.pure (enter57) (v1) ?_ ?_ | refine CallD.pure (enter57) (v1) ?_ ?_ | refine CallK.pure (enter58) (v2) ?_ ?_ | refine CallD.pure (enter58) (v2) ?_ ?_ | refine CallK.pure (enter59) (v3) ?_ ?_ | refine CallD.pure (enter59) (v3) ?_ ?_ | refine CallK.pure (enter60) (v4) ?_ ?_ | refine CallD.pure (enter60) (v4) ?_ ?_ | refine CallK.pure (enter50) (v5) ?_ ?_ | refine CallD.pure (enter50) (v5) ?_ ?_); (focus first | ((repeat (first | exact trivial | refine ⟨(by first | exact Or.inl rfl | exact Or.inr rfl), ?_⟩)); done) | (simp only [coL, AV.dat, true_or, or_true, AV.d.injEq, go_sem]; done)); simp only [go_sem, beq_self_eq_true, nat_ne8, hc]) | refine And.intro (by first | ((repeat' first | omega | exact trivial | rfl | assumption | (intro a e; subst e; rfl) | exact map_sz fun a => (by simp only [go_sem]) | refine And.intro ?_ ?_); done) | fail) ?_ | fail)
          (first | refine ret_pure ?_ ?_ ?_ | refine ret_ro ?_ ?_ ?_); focus exact (by simp only [Try.results11, resOkL, resOk, Try.ntmps11, List.toList_toArray]; first | decide | (simp only [go_sem]; done) | (simp only [go_sem]; and_intros <;> first | omega | rfl | decide))
          rotate_left; focus exact (by repeat (first | exact Fr.rfl' _ _ | assumption | refine Fr.updk ?_ (by omega) _))
          simp only [resA, resV, Try.results11, go_sem]
          all_goals try (first | exact Co.t2 (.dat rfl) (.dat rfl) | exact Co.t3 (.dat rfl) (.dat rfl) (.dat rfl))
          exact .dat rfl
        | false =>
          have a2 : putAns g t p u = (layG t p u, 0) := by unfold putAns; rw [if_neg (by simp [h2]), ha, if_pos rfl, if_neg (by simpa using hc)]
          rw [a2] at v2
          have w2 := isT (layG t p u) (layG t p u) 0 0 (by simp) rfl
          refine tri_enter Try.func11 rfl Try.ntmps11 (by simp only [List.length_cons, List.length_nil]; omega) fun w0 h0 k hrd hwr => ?_
          repeat' (first | refine awp_seq_k fun K hK => ?_ | ((first | refine awp_region_k (by kernel_rfl) fun R hR => ?_ | refine awp_draw mixed (by kernel_rfl) (by kernel_rfl) fun R hR => ?_); simp only [go_sem, beq_self_eq_true, nat_ne8, hc]) | ((first | (refine hR _ ?_; clear hR R) | refine awp_skip ?_ | refine awp_exit ?_ | refine awp_ret ?_); try simp only [thenA, inBlockA, reduceIte, reduceCtorEq, Nat.reduceEqDiff, if_false, if_true]) | ((first | refine hK _ ?_ | (clear hK K; first | refine hK _ ?_ | (clear hK K; first | refine hK _ ?_ | (clear hK K; first | refine hK _ ?_ | (clear hK K; refine hK _ ?_))))); clear hK K) | refine awp_true rfl rfl ?_ | refine awp_false rfl rfl ?_ | refine awp_block ?_ | ((first | refine CallK.pure (enter15) (c1) ?_ ?_ | refine CallD.pure (enter15) (c1) ?_ ?_); (focus first | ((repeat (first | exact trivial | refine ⟨(by first | exact Or.inl rfl | exact Or.inr rfl), ?_⟩)); done) | (simp only [coL, AV.dat, true_or, or_true, AV.d.injEq, go_sem]; done)); simp only [go_sem, beq_self_eq_true, nat_ne8, hc]) | ((first | refine CallK.pure (enter15) (c2) ?_ ?_ | refine CallD.pure (enter15) (c2) ?_ ?_); (focus first | ((repeat (first | exact trivial | refine ⟨(by first | exact Or.inl rfl | exact Or.inr rfl), ?_⟩)); done) | (simp only [coL, AV.dat, true_or, or_true, AV.d.injEq, go_sem]; done)); simp only [go_sem, beq_self_eq_true, nat_ne8, hc]) | ((first | refine CallK.pure (enter46) (w1) ?_ ?_ | refine CallD.pure (enter46) (w1) ?_ ?_); (focus first | ((repeat (first | exact trivial | refine ⟨(by first | exact Or.inl rfl | exact Or.inr rfl), ?_⟩)); done) | (simp only [coL, AV.dat, true_or, or_true, AV.d.injEq, go_sem]; done)); simp only [go_sem, beq_self_eq_true, nat_ne8, hc]) | ((first | refine CallK.pure (enter46) (w2) ?_ ?_ | refine CallD.pure (enter46) (w2) ?_ ?_); (focus first | ((repeat (first | exact trivial | refine ⟨(by first | exact Or.inl rfl | exact Or.inr rfl), ?_⟩)); done) | (simp only [coL, AV.dat, true_or, or_true, AV.d.injEq, go_sem]; done)); simp only [go_sem, beq_self_eq_true, nat_ne8, hc]) | ((first | refine CallK.pure (enter52) (termBegun_tri) ?_ ?_ | refine CallD.pure (enter52) (termBegun_tri) ?_ ?_ | refine CallK.pure (enter57) (v1) ?_ ?_ | refine CallD.pure (enter57) (v1) ?_ ?_ | refine CallK.pure (enter58) (v2) ?_ ?_ | refine CallD.pure (enter58) (v2) ?_ ?_ | refine CallK.pure (enter59) (v3) ?_ ?_ | refine CallD.pure (enter59) (v3) ?_ ?_ | refine CallK.pure (enter60) (v4) ?_ ?_ | refine CallD.pure (enter60) (v4) ?_ ?_ | refine CallK.pure (enter50) (v5) ?_ ?_ | refine CallD.pure (enter50) (v5) ?_ ?_); (focus first | ((repeat (first | exact trivial | refine ⟨(by first | exact Or.inl rfl | exact Or.inr rfl), ?_⟩)); done) | (simp only [coL, AV.dat, true_or, or_true, AV.d.injEq, go_sem]; done)); simp only [go_sem, beq_self_eq_true, nat_ne8, hc]) | refine And.intro (by first | ((repeat' first | omega | exact trivial | rfl | assumption | (intro a e; subst e; rfl) | exact map_sz fun a => (by simp only [go_sem]) | refine And.intro ?_ ?_); done) | fail) ?_ | fail)
          (first | refine ret_pure ?_ ?_ ?_ | refine ret_ro ?_ ?_ ?_); focus exact (by simp only [Try.results11, resOkL, resOk, Try.ntmps11, List.toList_toArray]; first | decide | (simp only [go_sem]; done) | (simp only [go_sem]; and_intros <;> first | omega | rfl | decide))
          rotate_left; focus exact (by repeat (first | exact Fr.rfl' _ _ | assumption | refine Fr.updk ?_ (by omega) _))
          simp only [resA, resV, Try.results11, go_sem]
          all_goals try (first | exact Co.t2 (.dat rfl) (.dat rfl) | exact Co.t3 (.dat rfl) (.dat rfl) (.dat rfl))
          exact .dat rfl
      · have a2 : putAns g t p u = (tm0, allOk g [t, u]) := by unfold putAns; rw [if_pos h2]
        rw [a2] at v2
        have hq : (allOk g [t, u] == 0) = false := by simpa using h2
        generalize allOk g [t, u] = e at *
        refine tri_enter Try.func11 rfl Try.ntmps11 (by simp only [List.length_cons, List.length_nil]; omega) fun w0 h0 k hrd hwr => ?_
        repeat' (first | refine awp_seq_k fun K hK => ?_ | ((first | refine awp_region_k (by kernel_rfl) fun R hR => ?_ | refine awp_draw mixed (by kernel_rfl) (by kernel_rfl) fun R hR => ?_); simp only [go_sem, beq_self_eq_true, nat_ne8, hq]) | ((first | (refine hR _ ?_; clear hR R) | refine awp_skip ?_ | refine awp_exit ?_ | refine awp_ret ?_); try simp only [thenA, inBlockA, reduceIte, reduceCtorEq, Nat.reduceEqDiff, if_false, if_true]) | ((first | refine hK _ ?_ | (clear hK K; first | refine hK _ ?_ | (clear hK K; first | refine hK _ ?_ | (clear hK K; first | refine hK _ ?_ | (clear hK K; refine hK _ ?_))))); clear hK K) | refine awp_true rfl rfl ?_ | refine awp_false rfl rfl ?_ | refine awp_block ?_ | ((first | refine CallK.pure (enter15) (c1) ?_ ?_ | refine CallD.pure (enter15) (c1) ?_ ?_); (focus first | ((repeat (first | exact trivial | refine ⟨(by first | exact Or.inl rfl | exact Or.inr rfl), ?_⟩)); done) | (simp only [coL, AV.dat, true_or, or_true, AV.d.injEq, go_sem]; done)); simp only [go_sem, beq_self_eq_true, nat_ne8, hq]) | ((first | refine CallK.pure (enter15) (c2) ?_ ?_ | refine CallD.pure (enter15) (c2) ?_ ?_); (focus first | ((repeat (first | exact trivial | refine ⟨(by first | exact Or.inl rfl | exact Or.inr rfl), ?_⟩)); done) | (simp only [coL, AV.dat, true_or, or_true, AV.d.injEq, go_sem]; done)); simp only [go_sem, beq_self_eq_true, nat_ne8, hq]) | ((first | refine CallK.pure (enter46) (w1) ?_ ?_ | refine CallD.pure (enter46) (w1) ?_ ?_); (focus first | ((repeat (first | exact trivial | refine ⟨(by first | exact Or.inl rfl | exact Or.inr rfl), ?_⟩)); done) | (simp only [coL, AV.dat, true_or, or_true, AV.d.injEq, go_sem]; done)); simp only [go_sem, beq_self_eq_true, nat_ne8, hq]) | ((first | refine CallK.pure (enter46) (isZ e) ?_ ?_ | refine CallD.pure (enter46) (isZ e) ?_ ?_); (focus first | ((repeat (first | exact trivial | refine ⟨(by first | exact Or.inl rfl | exact Or.inr rfl), ?_⟩)); done) | (simp only [coL, AV.dat, true_or, or_true, AV.d.injEq, go_sem]; done)); simp only [go_sem, beq_self_eq_true, nat_ne8, hq]) | ((first | refine CallK.pure (enter52) (termBegun_tri) ?_ ?_ | refine CallD.pure (enter52) (termBegun_tri) ?_ ?_ | refine CallK.pure (enter57) (v1) ?_ ?_ | refine CallD.pure (enter57) (v1) ?_ ?_ | refine CallK.pure (enter58) (v2) ?_ ?_ | refine CallD.pure (enter58) (v2) ?_ ?_ | refine CallK.pure (enter59) (v3) ?_ ?_ | refine CallD.pure (enter59) (v3) ?_ ?_); (focus first | ((repeat (first | exact trivial | refine ⟨(by first | exact Or.inl rfl | exact Or.inr rfl), ?_⟩)); done) | (simp only [coL, AV.dat, true_or, or_true, AV.d.injEq, go_sem]; done)); simp only [go_sem, beq_self_eq_true, nat_ne8, hq]) | refine And.intro (by first | ((repeat' first | omega | exact trivial | rfl | assumption | (intro a e; subst e; rfl) | exact map_sz fun a => (by simp only [go_sem]) | refine And.intro ?_ ?_); done) | fail) ?_ | fail)
        (first | refine ret_pure ?_ ?_ ?_ | refine ret_ro ?_ ?_ ?_); focus exact (by simp only [Try.results11, resOkL, resOk, Try.ntmps11, List.toList_toArray]; first | decide | (simp only [go_sem]; done) | (simp only [go_sem]; and_intros <;> first | omega | rfl | decide))
        rotate_left; focus exact (by repeat (first | exact Fr.rfl' _ _ | assumption | refine Fr.updk ?_ (by omega) _))
        simp only [resA, resV, Try.results11, go_sem]
        all_goals try (first | exact Co.t2 (.dat rfl) (.dat rfl) | exact Co.t3 (.dat rfl) (.dat rfl) (.dat rfl))
        exact .dat rfl
  · have h2 : allOk g [t, u] ≠ 0 := fun h => h1 (by
      obtain ⟨k1, k2⟩ := allOk_own h
      exact allOk_of k1 (by simpa using k2 t (by simp)))
    have a1 : atAns g t p = (tm0, allOk g [t]) := by unfold atAns; rw [if_pos h1]
    have a2 : putAns g t p u = (tm0, allOk g [t, u]) := by unfold putAns; rw [if_pos h2]
    rw [a1] at v1
    rw [a2] at v2
    have hq1 : (allOk g [t] == 0) = false := by simpa using h1
    have hq2 : (allOk g [t, u] == 0) = false := by simpa using h2
    generalize allOk g [t, u] = e at *
    generalize allOk g [t] = e' at *
    refine tri_enter Try.func11 rfl Try.ntmps11 (by simp only [List.length_cons, List.length_nil]; omega) fun w0 h0 k hrd hwr => ?_
    repeat' (first | refine awp_seq_k fun K hK => ?_ | ((first | refine awp_region_k (by kernel_rfl) fun R hR => ?_ | refine awp_draw mixed (by kernel_rfl) (by kernel_rfl) fun R hR => ?_); simp only [go_sem, beq_self_eq_true, nat_ne8, hq1, hq2]) | ((first | (refine hR _ ?_; clear hR R) | refine awp_skip ?_ | refine awp_exit ?_ | refine awp_ret ?_); try simp only [thenA, inBlockA, reduceIte, reduceCtorEq, Nat.reduceEqDiff, if_false, if_true]) | ((first | refine hK _ ?_ | (clear hK K; first | refine hK _ ?_ | (clear hK K; first | refine hK _ ?_ | (clear hK K; first | refine hK _ ?_ | (clear hK K; refine hK _ ?_))))); clear hK K) | refine awp_true rfl rfl ?_ | refine awp_false rfl rfl ?_ | refine awp_block ?_ | ((first | refine CallK.pure (enter15) (c1) ?_ ?_ | refine CallD.pure (enter15) (c1) ?_ ?_); (focus first | ((repeat (first | exact trivial | refine ⟨(by first | exact Or.inl rfl | exact Or.inr rfl), ?_⟩)); done) | (simp only [coL, AV.dat, true_or, or_true, AV.d.injEq, go_sem]; done)); simp only [go_sem, beq_self_eq_true, nat_ne8, hq1, hq2]) | ((first | refine CallK.pure (enter15) (c2) ?_ ?_ | refine CallD.pure (enter15) (c2) ?_ ?_); (focus first | ((repeat (first | exact trivial | refine ⟨(by first | exact Or.inl rfl | exact Or.inr rfl), ?_⟩)); done) | (simp only [coL, AV.dat, true_or, or_true, AV.d.injEq, go_sem]; done)); simp only [go_sem, beq_self_eq_true, nat_ne8, hq1, hq2]) | ((first | refine CallK.pure (enter46) (isZ e') ?_ ?_ | refine CallD.pure (enter46) (isZ e') ?_ ?_); (focus first | ((repeat (first | exact trivial | refine ⟨(by first | exact Or.inl rfl | exact Or.inr rfl), ?_⟩)); done) | (simp only [coL, AV.dat, true_or, or_true, AV.d.injEq, go_sem]; done)); simp only [go_sem, beq_self_eq_true, nat_ne8, hq1, hq2]) | ((first | refine CallK.pure (enter46) (isZ e) ?_ ?_ | refine CallD.pure (enter46) (isZ e) ?_ ?_); (focus first | ((repeat (first | exact trivial | refine ⟨(by first | exact Or.inl rfl | exact Or.inr rfl), ?_⟩)); done) | (simp only [coL, AV.dat, true_or, or_true, AV.d.injEq, go_sem]; done)); simp only [go_sem, beq_self_eq_true, nat_ne8, hq1, hq2]) | ((first | refine CallK.pure (enter52) (termBegun_tri) ?_ ?_ | refine CallD.pure (enter52) (termBegun_tri) ?_ ?_ | refine CallK.pure (enter57) (v1) ?_ ?_ | refine CallD.pure (enter57) (v1) ?_ ?_ | refine CallK.pure (enter58) (v2) ?_ ?_ | refine CallD.pure (enter58) (v2) ?_ ?_); (focus first | ((repeat (first | exact trivial | refine ⟨(by first | exact Or.inl rfl | exact Or.inr rfl), ?_⟩)); done) | (simp only [coL, AV.dat, true_or, or_true, AV.d.injEq, go_sem]; done)); simp only [go_sem, beq_self_eq_true, nat_ne8, hq1, hq2]) | refine And.intro (by first | ((repeat' first | omega | exact trivial | rfl | assumption | (intro a e; subst e; rfl) | exact map_sz fun a => (by simp only [go_sem]) | refine And.intro ?_ ?_); done) | fail) ?_ | fail)
    (first | refine ret_pure ?_ ?_ ?_ | refine ret_ro ?_ ?_ ?_); focus exact (by simp only [Try.results11, resOkL, resOk, Try.ntmps11, List.toList_toArray]; first | decide | (simp only [go_sem]; done) | (simp only [go_sem]; and_intros <;> first | omega | rfl | decide))
    rotate_left; focus exact (by repeat (first | exact Fr.rfl' _ _ | assumption | refine Fr.updk ?_ (by omega) _))
    simp only [resA, resV, Try.results11, go_sem]
    all_goals try (first | exact Co.t2 (.dat rfl) (.dat rfl) | exact Co.t3 (.dat rfl) (.dat rfl) (.dat rfl))
    exact .dat rfl
theorem termPuts_law (g : List Int) (t : Tm) (p : List Int) (u : Tm) (_ : True) (_ : True) (_ : True) (_ : True) (hb : (g.length + 1) + t.size + (p.length + 1) + u.size ≤ 1048576) : Tri Try.prog 11 [.d (sgDV g), .d (tmDV t), .d (.sl (p.map iD)), .d (tmDV u)] (pure' (bA true)) := termPuts_tri g t p u (by omega) (by omega)
end Go.Proofs.Ytmeekpinkfpnhaa
