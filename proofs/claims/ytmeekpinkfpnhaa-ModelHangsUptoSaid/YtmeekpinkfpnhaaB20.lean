/- The law ClauseTells: its walk. The law ClauseHangs: its walk. Models checked: model.Check. Values of terms in models: model.value, superposeref.ValueOf. -/
import Derived.Test.YtmeekpinkfpnhaaB07
import Derived.Test.YtmeekpinkfpnhaaB17
import Derived.Test.YtmeekpinkfpnhaaB18
import Derived.Test.YtmeekpinkfpnhaaB19
set_option linter.unusedSimpArgs false
set_option linter.unusedSectionVars false
set_option linter.unusedVariables false
set_option linter.unnecessarySimpa false
set_option linter.all false
namespace Go.Proofs.Ytmeekpinkfpnhaa
open Go.RowKit
theorem ltDV_map1 (a : Lt) : [ltDV a] = [a].map ltDV := rfl
def cbC : List Lt := [⟨true, .mk 7 0 [], .mk 0 0 []⟩, ⟨false, .mk 3 0 [], .mk 3 0 []⟩]
def cbD : List Lt := [⟨true, .mk 1 0 [], .mk 0 0 []⟩]
def cbE : List Lt := [⟨true, .mk 0 0 [], .mk 0 1 [.mk 0 0 []]⟩]
theorem cb1 : tidyAns [0, 1] cbC = (cbD, 0) := by rfl
theorem cb2 : subAns [0, 1] cbD cbE = (true, 0) := by rfl
theorem cb3 : alwAns [0, 1] cbC = (false, 0) := by rfl
theorem cb4 : clsOk [0, 1] [cbC] = 0 := by rfl
theorem cbd1 : DV.st [bD true, iD 7, iD 0, .sl [], iD 0, iD 0, .sl []] = ltDV ⟨true, .mk 7 0 [], .mk 0 0 []⟩ := rfl
theorem cbd2 : DV.st [bD false, iD 3, iD 0, .sl [], iD 3, iD 0, .sl []] = ltDV ⟨false, .mk 3 0 [], .mk 3 0 []⟩ := rfl
theorem cbd3 : DV.st [bD true, iD 0, iD 0, .sl [], iD 0, iD 1, .sl ([.mk 0 0 []].map tmDV)] = ltDV ⟨true, .mk 0 0 [], .mk 0 1 [.mk 0 0 []]⟩ := rfl
set_option maxHeartbeats 2000000 in
set_option maxRecDepth 20000 in
theorem clauseBegun_tri : Tri Try.prog 35 [] (pure' (bA true)) := by
  have v1 := tidy_tri [0, 1] cbC (by decide)
  have v2 := subsumes_tri [0, 1] cbD cbE (by decide) (by decide) (by decide)
  have v3 := always_tri [0, 1] cbC (by decide)
  have v4 := clCheck_tri [0, 1] [cbC] (by decide) (by decide)
  rw [cb1] at v1
  rw [cb2] at v2
  rw [cb3] at v3
  rw [cb4] at v4
  simp only [cbD, List.map_cons, List.map_nil] at v1 v2
  have ht0 : Int.toNat 0 = 0 := rfl
  have h11 : (((1 : Nat) : Int) == 1) = true := rfl
  refine tri_enter Try.func35 rfl Try.ntmps35 (by simp only [List.length_cons, List.length_nil]; omega) fun w0 h0 k hrd hwr => ?_
  repeat' (first | refine awp_seq_k fun K hK => ?_ | ((first | refine awp_region_k (by kernel_rfl) fun R hR => ?_ | refine awp_draw mixed (by kernel_rfl) (by kernel_rfl) fun R hR => ?_); simp only [go_sem, beq_self_eq_true, h11, ht0, v_mk, cbd1, cbd2, cbd3]) | ((first | (refine hR _ ?_; clear hR R) | refine awp_skip ?_ | refine awp_exit ?_ | refine awp_ret ?_); try simp only [thenA, inBlockA, reduceIte, reduceCtorEq, Nat.reduceEqDiff, if_false, if_true]) | ((first | refine hK _ ?_ | (clear hK K; first | refine hK _ ?_ | (clear hK K; first | refine hK _ ?_ | (clear hK K; first | refine hK _ ?_ | (clear hK K; refine hK _ ?_))))); clear hK K) | refine awp_true rfl rfl ?_ | refine awp_false rfl rfl ?_ | refine awp_block ?_ | ((first | refine CallK.pure (enter67) (va_tri 7) ?_ ?_ | refine CallD.pure (enter67) (va_tri 7) ?_ ?_); (focus first | ((repeat (first | exact trivial | refine ⟨(by first | exact Or.inl rfl | exact Or.inr rfl), ?_⟩)); done) | (simp only [coL, AV.dat, true_or, or_true, AV.d.injEq, go_sem]; done)); simp only [go_sem, beq_self_eq_true, h11, ht0, v_mk, cbd1, cbd2, cbd3]) | ((first | refine CallK.pure (enter67) (va_tri 3) ?_ ?_ | refine CallD.pure (enter67) (va_tri 3) ?_ ?_); (focus first | ((repeat (first | exact trivial | refine ⟨(by first | exact Or.inl rfl | exact Or.inr rfl), ?_⟩)); done) | (simp only [coL, AV.dat, true_or, or_true, AV.d.injEq, go_sem]; done)); simp only [go_sem, beq_self_eq_true, h11, ht0, v_mk, cbd1, cbd2, cbd3]) | ((first | refine CallK.pure (enter66) (fn_tri 0 []) ?_ ?_ | refine CallD.pure (enter66) (fn_tri 0 []) ?_ ?_); (focus first | ((repeat (first | exact trivial | refine ⟨(by first | exact Or.inl rfl | exact Or.inr rfl), ?_⟩)); done) | (simp only [coL, AV.dat, true_or, or_true, AV.d.injEq, go_sem]; done)); simp only [go_sem, beq_self_eq_true, h11, ht0, v_mk, cbd1, cbd2, cbd3]) | ((first | refine CallK.pure (enter66) (fn_tri 1 [.mk 0 0 []]) ?_ ?_ | refine CallD.pure (enter66) (fn_tri 1 [.mk 0 0 []]) ?_ ?_); (focus first | ((repeat (first | exact trivial | refine ⟨(by first | exact Or.inl rfl | exact Or.inr rfl), ?_⟩)); done) | (simp only [coL, AV.dat, true_or, or_true, AV.d.injEq, go_sem]; done)); simp only [go_sem, beq_self_eq_true, h11, ht0, v_mk, cbd1, cbd2, cbd3]) | ((first | refine CallK.pure (enter65) (small_tri) ?_ ?_ | refine CallD.pure (enter65) (small_tri) ?_ ?_ | refine CallK.pure (enter29) (v1) ?_ ?_ | refine CallD.pure (enter29) (v1) ?_ ?_ | refine CallK.pure (enter31) (v2) ?_ ?_ | refine CallD.pure (enter31) (v2) ?_ ?_ | refine CallK.pure (enter30) (v3) ?_ ?_ | refine CallD.pure (enter30) (v3) ?_ ?_ | refine CallK.pure (enter36) (v4) ?_ ?_ | refine CallD.pure (enter36) (v4) ?_ ?_); (focus first | ((repeat (first | exact trivial | refine ⟨(by first | exact Or.inl rfl | exact Or.inr rfl), ?_⟩)); done) | (simp only [coL, AV.dat, true_or, or_true, AV.d.injEq, go_sem]; done)); simp only [go_sem, beq_self_eq_true, h11, ht0, v_mk, cbd1, cbd2, cbd3]) | refine And.intro (by first | ((repeat' first | omega | exact trivial | rfl | assumption | (intro a e; subst e; rfl) | exact map_sz fun a => (by simp only [go_sem]) | refine And.intro ?_ ?_); done) | fail) ?_ | fail)
  (first | refine ret_pure ?_ ?_ ?_ | refine ret_ro ?_ ?_ ?_); focus exact (by simp only [Try.results35, resOkL, resOk, Try.ntmps35, List.toList_toArray]; first | decide | (simp only [go_sem]; done) | (simp only [go_sem]; and_intros <;> first | omega | rfl | decide))
  rotate_left; focus exact (by repeat (first | exact Fr.rfl' _ _ | assumption | refine Fr.updk ?_ (by omega) _))
  simp only [resA, resV, Try.results35, go_sem]
  all_goals try (first | exact Co.t2 (.dat rfl) (.dat rfl) | exact Co.t3 (.dat rfl) (.dat rfl) (.dat rfl))
  exact .dat rfl
set_option maxHeartbeats 4000000 in
set_option maxRecDepth 20000 in
theorem clauseTells_tri (g : List Int) (c d : List Lt) (hc : c.length ≤ 4000000) (hd : d.length ≤ 4000000) (hcs : ∀ l ∈ c, l.a.size ≤ 4000000 ∧ l.b.size ≤ 4000000) : Tri Try.prog 5 [.d (sgDV g), .d (clDV c), .d (clDV d)] (pure' (bA true)) := by
  have t1 := tidy_tri g c hc
  have t2 := always_tri g c hc
  have t3 := subsumes_tri g c d hc hd hcs
  have t4 := checkClauses_tri g [c] (by simp) (by simpa using hc)
  have t5 := checkClauses_tri g [c, d] (by simp) (by intro x hx; simp only [List.mem_cons, List.not_mem_nil, or_false] at hx; rcases hx with rfl | rfl <;> omega)
  have t6 := clCheck_tri g [c, d] (by simp) (by intro x hx; simp only [List.mem_cons, List.not_mem_nil, or_false] at hx; rcases hx with rfl | rfl <;> omega)
  refine tri_enter Try.func5 rfl Try.ntmps5 (by simp only [List.length_cons, List.length_nil]; omega) fun w0 h0 k hrd hwr => ?_
  have hsub : clsOk g [c, d] = 0 → clsOk g [c] = 0 := fun h => by
    obtain ⟨h1, h2, h3⟩ := clsOk_all h
    unfold clsOk
    rw [if_neg (by simp [h1]), if_neg (by simp), clsL, clsL, h3 c (by simp)]; simp
  cases hv : clsOk g [c] == 0 with
  | true =>
    have hv2 : clsOk g [c] = 0 := by simpa using hv
    obtain ⟨hl8, hown⟩ := clsOk_one hv2
    have hgd : ∀ l ∈ c, Good l.a ∧ Good l.b := fun l hl => ⟨own_good (hown l hl).1, own_good (hown l hl).2⟩
    have ha1 : tidyAns g c = (tidyR c, 0) := by unfold tidyAns; rw [if_neg (by simp [hv2]), neat_tidy hgd]
    have ha2 : alwAns g c = (alwB c, 0) := by unfold alwAns; rw [if_neg (by simp [hv2])]
    rw [ha1] at t1
    rw [ha2] at t2
    rw [hv2] at t4
    have tt := tidyOf_tri c (small_own hv2)
    have ta := alwaysOf_tri c hc
    have hlen := tidyR_len c
    have ci := clauseIs_tri (tidyR c) (by omega) 0 0 (tidyR c)
    rw [if_neg (by simp), sameC_rfl, beq_self_eq_true, Bool.true_and] at ci
    cases hw : clsOk g [c, d] == 0 with
    | true =>
      have hw2 : clsOk g [c, d] = 0 := by simpa using hw
      have hdo := (clOk_all ((clsOk_all hw2).2.2 d (by simp)))
      have ha3 : subAns g c d = (covG grow c d [], 0) := by
        unfold subAns
        rw [if_neg (by simp [hw2]), covG_eq c d [] fun x hx => ⟨fun z hz => own_v (hdo.2 x hx).1 hz, fun z hz => own_v (hdo.2 x hx).2 hz⟩]
      have hszc : szC c ≤ 240 * 8 := by
        unfold szC
        have h1 : ∀ (c : List Lt), (∀ l ∈ c, own g l.a = 0 ∧ own g l.b = 0) → (c.map fun l => l.a.size + l.b.size).sum ≤ 240 * c.length := by
          intro c hc
          induction c with
          | nil => simp
          | cons l c ih =>
            have h1 := hc l (by simp)
            have h2 := own_parts h1.1
            have h3 := own_parts h1.2
            rw [parts_len] at h2 h3
            have := ih fun x hx => hc x (by simp [hx])
            simp only [List.map_cons, List.sum_cons, List.length_cons]; omega
        have := h1 c hown
        omega
      have tc := coversOf_tri d hd c hc [] (by simp; omega)
      rw [ha3] at t3
      rw [hw2] at t5 t6
      repeat' (first | refine awp_seq_k fun K hK => ?_ | ((first | refine awp_region_k (by kernel_rfl) fun R hR => ?_ | refine awp_draw mixed (by kernel_rfl) (by kernel_rfl) fun R hR => ?_); simp only [go_sem, hv2, hw2, beq_self_eq_true]) | ((first | (refine hR _ ?_; clear hR R) | refine awp_skip ?_ | refine awp_exit ?_ | refine awp_ret ?_); try simp only [thenA, inBlockA, reduceIte, reduceCtorEq, Nat.reduceEqDiff, if_false, if_true]) | ((first | refine hK _ ?_ | (clear hK K; first | refine hK _ ?_ | (clear hK K; first | refine hK _ ?_ | (clear hK K; first | refine hK _ ?_ | (clear hK K; refine hK _ ?_))))); clear hK K) | refine awp_true rfl rfl ?_ | refine awp_false rfl rfl ?_ | refine awp_block ?_ | ((first | refine CallK.pure (enter24) (t4) ?_ ?_ | refine CallD.pure (enter24) (t4) ?_ ?_); (focus first | ((repeat (first | exact trivial | refine ⟨(by first | exact Or.inl rfl | exact Or.inr rfl), ?_⟩)); done) | (simp only [coL, AV.dat, true_or, or_true, AV.d.injEq, go_sem]; done)); simp only [go_sem, hv2, hw2, beq_self_eq_true]) | ((first | refine CallK.pure (enter24) (t5) ?_ ?_ | refine CallD.pure (enter24) (t5) ?_ ?_); (focus first | ((repeat (first | exact trivial | refine ⟨(by first | exact Or.inl rfl | exact Or.inr rfl), ?_⟩)); done) | (simp only [coL, AV.dat, true_or, or_true, AV.d.injEq, go_sem]; done)); simp only [go_sem, hv2, hw2, beq_self_eq_true]) | ((first | refine CallK.pure (enter29) (t1) ?_ ?_ | refine CallD.pure (enter29) (t1) ?_ ?_ | refine CallK.pure (enter30) (t2) ?_ ?_ | refine CallD.pure (enter30) (t2) ?_ ?_ | refine CallK.pure (enter31) (t3) ?_ ?_ | refine CallD.pure (enter31) (t3) ?_ ?_ | refine CallK.pure (enter32) (tt) ?_ ?_ | refine CallD.pure (enter32) (tt) ?_ ?_ | refine CallK.pure (enter33) (ta) ?_ ?_ | refine CallD.pure (enter33) (ta) ?_ ?_ | refine CallK.pure (enter34) (tc) ?_ ?_ | refine CallD.pure (enter34) (tc) ?_ ?_ | refine CallK.pure (enter35) (clauseBegun_tri) ?_ ?_ | refine CallD.pure (enter35) (clauseBegun_tri) ?_ ?_ | refine CallK.pure (enter36) (t6) ?_ ?_ | refine CallD.pure (enter36) (t6) ?_ ?_ | refine CallK.pure (enter37) (ci) ?_ ?_ | refine CallD.pure (enter37) (ci) ?_ ?_); (focus first | ((repeat (first | exact trivial | refine ⟨(by first | exact Or.inl rfl | exact Or.inr rfl), ?_⟩)); done) | (simp only [coL, AV.dat, true_or, or_true, AV.d.injEq, go_sem]; done)); simp only [go_sem, hv2, hw2, beq_self_eq_true]) | refine And.intro (by first | ((repeat' first | omega | exact trivial | rfl | assumption | (intro a e; subst e; rfl) | exact map_sz fun a => (by simp only [go_sem]) | refine And.intro ?_ ?_); done) | fail) ?_ | fail)
      (first | refine ret_pure ?_ ?_ ?_ | refine ret_ro ?_ ?_ ?_); focus exact (by simp only [Try.results5, resOkL, resOk, Try.ntmps5, List.toList_toArray]; first | decide | (simp only [go_sem]; done) | (simp only [go_sem]; and_intros <;> first | omega | rfl | decide))
      rotate_left; focus exact (by repeat (first | exact Fr.rfl' _ _ | assumption | refine Fr.updk ?_ (by omega) _))
      simp only [resA, resV, Try.results5, go_sem]
      all_goals try (first | exact Co.t2 (.dat rfl) (.dat rfl) | exact Co.t3 (.dat rfl) (.dat rfl) (.dat rfl))
      exact .dat rfl
    | false =>
      have ha3 : subAns g c d = (false, clsOk g [c, d]) := by unfold subAns; rw [if_pos (by simpa using hw)]
      rw [ha3] at t3
      repeat' (first | refine awp_seq_k fun K hK => ?_ | ((first | refine awp_region_k (by kernel_rfl) fun R hR => ?_ | refine awp_draw mixed (by kernel_rfl) (by kernel_rfl) fun R hR => ?_); simp only [go_sem, hv2, hw, beq_self_eq_true]) | ((first | (refine hR _ ?_; clear hR R) | refine awp_skip ?_ | refine awp_exit ?_ | refine awp_ret ?_); try simp only [thenA, inBlockA, reduceIte, reduceCtorEq, Nat.reduceEqDiff, if_false, if_true]) | ((first | refine hK _ ?_ | (clear hK K; first | refine hK _ ?_ | (clear hK K; first | refine hK _ ?_ | (clear hK K; first | refine hK _ ?_ | (clear hK K; refine hK _ ?_))))); clear hK K) | refine awp_true rfl rfl ?_ | refine awp_false rfl rfl ?_ | refine awp_block ?_ | ((first | refine CallK.pure (enter24) (t4) ?_ ?_ | refine CallD.pure (enter24) (t4) ?_ ?_); (focus first | ((repeat (first | exact trivial | refine ⟨(by first | exact Or.inl rfl | exact Or.inr rfl), ?_⟩)); done) | (simp only [coL, AV.dat, true_or, or_true, AV.d.injEq, go_sem]; done)); simp only [go_sem, hv2, hw, beq_self_eq_true]) | ((first | refine CallK.pure (enter24) (t5) ?_ ?_ | refine CallD.pure (enter24) (t5) ?_ ?_); (focus first | ((repeat (first | exact trivial | refine ⟨(by first | exact Or.inl rfl | exact Or.inr rfl), ?_⟩)); done) | (simp only [coL, AV.dat, true_or, or_true, AV.d.injEq, go_sem]; done)); simp only [go_sem, hv2, hw, beq_self_eq_true]) | ((first | refine CallK.pure (enter29) (t1) ?_ ?_ | refine CallD.pure (enter29) (t1) ?_ ?_ | refine CallK.pure (enter30) (t2) ?_ ?_ | refine CallD.pure (enter30) (t2) ?_ ?_ | refine CallK.pure (enter31) (t3) ?_ ?_ | refine CallD.pure (enter31) (t3) ?_ ?_ | refine CallK.pure (enter32) (tt) ?_ ?_ | refine CallD.pure (enter32) (tt) ?_ ?_ | refine CallK.pure (enter33) (ta) ?_ ?_ | refine CallD.pure (enter33) (ta) ?_ ?_ | refine CallK.pure (enter35) (clauseBegun_tri) ?_ ?_ | refine CallD.pure (enter35) (clauseBegun_tri) ?_ ?_ | refine CallK.pure (enter36) (t6) ?_ ?_ | refine CallD.pure (enter36) (t6) ?_ ?_ | refine CallK.pure (enter37) (ci) ?_ ?_ | refine CallD.pure (enter37) (ci) ?_ ?_); (focus first | ((repeat (first | exact trivial | refine ⟨(by first | exact Or.inl rfl | exact Or.inr rfl), ?_⟩)); done) | (simp only [coL, AV.dat, true_or, or_true, AV.d.injEq, go_sem]; done)); simp only [go_sem, hv2, hw, beq_self_eq_true]) | refine And.intro (by first | ((repeat' first | omega | exact trivial | rfl | assumption | (intro a e; subst e; rfl) | exact map_sz fun a => (by simp only [go_sem]) | refine And.intro ?_ ?_); done) | fail) ?_ | fail)
      (first | refine ret_pure ?_ ?_ ?_ | refine ret_ro ?_ ?_ ?_); focus exact (by simp only [Try.results5, resOkL, resOk, Try.ntmps5, List.toList_toArray]; first | decide | (simp only [go_sem]; done) | (simp only [go_sem]; and_intros <;> first | omega | rfl | decide))
      rotate_left; focus exact (by repeat (first | exact Fr.rfl' _ _ | assumption | refine Fr.updk ?_ (by omega) _))
      simp only [resA, resV, Try.results5, go_sem]
      all_goals try (first | exact Co.t2 (.dat rfl) (.dat rfl) | exact Co.t3 (.dat rfl) (.dat rfl) (.dat rfl))
      exact .dat rfl
  | false =>
    have hv2 : ¬ clsOk g [c] = 0 := by simpa using hv
    have hw : (clsOk g [c, d] == 0) = false := by simpa using fun h => hv2 (hsub h)
    have ha1 : tidyAns g c = ([], clsOk g [c]) := by unfold tidyAns; rw [if_pos hv2]
    have ha2 : alwAns g c = (false, clsOk g [c]) := by unfold alwAns; rw [if_pos hv2]
    have ha3 : subAns g c d = (false, clsOk g [c, d]) := by unfold subAns; rw [if_pos (by simpa using hw)]
    rw [ha1] at t1
    rw [ha2] at t2
    rw [ha3] at t3
    have ci := clauseIs_tri [] (by simp) (clsOk g [c]) (clsOk g [c]) []
    rw [if_pos hv2, sameC_rfl, beq_self_eq_true, Bool.true_and] at ci
    repeat' (first | refine awp_seq_k fun K hK => ?_ | ((first | refine awp_region_k (by kernel_rfl) fun R hR => ?_ | refine awp_draw mixed (by kernel_rfl) (by kernel_rfl) fun R hR => ?_); simp only [go_sem, hv, hw, beq_self_eq_true]) | ((first | (refine hR _ ?_; clear hR R) | refine awp_skip ?_ | refine awp_exit ?_ | refine awp_ret ?_); try simp only [thenA, inBlockA, reduceIte, reduceCtorEq, Nat.reduceEqDiff, if_false, if_true]) | ((first | refine hK _ ?_ | (clear hK K; first | refine hK _ ?_ | (clear hK K; first | refine hK _ ?_ | (clear hK K; first | refine hK _ ?_ | (clear hK K; refine hK _ ?_))))); clear hK K) | refine awp_true rfl rfl ?_ | refine awp_false rfl rfl ?_ | refine awp_block ?_ | ((first | refine CallK.pure (enter24) (t4) ?_ ?_ | refine CallD.pure (enter24) (t4) ?_ ?_); (focus first | ((repeat (first | exact trivial | refine ⟨(by first | exact Or.inl rfl | exact Or.inr rfl), ?_⟩)); done) | (simp only [coL, AV.dat, true_or, or_true, AV.d.injEq, go_sem]; done)); simp only [go_sem, hv, hw, beq_self_eq_true]) | ((first | refine CallK.pure (enter24) (t5) ?_ ?_ | refine CallD.pure (enter24) (t5) ?_ ?_); (focus first | ((repeat (first | exact trivial | refine ⟨(by first | exact Or.inl rfl | exact Or.inr rfl), ?_⟩)); done) | (simp only [coL, AV.dat, true_or, or_true, AV.d.injEq, go_sem]; done)); simp only [go_sem, hv, hw, beq_self_eq_true]) | ((first | refine CallK.pure (enter29) (t1) ?_ ?_ | refine CallD.pure (enter29) (t1) ?_ ?_ | refine CallK.pure (enter30) (t2) ?_ ?_ | refine CallD.pure (enter30) (t2) ?_ ?_ | refine CallK.pure (enter31) (t3) ?_ ?_ | refine CallD.pure (enter31) (t3) ?_ ?_ | refine CallK.pure (enter35) (clauseBegun_tri) ?_ ?_ | refine CallD.pure (enter35) (clauseBegun_tri) ?_ ?_ | refine CallK.pure (enter36) (t6) ?_ ?_ | refine CallD.pure (enter36) (t6) ?_ ?_ | refine CallK.pure (enter37) (ci) ?_ ?_ | refine CallD.pure (enter37) (ci) ?_ ?_); (focus first | ((repeat (first | exact trivial | refine ⟨(by first | exact Or.inl rfl | exact Or.inr rfl), ?_⟩)); done) | (simp only [coL, AV.dat, true_or, or_true, AV.d.injEq, go_sem]; done)); simp only [go_sem, hv, hw, beq_self_eq_true]) | refine And.intro (by first | ((repeat' first | omega | exact trivial | rfl | assumption | (intro a e; subst e; rfl) | exact map_sz fun a => (by simp only [go_sem]) | refine And.intro ?_ ?_); done) | fail) ?_ | fail)
    (first | refine ret_pure ?_ ?_ ?_ | refine ret_ro ?_ ?_ ?_); focus exact (by simp only [Try.results5, resOkL, resOk, Try.ntmps5, List.toList_toArray]; first | decide | (simp only [go_sem]; done) | (simp only [go_sem]; and_intros <;> first | omega | rfl | decide))
    rotate_left; focus exact (by repeat (first | exact Fr.rfl' _ _ | assumption | refine Fr.updk ?_ (by omega) _))
    simp only [resA, resV, Try.results5, go_sem]
    all_goals try (first | exact Co.t2 (.dat rfl) (.dat rfl) | exact Co.t3 (.dat rfl) (.dat rfl) (.dat rfl))
    exact .dat rfl
theorem lt_size {c : List Lt} {l : Lt} (h : l ∈ c) : l.size ≤ (c.map Lt.size).sum := by
  induction c with
  | nil => cases h
  | cons x c ih =>
    rw [List.map_cons, List.sum_cons]
    rcases List.mem_cons.1 h with rfl | h
    · omega
    · have := ih h; omega
theorem lt_len (c : List Lt) : c.length ≤ (c.map Lt.size).sum := by
  induction c with
  | nil => simp
  | cons x c ih =>
    rw [List.map_cons, List.sum_cons, List.length_cons]
    have : 1 ≤ x.size := by unfold Lt.size; omega
    omega
theorem lt_sizes {c : List Lt} {n : Nat} (h : (c.map Lt.size).sum ≤ n) : c.length ≤ n ∧ ∀ l ∈ c, l.a.size ≤ n ∧ l.b.size ≤ n := by
  refine ⟨by have := lt_len c; omega, fun l hl => ?_⟩
  have := lt_size hl
  unfold Lt.size at this h
  constructor <;> omega
theorem clause_law (g : List Int) (c d : List Lt) (_ : True) (_ : True) (_ : True) (hb : (g.length + 1) + ((c.map Lt.size).sum + 1) + ((d.map Lt.size).sum + 1) ≤ 1048576) : Tri Try.prog 5 [.d (sgDV g), .d (clDV c), .d (clDV d)] (pure' (bA true)) := by
  obtain ⟨h1, h2⟩ := lt_sizes (c := c) (n := 1048576) (by omega)
  obtain ⟨h3, h4⟩ := lt_sizes (c := d) (n := 1048576) (by omega)
  exact clauseTells_tri g c d (by omega) (by omega) (fun l hl => by have := h2 l hl; omega)
end Go.Proofs.Ytmeekpinkfpnhaa
namespace Go.Proofs.Ytmeekpinkfpnhaa
open Go.RowKit
theorem clsOk_mk {g : List Int} {l : List (List Lt)} (h1 : sigOk g = 0) (h2 : l.length ≤ 60) (h3 : ∀ c ∈ l, clOk g c = 0) : clsOk g l = 0 := by
  unfold clsOk
  rw [if_neg (by simp [h1]), if_neg (by omega)]
  clear h2
  induction l with
  | nil => rfl
  | cons c l ih =>
    rw [clsL, if_neg (by simp [h3 c (by simp)])]
    exact ih fun x hx => h3 x (by simp [hx])
theorem clOk_mk {g : List Int} {c : List Lt} (h1 : c.length ≤ 8) (h2 : ∀ l ∈ c, own g l.a = 0 ∧ own g l.b = 0) : clOk g c = 0 := by
  unfold clOk
  rw [if_neg (by omega)]
  clear h1
  induction c with
  | nil => rfl
  | cons l c ih =>
    obtain ⟨h3, h4⟩ := h2 l (by simp)
    rw [litL, if_neg (by simp [h3]), if_neg (by simp [h4])]
    exact ih fun x hx => h2 x (by simp [hx])
theorem tidyR_ok {g : List Int} {c : List Lt} (h : clsOk g [c] = 0) : clsOk g [tidyR c] = 0 := by
  obtain ⟨h1, h2⟩ := clsOk_one h
  obtain ⟨hs, _, _⟩ := clsOk_all h
  refine clsOk_mk hs (by simp) fun x hx => ?_
  rw [List.mem_singleton.1 hx]
  refine clOk_mk (by have := tidyR_len c; omega) (tidy_own h2 fun v hv => ?_)
  exact names_in (fun l hl => h2 l (keepR_mem hl)) v hv
theorem tidyAns_ok {g : List Int} {c : List Lt} (h : clsOk g [c] = 0) : tidyAns g c = (tidyR c, 0) := by
  unfold tidyAns
  rw [if_neg (by simp [h]), neat_tidy fun l hl => ⟨own_good ((clsOk_one h).2 l hl).1, own_good ((clsOk_one h).2 l hl).2⟩]
theorem subAns_ok {g : List Int} {c d : List Lt} (h : (subAns g c d).2 = 0) : clsOk g [c, d] = 0 ∧ subAns g c d = (covG meet c d [], 0) := by
  unfold subAns at h ⊢
  by_cases hw : clsOk g [c, d] = 0
  · rw [if_neg (by simp [hw])]; exact ⟨hw, rfl⟩
  · rw [if_pos hw] at h; exact absurd h hw
theorem clsOk_two {g : List Int} {c d : List Lt} (h : clsOk g [c, d] = 0) : (∀ l ∈ c, own g l.a = 0 ∧ own g l.b = 0) ∧ ∀ l ∈ d, own g l.a = 0 ∧ own g l.b = 0 := by
  obtain ⟨_, _, h3⟩ := clsOk_all h
  exact ⟨(clOk_all (h3 c (by simp))).2, (clOk_all (h3 d (by simp))).2⟩
theorem ownC_nn {g : List Int} {c : List Lt} (h : ∀ l ∈ c, own g l.a = 0 ∧ own g l.b = 0) : NnC c := fun l hl => ⟨(own_pure (h l hl).1).nn, (own_pure (h l hl).2).nn⟩
set_option maxHeartbeats 4000000 in
set_option maxRecDepth 20000 in
theorem clauseHangs_tri (g : List Int) (a b c : List Lt) (ha : a.length ≤ 4000000) (hb : b.length ≤ 4000000) (hc : c.length ≤ 4000000) (has : ∀ l ∈ a, l.a.size ≤ 4000000 ∧ l.b.size ≤ 4000000) (hbs : ∀ l ∈ b, l.a.size ≤ 4000000 ∧ l.b.size ≤ 4000000) : Tri Try.prog 6 [.d (sgDV g), .d (clDV a), .d (clDV b), .d (clDV c)] (pure' (bA true)) := by
  have t1 := tidy_tri g a ha
  have s1 := subsumes_tri g a b ha hb has
  have s2 := subsumes_tri g b c hb hc hbs
  have s3 := subsumes_tri g a c ha hc has
  have law : (subAns g a b).2 = 0 → (subAns g b c).2 = 0 → (subAns g a c).2 = 0 → (subAns g a b).1 = true → (subAns g b c).1 = true → (subAns g a c).1 = true := by
    intro h1 h2 h3 h4 h5
    obtain ⟨k1, e1⟩ := subAns_ok h1
    obtain ⟨k2, e2⟩ := subAns_ok h2
    obtain ⟨k3, e3⟩ := subAns_ok h3
    rw [e1] at h4
    rw [e2] at h5
    rw [e3]
    exact cov_trans (ownC_nn (clsOk_two k1).1) (ownC_nn (clsOk_two k1).2) h4 h5
  generalize subAns g a b = p1 at *
  generalize subAns g b c = p2 at *
  generalize subAns g a c = p3 at *
  have six : (p1.2 != 0) = true ∨ ((p1.2 != 0) = false ∧ (p2.2 != 0) = true) ∨ ((p1.2 != 0) = false ∧ (p2.2 != 0) = false ∧ (p3.2 != 0) = true) ∨ ((p1.2 != 0) = false ∧ (p2.2 != 0) = false ∧ (p3.2 != 0) = false ∧ p1.1 = false) ∨
      ((p1.2 != 0) = false ∧ (p2.2 != 0) = false ∧ (p3.2 != 0) = false ∧ p1.1 = true ∧ p2.1 = false) ∨ ((p1.2 != 0) = false ∧ (p2.2 != 0) = false ∧ (p3.2 != 0) = false ∧ p1.1 = true ∧ p2.1 = true ∧ p3.1 = true) := by
    cases h1 : p1.2 != 0 with
    | true => exact .inl rfl
    | false =>
      cases h2 : p2.2 != 0 with
      | true => exact .inr (.inl ⟨rfl, rfl⟩)
      | false =>
        cases h3 : p3.2 != 0 with
        | true => exact .inr (.inr (.inl ⟨rfl, rfl, rfl⟩))
        | false =>
          cases h4 : p1.1 with
          | false => exact .inr (.inr (.inr (.inl ⟨rfl, rfl, rfl, rfl⟩)))
          | true =>
            cases h5 : p2.1 with
            | false => exact .inr (.inr (.inr (.inr (.inl ⟨rfl, rfl, rfl, rfl, rfl⟩))))
            | true => exact .inr (.inr (.inr (.inr (.inr ⟨rfl, rfl, rfl, rfl, rfl, law (by simpa using h1) (by simpa using h2) (by simpa using h3) h4 h5⟩))))
  clear law
  refine tri_enter Try.func6 rfl Try.ntmps6 (by simp only [List.length_cons, List.length_nil]; omega) fun w0 h0 k hrd hwr => ?_
  cases hv : clsOk g [a] == 0 with
  | true =>
    have hv2 : clsOk g [a] = 0 := by simpa using hv
    obtain ⟨hl8, hown⟩ := clsOk_one hv2
    have hpa : PureC a := fun l hl => ⟨own_pure (hown l hl).1, own_pure (hown l hl).2⟩
    have hok := tidyR_ok hv2
    rw [tidyAns_ok hv2] at t1
    have t2 := tidy_tri g (tidyR a) (by have := tidyR_len a; omega)
    rw [tidyAns_ok hok, tidy_twice hpa] at t2
    have s4 := subsumes_tri g a a ha ha has
    have e4 : subAns g a a = (true, 0) := by
      unfold subAns
      rw [if_neg, cov_self hpa]
      obtain ⟨h1, _, h3⟩ := clsOk_all hv2
      have := clsOk_mk (l := [a, a]) h1 (by simp) fun x hx => by simp at hx; rw [hx]; exact h3 a (by simp)
      simp [this]
    rw [e4] at s4
    have sc := sameClause_tri (tidyR a) (tidyR a) (by have := tidyR_len a; omega)
    rw [sameC_rfl] at sc
    rcases six with h1 | ⟨h1, h2⟩ | ⟨h1, h2, h3⟩ | ⟨h1, h2, h3, h4⟩ | ⟨h1, h2, h3, h4, h5⟩ | ⟨h1, h2, h3, h4, h5, h6⟩
    · repeat' (first | refine awp_seq_k fun K hK => ?_ | ((first | refine awp_region_k (by kernel_rfl) fun R hR => ?_ | refine awp_draw mixed (by kernel_rfl) (by kernel_rfl) fun R hR => ?_); simp only [go_sem, h1, beq_self_eq_true, bne_self_eq_false]) | ((first | (refine hR _ ?_; clear hR R) | refine awp_skip ?_ | refine awp_exit ?_ | refine awp_ret ?_); try simp only [thenA, inBlockA, reduceIte, reduceCtorEq, Nat.reduceEqDiff, if_false, if_true]) | ((first | refine hK _ ?_ | (clear hK K; first | refine hK _ ?_ | (clear hK K; first | refine hK _ ?_ | (clear hK K; first | refine hK _ ?_ | (clear hK K; refine hK _ ?_))))); clear hK K) | refine awp_true rfl rfl ?_ | refine awp_false rfl rfl ?_ | refine awp_block ?_ | ((first | refine CallK.pure (enter29) (t1) ?_ ?_ | refine CallD.pure (enter29) (t1) ?_ ?_); (focus first | ((repeat (first | exact trivial | refine ⟨(by first | exact Or.inl rfl | exact Or.inr rfl), ?_⟩)); done) | (simp only [coL, AV.dat, true_or, or_true, AV.d.injEq, go_sem]; done)); simp only [go_sem, h1, beq_self_eq_true, bne_self_eq_false]) | ((first | refine CallK.pure (enter29) (t2) ?_ ?_ | refine CallD.pure (enter29) (t2) ?_ ?_); (focus first | ((repeat (first | exact trivial | refine ⟨(by first | exact Or.inl rfl | exact Or.inr rfl), ?_⟩)); done) | (simp only [coL, AV.dat, true_or, or_true, AV.d.injEq, go_sem]; done)); simp only [go_sem, h1, beq_self_eq_true, bne_self_eq_false]) | ((first | refine CallK.pure (enter31) (s4) ?_ ?_ | refine CallD.pure (enter31) (s4) ?_ ?_); (focus first | ((repeat (first | exact trivial | refine ⟨(by first | exact Or.inl rfl | exact Or.inr rfl), ?_⟩)); done) | (simp only [coL, AV.dat, true_or, or_true, AV.d.injEq, go_sem]; done)); simp only [go_sem, h1, beq_self_eq_true, bne_self_eq_false]) | ((first | refine CallK.pure (enter31) (s1) ?_ ?_ | refine CallD.pure (enter31) (s1) ?_ ?_); (focus first | ((repeat (first | exact trivial | refine ⟨(by first | exact Or.inl rfl | exact Or.inr rfl), ?_⟩)); done) | (simp only [coL, AV.dat, true_or, or_true, AV.d.injEq, go_sem]; done)); simp only [go_sem, h1, beq_self_eq_true, bne_self_eq_false]) | ((first | refine CallK.pure (enter31) (s2) ?_ ?_ | refine CallD.pure (enter31) (s2) ?_ ?_); (focus first | ((repeat (first | exact trivial | refine ⟨(by first | exact Or.inl rfl | exact Or.inr rfl), ?_⟩)); done) | (simp only [coL, AV.dat, true_or, or_true, AV.d.injEq, go_sem]; done)); simp only [go_sem, h1, beq_self_eq_true, bne_self_eq_false]) | ((first | refine CallK.pure (enter31) (s3) ?_ ?_ | refine CallD.pure (enter31) (s3) ?_ ?_); (focus first | ((repeat (first | exact trivial | refine ⟨(by first | exact Or.inl rfl | exact Or.inr rfl), ?_⟩)); done) | (simp only [coL, AV.dat, true_or, or_true, AV.d.injEq, go_sem]; done)); simp only [go_sem, h1, beq_self_eq_true, bne_self_eq_false]) | ((first | refine CallK.pure (enter35) (clauseBegun_tri) ?_ ?_ | refine CallD.pure (enter35) (clauseBegun_tri) ?_ ?_ | refine CallK.pure (enter38) (sc) ?_ ?_ | refine CallD.pure (enter38) (sc) ?_ ?_); (focus first | ((repeat (first | exact trivial | refine ⟨(by first | exact Or.inl rfl | exact Or.inr rfl), ?_⟩)); done) | (simp only [coL, AV.dat, true_or, or_true, AV.d.injEq, go_sem]; done)); simp only [go_sem, h1, beq_self_eq_true, bne_self_eq_false]) | refine And.intro (by first | ((repeat' first | omega | exact trivial | rfl | assumption | (intro a e; subst e; rfl) | exact map_sz fun a => (by simp only [go_sem]) | refine And.intro ?_ ?_); done) | fail) ?_ | fail)
      (first | refine ret_pure ?_ ?_ ?_ | refine ret_ro ?_ ?_ ?_); focus exact (by simp only [Try.results6, resOkL, resOk, Try.ntmps6, List.toList_toArray]; first | decide | (simp only [go_sem]; done) | (simp only [go_sem]; and_intros <;> first | omega | rfl | decide))
      rotate_left; focus exact (by repeat (first | exact Fr.rfl' _ _ | assumption | refine Fr.updk ?_ (by omega) _))
      simp only [resA, resV, Try.results6, go_sem]
      all_goals try (first | exact Co.t2 (.dat rfl) (.dat rfl) | exact Co.t3 (.dat rfl) (.dat rfl) (.dat rfl))
      exact .dat rfl
    · repeat' (first | refine awp_seq_k fun K hK => ?_ | ((first | refine awp_region_k (by kernel_rfl) fun R hR => ?_ | refine awp_draw mixed (by kernel_rfl) (by kernel_rfl) fun R hR => ?_); simp only [go_sem, h1, h2, beq_self_eq_true, bne_self_eq_false]) | ((first | (refine hR _ ?_; clear hR R) | refine awp_skip ?_ | refine awp_exit ?_ | refine awp_ret ?_); try simp only [thenA, inBlockA, reduceIte, reduceCtorEq, Nat.reduceEqDiff, if_false, if_true]) | ((first | refine hK _ ?_ | (clear hK K; first | refine hK _ ?_ | (clear hK K; first | refine hK _ ?_ | (clear hK K; first | refine hK _ ?_ | (clear hK K; refine hK _ ?_))))); clear hK K) | refine awp_true rfl rfl ?_ | refine awp_false rfl rfl ?_ | refine awp_block ?_ | ((first | refine CallK.pure (enter29) (t1) ?_ ?_ | refine CallD.pure (enter29) (t1) ?_ ?_); (focus first | ((repeat (first | exact trivial | refine ⟨(by first | exact Or.inl rfl | exact Or.inr rfl), ?_⟩)); done) | (simp only [coL, AV.dat, true_or, or_true, AV.d.injEq, go_sem]; done)); simp only [go_sem, h1, h2, beq_self_eq_true, bne_self_eq_false]) | ((first | refine CallK.pure (enter29) (t2) ?_ ?_ | refine CallD.pure (enter29) (t2) ?_ ?_); (focus first | ((repeat (first | exact trivial | refine ⟨(by first | exact Or.inl rfl | exact Or.inr rfl), ?_⟩)); done) | (simp only [coL, AV.dat, true_or, or_true, AV.d.injEq, go_sem]; done)); simp only [go_sem, h1, h2, beq_self_eq_true, bne_self_eq_false]) | ((first | refine CallK.pure (enter31) (s4) ?_ ?_ | refine CallD.pure (enter31) (s4) ?_ ?_); (focus first | ((repeat (first | exact trivial | refine ⟨(by first | exact Or.inl rfl | exact Or.inr rfl), ?_⟩)); done) | (simp only [coL, AV.dat, true_or, or_true, AV.d.injEq, go_sem]; done)); simp only [go_sem, h1, h2, beq_self_eq_true, bne_self_eq_false]) | ((first | refine CallK.pure (enter31) (s1) ?_ ?_ | refine CallD.pure (enter31) (s1) ?_ ?_); (focus first | ((repeat (first | exact trivial | refine ⟨(by first | exact Or.inl rfl | exact Or.inr rfl), ?_⟩)); done) | (simp only [coL, AV.dat, true_or, or_true, AV.d.injEq, go_sem]; done)); simp only [go_sem, h1, h2, beq_self_eq_true, bne_self_eq_false]) | ((first | refine CallK.pure (enter31) (s2) ?_ ?_ | refine CallD.pure (enter31) (s2) ?_ ?_); (focus first | ((repeat (first | exact trivial | refine ⟨(by first | exact Or.inl rfl | exact Or.inr rfl), ?_⟩)); done) | (simp only [coL, AV.dat, true_or, or_true, AV.d.injEq, go_sem]; done)); simp only [go_sem, h1, h2, beq_self_eq_true, bne_self_eq_false]) | ((first | refine CallK.pure (enter31) (s3) ?_ ?_ | refine CallD.pure (enter31) (s3) ?_ ?_); (focus first | ((repeat (first | exact trivial | refine ⟨(by first | exact Or.inl rfl | exact Or.inr rfl), ?_⟩)); done) | (simp only [coL, AV.dat, true_or, or_true, AV.d.injEq, go_sem]; done)); simp only [go_sem, h1, h2, beq_self_eq_true, bne_self_eq_false]) | ((first | refine CallK.pure (enter35) (clauseBegun_tri) ?_ ?_ | refine CallD.pure (enter35) (clauseBegun_tri) ?_ ?_ | refine CallK.pure (enter38) (sc) ?_ ?_ | refine CallD.pure (enter38) (sc) ?_ ?_); (focus first | ((repeat (first | exact trivial | refine ⟨(by first | exact Or.inl rfl | exact Or.inr rfl), ?_⟩)); done) | (simp only [coL, AV.dat, true_or, or_true, AV.d.injEq, go_sem]; done)); simp only [go_sem, h1, h2, beq_self_eq_true, bne_self_eq_false]) | refine And.intro (by first | ((repeat' first | omega | exact trivial | rfl | assumption | (intro a e; subst e; rfl) | exact map_sz fun a => (by simp only [go_sem]) | refine And.intro ?_ ?_); done) | fail) ?_ | fail)
      (first | refine ret_pure ?_ ?_ ?_ | refine ret_ro ?_ ?_ ?_); focus exact (by simp only [Try.results6, resOkL, resOk, Try.ntmps6, List.toList_toArray]; first | decide | (simp only [go_sem]; done) | (simp only [go_sem]; and_intros <;> first | omega | rfl | decide))
      rotate_left; focus exact (by repeat (first | exact Fr.rfl' _ _ | assumption | refine Fr.updk ?_ (by omega) _))
      simp only [resA, resV, Try.results6, go_sem]
      all_goals try (first | exact Co.t2 (.dat rfl) (.dat rfl) | exact Co.t3 (.dat rfl) (.dat rfl) (.dat rfl))
      exact .dat rfl
    · repeat' (first | refine awp_seq_k fun K hK => ?_ | ((first | refine awp_region_k (by kernel_rfl) fun R hR => ?_ | refine awp_draw mixed (by kernel_rfl) (by kernel_rfl) fun R hR => ?_); simp only [go_sem, h1, h2, h3, beq_self_eq_true, bne_self_eq_false]) | ((first | (refine hR _ ?_; clear hR R) | refine awp_skip ?_ | refine awp_exit ?_ | refine awp_ret ?_); try simp only [thenA, inBlockA, reduceIte, reduceCtorEq, Nat.reduceEqDiff, if_false, if_true]) | ((first | refine hK _ ?_ | (clear hK K; first | refine hK _ ?_ | (clear hK K; first | refine hK _ ?_ | (clear hK K; first | refine hK _ ?_ | (clear hK K; refine hK _ ?_))))); clear hK K) | refine awp_true rfl rfl ?_ | refine awp_false rfl rfl ?_ | refine awp_block ?_ | ((first | refine CallK.pure (enter29) (t1) ?_ ?_ | refine CallD.pure (enter29) (t1) ?_ ?_); (focus first | ((repeat (first | exact trivial | refine ⟨(by first | exact Or.inl rfl | exact Or.inr rfl), ?_⟩)); done) | (simp only [coL, AV.dat, true_or, or_true, AV.d.injEq, go_sem]; done)); simp only [go_sem, h1, h2, h3, beq_self_eq_true, bne_self_eq_false]) | ((first | refine CallK.pure (enter29) (t2) ?_ ?_ | refine CallD.pure (enter29) (t2) ?_ ?_); (focus first | ((repeat (first | exact trivial | refine ⟨(by first | exact Or.inl rfl | exact Or.inr rfl), ?_⟩)); done) | (simp only [coL, AV.dat, true_or, or_true, AV.d.injEq, go_sem]; done)); simp only [go_sem, h1, h2, h3, beq_self_eq_true, bne_self_eq_false]) | ((first | refine CallK.pure (enter31) (s4) ?_ ?_ | refine CallD.pure (enter31) (s4) ?_ ?_); (focus first | ((repeat (first | exact trivial | refine ⟨(by first | exact Or.inl rfl | exact Or.inr rfl), ?_⟩)); done) | (simp only [coL, AV.dat, true_or, or_true, AV.d.injEq, go_sem]; done)); simp only [go_sem, h1, h2, h3, beq_self_eq_true, bne_self_eq_false]) | ((first | refine CallK.pure (enter31) (s1) ?_ ?_ | refine CallD.pure (enter31) (s1) ?_ ?_); (focus first | ((repeat (first | exact trivial | refine ⟨(by first | exact Or.inl rfl | exact Or.inr rfl), ?_⟩)); done) | (simp only [coL, AV.dat, true_or, or_true, AV.d.injEq, go_sem]; done)); simp only [go_sem, h1, h2, h3, beq_self_eq_true, bne_self_eq_false]) | ((first | refine CallK.pure (enter31) (s2) ?_ ?_ | refine CallD.pure (enter31) (s2) ?_ ?_); (focus first | ((repeat (first | exact trivial | refine ⟨(by first | exact Or.inl rfl | exact Or.inr rfl), ?_⟩)); done) | (simp only [coL, AV.dat, true_or, or_true, AV.d.injEq, go_sem]; done)); simp only [go_sem, h1, h2, h3, beq_self_eq_true, bne_self_eq_false]) | ((first | refine CallK.pure (enter31) (s3) ?_ ?_ | refine CallD.pure (enter31) (s3) ?_ ?_); (focus first | ((repeat (first | exact trivial | refine ⟨(by first | exact Or.inl rfl | exact Or.inr rfl), ?_⟩)); done) | (simp only [coL, AV.dat, true_or, or_true, AV.d.injEq, go_sem]; done)); simp only [go_sem, h1, h2, h3, beq_self_eq_true, bne_self_eq_false]) | ((first | refine CallK.pure (enter35) (clauseBegun_tri) ?_ ?_ | refine CallD.pure (enter35) (clauseBegun_tri) ?_ ?_ | refine CallK.pure (enter38) (sc) ?_ ?_ | refine CallD.pure (enter38) (sc) ?_ ?_); (focus first | ((repeat (first | exact trivial | refine ⟨(by first | exact Or.inl rfl | exact Or.inr rfl), ?_⟩)); done) | (simp only [coL, AV.dat, true_or, or_true, AV.d.injEq, go_sem]; done)); simp only [go_sem, h1, h2, h3, beq_self_eq_true, bne_self_eq_false]) | refine And.intro (by first | ((repeat' first | omega | exact trivial | rfl | assumption | (intro a e; subst e; rfl) | exact map_sz fun a => (by simp only [go_sem]) | refine And.intro ?_ ?_); done) | fail) ?_ | fail)
      (first | refine ret_pure ?_ ?_ ?_ | refine ret_ro ?_ ?_ ?_); focus exact (by simp only [Try.results6, resOkL, resOk, Try.ntmps6, List.toList_toArray]; first | decide | (simp only [go_sem]; done) | (simp only [go_sem]; and_intros <;> first | omega | rfl | decide))
      rotate_left; focus exact (by repeat (first | exact Fr.rfl' _ _ | assumption | refine Fr.updk ?_ (by omega) _))
      simp only [resA, resV, Try.results6, go_sem]
      all_goals try (first | exact Co.t2 (.dat rfl) (.dat rfl) | exact Co.t3 (.dat rfl) (.dat rfl) (.dat rfl))
      exact .dat rfl
    · repeat' (first | refine awp_seq_k fun K hK => ?_ | ((first | refine awp_region_k (by kernel_rfl) fun R hR => ?_ | refine awp_draw mixed (by kernel_rfl) (by kernel_rfl) fun R hR => ?_); simp only [go_sem, h1, h2, h3, h4, beq_self_eq_true, bne_self_eq_false]) | ((first | (refine hR _ ?_; clear hR R) | refine awp_skip ?_ | refine awp_exit ?_ | refine awp_ret ?_); try simp only [thenA, inBlockA, reduceIte, reduceCtorEq, Nat.reduceEqDiff, if_false, if_true]) | ((first | refine hK _ ?_ | (clear hK K; first | refine hK _ ?_ | (clear hK K; first | refine hK _ ?_ | (clear hK K; first | refine hK _ ?_ | (clear hK K; refine hK _ ?_))))); clear hK K) | refine awp_true rfl rfl ?_ | refine awp_false rfl rfl ?_ | refine awp_block ?_ | ((first | refine CallK.pure (enter29) (t1) ?_ ?_ | refine CallD.pure (enter29) (t1) ?_ ?_); (focus first | ((repeat (first | exact trivial | refine ⟨(by first | exact Or.inl rfl | exact Or.inr rfl), ?_⟩)); done) | (simp only [coL, AV.dat, true_or, or_true, AV.d.injEq, go_sem]; done)); simp only [go_sem, h1, h2, h3, h4, beq_self_eq_true, bne_self_eq_false]) | ((first | refine CallK.pure (enter29) (t2) ?_ ?_ | refine CallD.pure (enter29) (t2) ?_ ?_); (focus first | ((repeat (first | exact trivial | refine ⟨(by first | exact Or.inl rfl | exact Or.inr rfl), ?_⟩)); done) | (simp only [coL, AV.dat, true_or, or_true, AV.d.injEq, go_sem]; done)); simp only [go_sem, h1, h2, h3, h4, beq_self_eq_true, bne_self_eq_false]) | ((first | refine CallK.pure (enter31) (s4) ?_ ?_ | refine CallD.pure (enter31) (s4) ?_ ?_); (focus first | ((repeat (first | exact trivial | refine ⟨(by first | exact Or.inl rfl | exact Or.inr rfl), ?_⟩)); done) | (simp only [coL, AV.dat, true_or, or_true, AV.d.injEq, go_sem]; done)); simp only [go_sem, h1, h2, h3, h4, beq_self_eq_true, bne_self_eq_false]) | ((first | refine CallK.pure (enter31) (s1) ?_ ?_ | refine CallD.pure (enter31) (s1) ?_ ?_); (focus first | ((repeat (first | exact trivial | refine ⟨(by first | exact Or.inl rfl | exact Or.inr rfl), ?_⟩)); done) | (simp only [coL, AV.dat, true_or, or_true, AV.d.injEq, go_sem]; done)); simp only [go_sem, h1, h2, h3, h4, beq_self_eq_true, bne_self_eq_false]) | ((first | refine CallK.pure (enter31) (s2) ?_ ?_ | refine CallD.pure (enter31) (s2) ?_ ?_); (focus first | ((repeat (first | exact trivial | refine ⟨(by first | exact Or.inl rfl | exact Or.inr rfl), ?_⟩)); done) | (simp only [coL, AV.dat, true_or, or_true, AV.d.injEq, go_sem]; done)); simp only [go_sem, h1, h2, h3, h4, beq_self_eq_true, bne_self_eq_false]) | ((first | refine CallK.pure (enter31) (s3) ?_ ?_ | refine CallD.pure (enter31) (s3) ?_ ?_); (focus first | ((repeat (first | exact trivial | refine ⟨(by first | exact Or.inl rfl | exact Or.inr rfl), ?_⟩)); done) | (simp only [coL, AV.dat, true_or, or_true, AV.d.injEq, go_sem]; done)); simp only [go_sem, h1, h2, h3, h4, beq_self_eq_true, bne_self_eq_false]) | ((first | refine CallK.pure (enter35) (clauseBegun_tri) ?_ ?_ | refine CallD.pure (enter35) (clauseBegun_tri) ?_ ?_ | refine CallK.pure (enter38) (sc) ?_ ?_ | refine CallD.pure (enter38) (sc) ?_ ?_); (focus first | ((repeat (first | exact trivial | refine ⟨(by first | exact Or.inl rfl | exact Or.inr rfl), ?_⟩)); done) | (simp only [coL, AV.dat, true_or, or_true, AV.d.injEq, go_sem]; done)); simp only [go_sem, h1, h2, h3, h4, beq_self_eq_true, bne_self_eq_false]) | refine And.intro (by first | ((repeat' first | omega | exact trivial | rfl | assumption | (intro a e; subst e; rfl) | exact map_sz fun a => (by simp only [go_sem]) | refine And.intro ?_ ?_); done) | fail) ?_ | fail)
      (first | refine ret_pure ?_ ?_ ?_ | refine ret_ro ?_ ?_ ?_); focus exact (by simp only [Try.results6, resOkL, resOk, Try.ntmps6, List.toList_toArray]; first | decide | (simp only [go_sem]; done) | (simp only [go_sem]; and_intros <;> first | omega | rfl | decide))
      rotate_left; focus exact (by repeat (first | exact Fr.rfl' _ _ | assumption | refine Fr.updk ?_ (by omega) _))
      simp only [resA, resV, Try.results6, go_sem]
      all_goals try (first | exact Co.t2 (.dat rfl) (.dat rfl) | exact Co.t3 (.dat rfl) (.dat rfl) (.dat rfl))
      exact .dat rfl
    · repeat' (first | refine awp_seq_k fun K hK => ?_ | ((first | refine awp_region_k (by kernel_rfl) fun R hR => ?_ | refine awp_draw mixed (by kernel_rfl) (by kernel_rfl) fun R hR => ?_); simp only [go_sem, h1, h2, h3, h4, h5, beq_self_eq_true, bne_self_eq_false]) | ((first | (refine hR _ ?_; clear hR R) | refine awp_skip ?_ | refine awp_exit ?_ | refine awp_ret ?_); try simp only [thenA, inBlockA, reduceIte, reduceCtorEq, Nat.reduceEqDiff, if_false, if_true]) | ((first | refine hK _ ?_ | (clear hK K; first | refine hK _ ?_ | (clear hK K; first | refine hK _ ?_ | (clear hK K; first | refine hK _ ?_ | (clear hK K; refine hK _ ?_))))); clear hK K) | refine awp_true rfl rfl ?_ | refine awp_false rfl rfl ?_ | refine awp_block ?_ | ((first | refine CallK.pure (enter29) (t1) ?_ ?_ | refine CallD.pure (enter29) (t1) ?_ ?_); (focus first | ((repeat (first | exact trivial | refine ⟨(by first | exact Or.inl rfl | exact Or.inr rfl), ?_⟩)); done) | (simp only [coL, AV.dat, true_or, or_true, AV.d.injEq, go_sem]; done)); simp only [go_sem, h1, h2, h3, h4, h5, beq_self_eq_true, bne_self_eq_false]) | ((first | refine CallK.pure (enter29) (t2) ?_ ?_ | refine CallD.pure (enter29) (t2) ?_ ?_); (focus first | ((repeat (first | exact trivial | refine ⟨(by first | exact Or.inl rfl | exact Or.inr rfl), ?_⟩)); done) | (simp only [coL, AV.dat, true_or, or_true, AV.d.injEq, go_sem]; done)); simp only [go_sem, h1, h2, h3, h4, h5, beq_self_eq_true, bne_self_eq_false]) | ((first | refine CallK.pure (enter31) (s4) ?_ ?_ | refine CallD.pure (enter31) (s4) ?_ ?_); (focus first | ((repeat (first | exact trivial | refine ⟨(by first | exact Or.inl rfl | exact Or.inr rfl), ?_⟩)); done) | (simp only [coL, AV.dat, true_or, or_true, AV.d.injEq, go_sem]; done)); simp only [go_sem, h1, h2, h3, h4, h5, beq_self_eq_true, bne_self_eq_false]) | ((first | refine CallK.pure (enter31) (s1) ?_ ?_ | refine CallD.pure (enter31) (s1) ?_ ?_); (focus first | ((repeat (first | exact trivial | refine ⟨(by first | exact Or.inl rfl | exact Or.inr rfl), ?_⟩)); done) | (simp only [coL, AV.dat, true_or, or_true, AV.d.injEq, go_sem]; done)); simp only [go_sem, h1, h2, h3, h4, h5, beq_self_eq_true, bne_self_eq_false]) | ((first | refine CallK.pure (enter31) (s2) ?_ ?_ | refine CallD.pure (enter31) (s2) ?_ ?_); (focus first | ((repeat (first | exact trivial | refine ⟨(by first | exact Or.inl rfl | exact Or.inr rfl), ?_⟩)); done) | (simp only [coL, AV.dat, true_or, or_true, AV.d.injEq, go_sem]; done)); simp only [go_sem, h1, h2, h3, h4, h5, beq_self_eq_true, bne_self_eq_false]) | ((first | refine CallK.pure (enter31) (s3) ?_ ?_ | refine CallD.pure (enter31) (s3) ?_ ?_); (focus first | ((repeat (first | exact trivial | refine ⟨(by first | exact Or.inl rfl | exact Or.inr rfl), ?_⟩)); done) | (simp only [coL, AV.dat, true_or, or_true, AV.d.injEq, go_sem]; done)); simp only [go_sem, h1, h2, h3, h4, h5, beq_self_eq_true, bne_self_eq_false]) | ((first | refine CallK.pure (enter35) (clauseBegun_tri) ?_ ?_ | refine CallD.pure (enter35) (clauseBegun_tri) ?_ ?_ | refine CallK.pure (enter38) (sc) ?_ ?_ | refine CallD.pure (enter38) (sc) ?_ ?_); (focus first | ((repeat (first | exact trivial | refine ⟨(by first | exact Or.inl rfl | exact Or.inr rfl), ?_⟩)); done) | (simp only [coL, AV.dat, true_or, or_true, AV.d.injEq, go_sem]; done)); simp only [go_sem, h1, h2, h3, h4, h5, beq_self_eq_true, bne_self_eq_false]) | refine And.intro (by first | ((repeat' first | omega | exact trivial | rfl | assumption | (intro a e; subst e; rfl) | exact map_sz fun a => (by simp only [go_sem]) | refine And.intro ?_ ?_); done) | fail) ?_ | fail)
      (first | refine ret_pure ?_ ?_ ?_ | refine ret_ro ?_ ?_ ?_); focus exact (by simp only [Try.results6, resOkL, resOk, Try.ntmps6, List.toList_toArray]; first | decide | (simp only [go_sem]; done) | (simp only [go_sem]; and_intros <;> first | omega | rfl | decide))
      rotate_left; focus exact (by repeat (first | exact Fr.rfl' _ _ | assumption | refine Fr.updk ?_ (by omega) _))
      simp only [resA, resV, Try.results6, go_sem]
      all_goals try (first | exact Co.t2 (.dat rfl) (.dat rfl) | exact Co.t3 (.dat rfl) (.dat rfl) (.dat rfl))
      exact .dat rfl
    · repeat' (first | refine awp_seq_k fun K hK => ?_ | ((first | refine awp_region_k (by kernel_rfl) fun R hR => ?_ | refine awp_draw mixed (by kernel_rfl) (by kernel_rfl) fun R hR => ?_); simp only [go_sem, h1, h2, h3, h4, h5, h6, beq_self_eq_true, bne_self_eq_false]) | ((first | (refine hR _ ?_; clear hR R) | refine awp_skip ?_ | refine awp_exit ?_ | refine awp_ret ?_); try simp only [thenA, inBlockA, reduceIte, reduceCtorEq, Nat.reduceEqDiff, if_false, if_true]) | ((first | refine hK _ ?_ | (clear hK K; first | refine hK _ ?_ | (clear hK K; first | refine hK _ ?_ | (clear hK K; first | refine hK _ ?_ | (clear hK K; refine hK _ ?_))))); clear hK K) | refine awp_true rfl rfl ?_ | refine awp_false rfl rfl ?_ | refine awp_block ?_ | ((first | refine CallK.pure (enter29) (t1) ?_ ?_ | refine CallD.pure (enter29) (t1) ?_ ?_); (focus first | ((repeat (first | exact trivial | refine ⟨(by first | exact Or.inl rfl | exact Or.inr rfl), ?_⟩)); done) | (simp only [coL, AV.dat, true_or, or_true, AV.d.injEq, go_sem]; done)); simp only [go_sem, h1, h2, h3, h4, h5, h6, beq_self_eq_true, bne_self_eq_false]) | ((first | refine CallK.pure (enter29) (t2) ?_ ?_ | refine CallD.pure (enter29) (t2) ?_ ?_); (focus first | ((repeat (first | exact trivial | refine ⟨(by first | exact Or.inl rfl | exact Or.inr rfl), ?_⟩)); done) | (simp only [coL, AV.dat, true_or, or_true, AV.d.injEq, go_sem]; done)); simp only [go_sem, h1, h2, h3, h4, h5, h6, beq_self_eq_true, bne_self_eq_false]) | ((first | refine CallK.pure (enter31) (s4) ?_ ?_ | refine CallD.pure (enter31) (s4) ?_ ?_); (focus first | ((repeat (first | exact trivial | refine ⟨(by first | exact Or.inl rfl | exact Or.inr rfl), ?_⟩)); done) | (simp only [coL, AV.dat, true_or, or_true, AV.d.injEq, go_sem]; done)); simp only [go_sem, h1, h2, h3, h4, h5, h6, beq_self_eq_true, bne_self_eq_false]) | ((first | refine CallK.pure (enter31) (s1) ?_ ?_ | refine CallD.pure (enter31) (s1) ?_ ?_); (focus first | ((repeat (first | exact trivial | refine ⟨(by first | exact Or.inl rfl | exact Or.inr rfl), ?_⟩)); done) | (simp only [coL, AV.dat, true_or, or_true, AV.d.injEq, go_sem]; done)); simp only [go_sem, h1, h2, h3, h4, h5, h6, beq_self_eq_true, bne_self_eq_false]) | ((first | refine CallK.pure (enter31) (s2) ?_ ?_ | refine CallD.pure (enter31) (s2) ?_ ?_); (focus first | ((repeat (first | exact trivial | refine ⟨(by first | exact Or.inl rfl | exact Or.inr rfl), ?_⟩)); done) | (simp only [coL, AV.dat, true_or, or_true, AV.d.injEq, go_sem]; done)); simp only [go_sem, h1, h2, h3, h4, h5, h6, beq_self_eq_true, bne_self_eq_false]) | ((first | refine CallK.pure (enter31) (s3) ?_ ?_ | refine CallD.pure (enter31) (s3) ?_ ?_); (focus first | ((repeat (first | exact trivial | refine ⟨(by first | exact Or.inl rfl | exact Or.inr rfl), ?_⟩)); done) | (simp only [coL, AV.dat, true_or, or_true, AV.d.injEq, go_sem]; done)); simp only [go_sem, h1, h2, h3, h4, h5, h6, beq_self_eq_true, bne_self_eq_false]) | ((first | refine CallK.pure (enter35) (clauseBegun_tri) ?_ ?_ | refine CallD.pure (enter35) (clauseBegun_tri) ?_ ?_ | refine CallK.pure (enter38) (sc) ?_ ?_ | refine CallD.pure (enter38) (sc) ?_ ?_); (focus first | ((repeat (first | exact trivial | refine ⟨(by first | exact Or.inl rfl | exact Or.inr rfl), ?_⟩)); done) | (simp only [coL, AV.dat, true_or, or_true, AV.d.injEq, go_sem]; done)); simp only [go_sem, h1, h2, h3, h4, h5, h6, beq_self_eq_true, bne_self_eq_false]) | refine And.intro (by first | ((repeat' first | omega | exact trivial | rfl | assumption | (intro a e; subst e; rfl) | exact map_sz fun a => (by simp only [go_sem]) | refine And.intro ?_ ?_); done) | fail) ?_ | fail)
      (first | refine ret_pure ?_ ?_ ?_ | refine ret_ro ?_ ?_ ?_); focus exact (by simp only [Try.results6, resOkL, resOk, Try.ntmps6, List.toList_toArray]; first | decide | (simp only [go_sem]; done) | (simp only [go_sem]; and_intros <;> first | omega | rfl | decide))
      rotate_left; focus exact (by repeat (first | exact Fr.rfl' _ _ | assumption | refine Fr.updk ?_ (by omega) _))
      simp only [resA, resV, Try.results6, go_sem]
      all_goals try (first | exact Co.t2 (.dat rfl) (.dat rfl) | exact Co.t3 (.dat rfl) (.dat rfl) (.dat rfl))
      exact .dat rfl
  | false =>
    have ha1 : tidyAns g a = ([], clsOk g [a]) := by unfold tidyAns; rw [if_pos (by simpa using hv)]
    rw [ha1] at t1
    rcases six with h1 | ⟨h1, h2⟩ | ⟨h1, h2, h3⟩ | ⟨h1, h2, h3, h4⟩ | ⟨h1, h2, h3, h4, h5⟩ | ⟨h1, h2, h3, h4, h5, h6⟩
    · repeat' (first | refine awp_seq_k fun K hK => ?_ | ((first | refine awp_region_k (by kernel_rfl) fun R hR => ?_ | refine awp_draw mixed (by kernel_rfl) (by kernel_rfl) fun R hR => ?_); simp only [go_sem, h1, hv]) | ((first | (refine hR _ ?_; clear hR R) | refine awp_skip ?_ | refine awp_exit ?_ | refine awp_ret ?_); try simp only [thenA, inBlockA, reduceIte, reduceCtorEq, Nat.reduceEqDiff, if_false, if_true]) | ((first | refine hK _ ?_ | (clear hK K; first | refine hK _ ?_ | (clear hK K; first | refine hK _ ?_ | (clear hK K; first | refine hK _ ?_ | (clear hK K; refine hK _ ?_))))); clear hK K) | refine awp_true rfl rfl ?_ | refine awp_false rfl rfl ?_ | refine awp_block ?_ | ((first | refine CallK.pure (enter31) (s1) ?_ ?_ | refine CallD.pure (enter31) (s1) ?_ ?_); (focus first | ((repeat (first | exact trivial | refine ⟨(by first | exact Or.inl rfl | exact Or.inr rfl), ?_⟩)); done) | (simp only [coL, AV.dat, true_or, or_true, AV.d.injEq, go_sem]; done)); simp only [go_sem, h1, hv]) | ((first | refine CallK.pure (enter31) (s2) ?_ ?_ | refine CallD.pure (enter31) (s2) ?_ ?_); (focus first | ((repeat (first | exact trivial | refine ⟨(by first | exact Or.inl rfl | exact Or.inr rfl), ?_⟩)); done) | (simp only [coL, AV.dat, true_or, or_true, AV.d.injEq, go_sem]; done)); simp only [go_sem, h1, hv]) | ((first | refine CallK.pure (enter31) (s3) ?_ ?_ | refine CallD.pure (enter31) (s3) ?_ ?_); (focus first | ((repeat (first | exact trivial | refine ⟨(by first | exact Or.inl rfl | exact Or.inr rfl), ?_⟩)); done) | (simp only [coL, AV.dat, true_or, or_true, AV.d.injEq, go_sem]; done)); simp only [go_sem, h1, hv]) | ((first | refine CallK.pure (enter35) (clauseBegun_tri) ?_ ?_ | refine CallD.pure (enter35) (clauseBegun_tri) ?_ ?_ | refine CallK.pure (enter29) (t1) ?_ ?_ | refine CallD.pure (enter29) (t1) ?_ ?_); (focus first | ((repeat (first | exact trivial | refine ⟨(by first | exact Or.inl rfl | exact Or.inr rfl), ?_⟩)); done) | (simp only [coL, AV.dat, true_or, or_true, AV.d.injEq, go_sem]; done)); simp only [go_sem, h1, hv]) | refine And.intro (by first | ((repeat' first | omega | exact trivial | rfl | assumption | (intro a e; subst e; rfl) | exact map_sz fun a => (by simp only [go_sem]) | refine And.intro ?_ ?_); done) | fail) ?_ | fail)
      (first | refine ret_pure ?_ ?_ ?_ | refine ret_ro ?_ ?_ ?_); focus exact (by simp only [Try.results6, resOkL, resOk, Try.ntmps6, List.toList_toArray]; first | decide | (simp only [go_sem]; done) | (simp only [go_sem]; and_intros <;> first | omega | rfl | decide))
      rotate_left; focus exact (by repeat (first | exact Fr.rfl' _ _ | assumption | refine Fr.updk ?_ (by omega) _))
      simp only [resA, resV, Try.results6, go_sem]
      all_goals try (first | exact Co.t2 (.dat rfl) (.dat rfl) | exact Co.t3 (.dat rfl) (.dat rfl) (.dat rfl))
      exact .dat rfl
    · repeat' (first | refine awp_seq_k fun K hK => ?_ | ((first | refine awp_region_k (by kernel_rfl) fun R hR => ?_ | refine awp_draw mixed (by kernel_rfl) (by kernel_rfl) fun R hR => ?_); simp only [go_sem, h1, h2, hv]) | ((first | (refine hR _ ?_; clear hR R) | refine awp_skip ?_ | refine awp_exit ?_ | refine awp_ret ?_); try simp only [thenA, inBlockA, reduceIte, reduceCtorEq, Nat.reduceEqDiff, if_false, if_true]) | ((first | refine hK _ ?_ | (clear hK K; first | refine hK _ ?_ | (clear hK K; first | refine hK _ ?_ | (clear hK K; first | refine hK _ ?_ | (clear hK K; refine hK _ ?_))))); clear hK K) | refine awp_true rfl rfl ?_ | refine awp_false rfl rfl ?_ | refine awp_block ?_ | ((first | refine CallK.pure (enter31) (s1) ?_ ?_ | refine CallD.pure (enter31) (s1) ?_ ?_); (focus first | ((repeat (first | exact trivial | refine ⟨(by first | exact Or.inl rfl | exact Or.inr rfl), ?_⟩)); done) | (simp only [coL, AV.dat, true_or, or_true, AV.d.injEq, go_sem]; done)); simp only [go_sem, h1, h2, hv]) | ((first | refine CallK.pure (enter31) (s2) ?_ ?_ | refine CallD.pure (enter31) (s2) ?_ ?_); (focus first | ((repeat (first | exact trivial | refine ⟨(by first | exact Or.inl rfl | exact Or.inr rfl), ?_⟩)); done) | (simp only [coL, AV.dat, true_or, or_true, AV.d.injEq, go_sem]; done)); simp only [go_sem, h1, h2, hv]) | ((first | refine CallK.pure (enter31) (s3) ?_ ?_ | refine CallD.pure (enter31) (s3) ?_ ?_); (focus first | ((repeat (first | exact trivial | refine ⟨(by first | exact Or.inl rfl | exact Or.inr rfl), ?_⟩)); done) | (simp only [coL, AV.dat, true_or, or_true, AV.d.injEq, go_sem]; done)); simp only [go_sem, h1, h2, hv]) | ((first | refine CallK.pure (enter35) (clauseBegun_tri) ?_ ?_ | refine CallD.pure (enter35) (clauseBegun_tri) ?_ ?_ | refine CallK.pure (enter29) (t1) ?_ ?_ | refine CallD.pure (enter29) (t1) ?_ ?_); (focus first | ((repeat (first | exact trivial | refine ⟨(by first | exact Or.inl rfl | exact Or.inr rfl), ?_⟩)); done) | (simp only [coL, AV.dat, true_or, or_true, AV.d.injEq, go_sem]; done)); simp only [go_sem, h1, h2, hv]) | refine And.intro (by first | ((repeat' first | omega | exact trivial | rfl | assumption | (intro a e; subst e; rfl) | exact map_sz fun a => (by simp only [go_sem]) | refine And.intro ?_ ?_); done) | fail) ?_ | fail)
      (first | refine ret_pure ?_ ?_ ?_ | refine ret_ro ?_ ?_ ?_); focus exact (by simp only [Try.results6, resOkL, resOk, Try.ntmps6, List.toList_toArray]; first | decide | (simp only [go_sem]; done) | (simp only [go_sem]; and_intros <;> first | omega | rfl | decide))
      rotate_left; focus exact (by repeat (first | exact Fr.rfl' _ _ | assumption | refine Fr.updk ?_ (by omega) _))
      simp only [resA, resV, Try.results6, go_sem]
      all_goals try (first | exact Co.t2 (.dat rfl) (.dat rfl) | exact Co.t3 (.dat rfl) (.dat rfl) (.dat rfl))
      exact .dat rfl
    · repeat' (first | refine awp_seq_k fun K hK => ?_ | ((first | refine awp_region_k (by kernel_rfl) fun R hR => ?_ | refine awp_draw mixed (by kernel_rfl) (by kernel_rfl) fun R hR => ?_); simp only [go_sem, h1, h2, h3, hv]) | ((first | (refine hR _ ?_; clear hR R) | refine awp_skip ?_ | refine awp_exit ?_ | refine awp_ret ?_); try simp only [thenA, inBlockA, reduceIte, reduceCtorEq, Nat.reduceEqDiff, if_false, if_true]) | ((first | refine hK _ ?_ | (clear hK K; first | refine hK _ ?_ | (clear hK K; first | refine hK _ ?_ | (clear hK K; first | refine hK _ ?_ | (clear hK K; refine hK _ ?_))))); clear hK K) | refine awp_true rfl rfl ?_ | refine awp_false rfl rfl ?_ | refine awp_block ?_ | ((first | refine CallK.pure (enter31) (s1) ?_ ?_ | refine CallD.pure (enter31) (s1) ?_ ?_); (focus first | ((repeat (first | exact trivial | refine ⟨(by first | exact Or.inl rfl | exact Or.inr rfl), ?_⟩)); done) | (simp only [coL, AV.dat, true_or, or_true, AV.d.injEq, go_sem]; done)); simp only [go_sem, h1, h2, h3, hv]) | ((first | refine CallK.pure (enter31) (s2) ?_ ?_ | refine CallD.pure (enter31) (s2) ?_ ?_); (focus first | ((repeat (first | exact trivial | refine ⟨(by first | exact Or.inl rfl | exact Or.inr rfl), ?_⟩)); done) | (simp only [coL, AV.dat, true_or, or_true, AV.d.injEq, go_sem]; done)); simp only [go_sem, h1, h2, h3, hv]) | ((first | refine CallK.pure (enter31) (s3) ?_ ?_ | refine CallD.pure (enter31) (s3) ?_ ?_); (focus first | ((repeat (first | exact trivial | refine ⟨(by first | exact Or.inl rfl | exact Or.inr rfl), ?_⟩)); done) | (simp only [coL, AV.dat, true_or, or_true, AV.d.injEq, go_sem]; done)); simp only [go_sem, h1, h2, h3, hv]) | ((first | refine CallK.pure (enter35) (clauseBegun_tri) ?_ ?_ | refine CallD.pure (enter35) (clauseBegun_tri) ?_ ?_ | refine CallK.pure (enter29) (t1) ?_ ?_ | refine CallD.pure (enter29) (t1) ?_ ?_); (focus first | ((repeat (first | exact trivial | refine ⟨(by first | exact Or.inl rfl | exact Or.inr rfl), ?_⟩)); done) | (simp only [coL, AV.dat, true_or, or_true, AV.d.injEq, go_sem]; done)); simp only [go_sem, h1, h2, h3, hv]) | refine And.intro (by first | ((repeat' first | omega | exact trivial | rfl | assumption | (intro a e; subst e; rfl) | exact map_sz fun a => (by simp only [go_sem]) | refine And.intro ?_ ?_); done) | fail) ?_ | fail)
      (first | refine ret_pure ?_ ?_ ?_ | refine ret_ro ?_ ?_ ?_); focus exact (by simp only [Try.results6, resOkL, resOk, Try.ntmps6, List.toList_toArray]; first | decide | (simp only [go_sem]; done) | (simp only [go_sem]; and_intros <;> first | omega | rfl | decide))
      rotate_left; focus exact (by repeat (first | exact Fr.rfl' _ _ | assumption | refine Fr.updk ?_ (by omega) _))
      simp only [resA, resV, Try.results6, go_sem]
      all_goals try (first | exact Co.t2 (.dat rfl) (.dat rfl) | exact Co.t3 (.dat rfl) (.dat rfl) (.dat rfl))
      exact .dat rfl
    · repeat' (first | refine awp_seq_k fun K hK => ?_ | ((first | refine awp_region_k (by kernel_rfl) fun R hR => ?_ | refine awp_draw mixed (by kernel_rfl) (by kernel_rfl) fun R hR => ?_); simp only [go_sem, h1, h2, h3, h4, hv]) | ((first | (refine hR _ ?_; clear hR R) | refine awp_skip ?_ | refine awp_exit ?_ | refine awp_ret ?_); try simp only [thenA, inBlockA, reduceIte, reduceCtorEq, Nat.reduceEqDiff, if_false, if_true]) | ((first | refine hK _ ?_ | (clear hK K; first | refine hK _ ?_ | (clear hK K; first | refine hK _ ?_ | (clear hK K; first | refine hK _ ?_ | (clear hK K; refine hK _ ?_))))); clear hK K) | refine awp_true rfl rfl ?_ | refine awp_false rfl rfl ?_ | refine awp_block ?_ | ((first | refine CallK.pure (enter31) (s1) ?_ ?_ | refine CallD.pure (enter31) (s1) ?_ ?_); (focus first | ((repeat (first | exact trivial | refine ⟨(by first | exact Or.inl rfl | exact Or.inr rfl), ?_⟩)); done) | (simp only [coL, AV.dat, true_or, or_true, AV.d.injEq, go_sem]; done)); simp only [go_sem, h1, h2, h3, h4, hv]) | ((first | refine CallK.pure (enter31) (s2) ?_ ?_ | refine CallD.pure (enter31) (s2) ?_ ?_); (focus first | ((repeat (first | exact trivial | refine ⟨(by first | exact Or.inl rfl | exact Or.inr rfl), ?_⟩)); done) | (simp only [coL, AV.dat, true_or, or_true, AV.d.injEq, go_sem]; done)); simp only [go_sem, h1, h2, h3, h4, hv]) | ((first | refine CallK.pure (enter31) (s3) ?_ ?_ | refine CallD.pure (enter31) (s3) ?_ ?_); (focus first | ((repeat (first | exact trivial | refine ⟨(by first | exact Or.inl rfl | exact Or.inr rfl), ?_⟩)); done) | (simp only [coL, AV.dat, true_or, or_true, AV.d.injEq, go_sem]; done)); simp only [go_sem, h1, h2, h3, h4, hv]) | ((first | refine CallK.pure (enter35) (clauseBegun_tri) ?_ ?_ | refine CallD.pure (enter35) (clauseBegun_tri) ?_ ?_ | refine CallK.pure (enter29) (t1) ?_ ?_ | refine CallD.pure (enter29) (t1) ?_ ?_); (focus first | ((repeat (first | exact trivial | refine ⟨(by first | exact Or.inl rfl | exact Or.inr rfl), ?_⟩)); done) | (simp only [coL, AV.dat, true_or, or_true, AV.d.injEq, go_sem]; done)); simp only [go_sem, h1, h2, h3, h4, hv]) | refine And.intro (by first | ((repeat' first | omega | exact trivial | rfl | assumption | (intro a e; subst e; rfl) | exact map_sz fun a => (by simp only [go_sem]) | refine And.intro ?_ ?_); done) | fail) ?_ | fail)
      (first | refine ret_pure ?_ ?_ ?_ | refine ret_ro ?_ ?_ ?_); focus exact (by simp only [Try.results6, resOkL, resOk, Try.ntmps6, List.toList_toArray]; first | decide | (simp only [go_sem]; done) | (simp only [go_sem]; and_intros <;> first | omega | rfl | decide))
      rotate_left; focus exact (by repeat (first | exact Fr.rfl' _ _ | assumption | refine Fr.updk ?_ (by omega) _))
      simp only [resA, resV, Try.results6, go_sem]
      all_goals try (first | exact Co.t2 (.dat rfl) (.dat rfl) | exact Co.t3 (.dat rfl) (.dat rfl) (.dat rfl))
      exact .dat rfl
    · repeat' (first | refine awp_seq_k fun K hK => ?_ | ((first | refine awp_region_k (by kernel_rfl) fun R hR => ?_ | refine awp_draw mixed (by kernel_rfl) (by kernel_rfl) fun R hR => ?_); simp only [go_sem, h1, h2, h3, h4, h5, hv]) | ((first | (refine hR _ ?_; clear hR R) | refine awp_skip ?_ | refine awp_exit ?_ | refine awp_ret ?_); try simp only [thenA, inBlockA, reduceIte, reduceCtorEq, Nat.reduceEqDiff, if_false, if_true]) | ((first | refine hK _ ?_ | (clear hK K; first | refine hK _ ?_ | (clear hK K; first | refine hK _ ?_ | (clear hK K; first | refine hK _ ?_ | (clear hK K; refine hK _ ?_))))); clear hK K) | refine awp_true rfl rfl ?_ | refine awp_false rfl rfl ?_ | refine awp_block ?_ | ((first | refine CallK.pure (enter31) (s1) ?_ ?_ | refine CallD.pure (enter31) (s1) ?_ ?_); (focus first | ((repeat (first | exact trivial | refine ⟨(by first | exact Or.inl rfl | exact Or.inr rfl), ?_⟩)); done) | (simp only [coL, AV.dat, true_or, or_true, AV.d.injEq, go_sem]; done)); simp only [go_sem, h1, h2, h3, h4, h5, hv]) | ((first | refine CallK.pure (enter31) (s2) ?_ ?_ | refine CallD.pure (enter31) (s2) ?_ ?_); (focus first | ((repeat (first | exact trivial | refine ⟨(by first | exact Or.inl rfl | exact Or.inr rfl), ?_⟩)); done) | (simp only [coL, AV.dat, true_or, or_true, AV.d.injEq, go_sem]; done)); simp only [go_sem, h1, h2, h3, h4, h5, hv]) | ((first | refine CallK.pure (enter31) (s3) ?_ ?_ | refine CallD.pure (enter31) (s3) ?_ ?_); (focus first | ((repeat (first | exact trivial | refine ⟨(by first | exact Or.inl rfl | exact Or.inr rfl), ?_⟩)); done) | (simp only [coL, AV.dat, true_or, or_true, AV.d.injEq, go_sem]; done)); simp only [go_sem, h1, h2, h3, h4, h5, hv]) | ((first | refine CallK.pure (enter35) (clauseBegun_tri) ?_ ?_ | refine CallD.pure (enter35) (clauseBegun_tri) ?_ ?_ | refine CallK.pure (enter29) (t1) ?_ ?_ | refine CallD.pure (enter29) (t1) ?_ ?_); (focus first | ((repeat (first | exact trivial | refine ⟨(by first | exact Or.inl rfl | exact Or.inr rfl), ?_⟩)); done) | (simp only [coL, AV.dat, true_or, or_true, AV.d.injEq, go_sem]; done)); simp only [go_sem, h1, h2, h3, h4, h5, hv]) | refine And.intro (by first | ((repeat' first | omega | exact trivial | rfl | assumption | (intro a e; subst e; rfl) | exact map_sz fun a => (by simp only [go_sem]) | refine And.intro ?_ ?_); done) | fail) ?_ | fail)
      (first | refine ret_pure ?_ ?_ ?_ | refine ret_ro ?_ ?_ ?_); focus exact (by simp only [Try.results6, resOkL, resOk, Try.ntmps6, List.toList_toArray]; first | decide | (simp only [go_sem]; done) | (simp only [go_sem]; and_intros <;> first | omega | rfl | decide))
      rotate_left; focus exact (by repeat (first | exact Fr.rfl' _ _ | assumption | refine Fr.updk ?_ (by omega) _))
      simp only [resA, resV, Try.results6, go_sem]
      all_goals try (first | exact Co.t2 (.dat rfl) (.dat rfl) | exact Co.t3 (.dat rfl) (.dat rfl) (.dat rfl))
      exact .dat rfl
    · repeat' (first | refine awp_seq_k fun K hK => ?_ | ((first | refine awp_region_k (by kernel_rfl) fun R hR => ?_ | refine awp_draw mixed (by kernel_rfl) (by kernel_rfl) fun R hR => ?_); simp only [go_sem, h1, h2, h3, h4, h5, h6, hv]) | ((first | (refine hR _ ?_; clear hR R) | refine awp_skip ?_ | refine awp_exit ?_ | refine awp_ret ?_); try simp only [thenA, inBlockA, reduceIte, reduceCtorEq, Nat.reduceEqDiff, if_false, if_true]) | ((first | refine hK _ ?_ | (clear hK K; first | refine hK _ ?_ | (clear hK K; first | refine hK _ ?_ | (clear hK K; first | refine hK _ ?_ | (clear hK K; refine hK _ ?_))))); clear hK K) | refine awp_true rfl rfl ?_ | refine awp_false rfl rfl ?_ | refine awp_block ?_ | ((first | refine CallK.pure (enter31) (s1) ?_ ?_ | refine CallD.pure (enter31) (s1) ?_ ?_); (focus first | ((repeat (first | exact trivial | refine ⟨(by first | exact Or.inl rfl | exact Or.inr rfl), ?_⟩)); done) | (simp only [coL, AV.dat, true_or, or_true, AV.d.injEq, go_sem]; done)); simp only [go_sem, h1, h2, h3, h4, h5, h6, hv]) | ((first | refine CallK.pure (enter31) (s2) ?_ ?_ | refine CallD.pure (enter31) (s2) ?_ ?_); (focus first | ((repeat (first | exact trivial | refine ⟨(by first | exact Or.inl rfl | exact Or.inr rfl), ?_⟩)); done) | (simp only [coL, AV.dat, true_or, or_true, AV.d.injEq, go_sem]; done)); simp only [go_sem, h1, h2, h3, h4, h5, h6, hv]) | ((first | refine CallK.pure (enter31) (s3) ?_ ?_ | refine CallD.pure (enter31) (s3) ?_ ?_); (focus first | ((repeat (first | exact trivial | refine ⟨(by first | exact Or.inl rfl | exact Or.inr rfl), ?_⟩)); done) | (simp only [coL, AV.dat, true_or, or_true, AV.d.injEq, go_sem]; done)); simp only [go_sem, h1, h2, h3, h4, h5, h6, hv]) | ((first | refine CallK.pure (enter35) (clauseBegun_tri) ?_ ?_ | refine CallD.pure (enter35) (clauseBegun_tri) ?_ ?_ | refine CallK.pure (enter29) (t1) ?_ ?_ | refine CallD.pure (enter29) (t1) ?_ ?_); (focus first | ((repeat (first | exact trivial | refine ⟨(by first | exact Or.inl rfl | exact Or.inr rfl), ?_⟩)); done) | (simp only [coL, AV.dat, true_or, or_true, AV.d.injEq, go_sem]; done)); simp only [go_sem, h1, h2, h3, h4, h5, h6, hv]) | refine And.intro (by first | ((repeat' first | omega | exact trivial | rfl | assumption | (intro a e; subst e; rfl) | exact map_sz fun a => (by simp only [go_sem]) | refine And.intro ?_ ?_); done) | fail) ?_ | fail)
      (first | refine ret_pure ?_ ?_ ?_ | refine ret_ro ?_ ?_ ?_); focus exact (by simp only [Try.results6, resOkL, resOk, Try.ntmps6, List.toList_toArray]; first | decide | (simp only [go_sem]; done) | (simp only [go_sem]; and_intros <;> first | omega | rfl | decide))
      rotate_left; focus exact (by repeat (first | exact Fr.rfl' _ _ | assumption | refine Fr.updk ?_ (by omega) _))
      simp only [resA, resV, Try.results6, go_sem]
      all_goals try (first | exact Co.t2 (.dat rfl) (.dat rfl) | exact Co.t3 (.dat rfl) (.dat rfl) (.dat rfl))
      exact .dat rfl
theorem clauseHangs_law (g : List Int) (a b c : List Lt) (_ : True) (_ : True) (_ : True) (_ : True) (hb : (g.length + 1) + ((a.map Lt.size).sum + 1) + ((b.map Lt.size).sum + 1) + ((c.map Lt.size).sum + 1) ≤ 1048576) : Tri Try.prog 6 [.d (sgDV g), .d (clDV a), .d (clDV b), .d (clDV c)] (pure' (bA true)) := by
  obtain ⟨h1, h2⟩ := lt_sizes (c := a) (n := 1048576) (by omega)
  obtain ⟨h3, h4⟩ := lt_sizes (c := b) (n := 1048576) (by omega)
  obtain ⟨h5, h6⟩ := lt_sizes (c := c) (n := 1048576) (by omega)
  exact clauseHangs_tri g a b c (by omega) (by omega) (by omega) (fun l hl => by have := h2 l hl; omega) (fun l hl => by have := h4 l hl; omega)
end Go.Proofs.Ytmeekpinkfpnhaa
namespace Go.Proofs.Ytmeekpinkfpnhaa
open Go.RowKit
set_option maxHeartbeats 2000000 in
set_option maxRecDepth 20000 in
theorem mdCheck_tri (g : List Int) (sz : Int) (tb : List (List Int)) (hl : tb.length ≤ 4000000) (hr : ∀ r ∈ tb, r.length ≤ 4000000) : Tri Try.prog 28 [.d (sgDV g), .d (mdDV sz tb)] (pure' (iA (mdOk g sz tb))) := by
  refine tri_enter Try.func28 rfl Try.ntmps28 (by simp only [List.length_cons, List.length_nil]; omega) fun w0 h0 k hrd hwr => ?_
  cases hs : sigOk g == 0 with
  | false =>
    have hs' : (sigOk g != 0) = true := by simpa using hs
    have hv : mdOk g sz tb = sigOk g := by unfold mdOk; rw [if_pos (by simpa using hs)]
    repeat' (first | refine awp_seq_k fun K hK => ?_ | ((first | refine awp_region_k (by kernel_rfl) fun R hR => ?_ | refine awp_draw mixed (by kernel_rfl) (by kernel_rfl) fun R hR => ?_); simp only [go_sem, hs']) | ((first | (refine hR _ ?_; clear hR R) | refine awp_skip ?_ | refine awp_exit ?_ | refine awp_ret ?_); try simp only [thenA, inBlockA, reduceIte, reduceCtorEq, Nat.reduceEqDiff, if_false, if_true]) | ((first | refine hK _ ?_ | (clear hK K; first | refine hK _ ?_ | (clear hK K; first | refine hK _ ?_ | (clear hK K; first | refine hK _ ?_ | (clear hK K; refine hK _ ?_))))); clear hK K) | refine awp_true rfl rfl ?_ | refine awp_false rfl rfl ?_ | refine awp_block ?_ | ((first | refine CallK.pure (enter53) (signature_tri g) ?_ ?_ | refine CallD.pure (enter53) (signature_tri g) ?_ ?_); (focus first | ((repeat (first | exact trivial | refine ⟨(by first | exact Or.inl rfl | exact Or.inr rfl), ?_⟩)); done) | (simp only [coL, AV.dat, true_or, or_true, AV.d.injEq, go_sem]; done)); simp only [go_sem, hs']) | refine And.intro (by first | ((repeat' first | omega | exact trivial | rfl | assumption | (intro a e; subst e; rfl) | exact map_sz fun a => (by simp only [go_sem]) | refine And.intro ?_ ?_); done) | fail) ?_ | fail)
    (first | refine ret_pure ?_ ?_ ?_ | refine ret_ro ?_ ?_ ?_); focus exact (by simp only [Try.results28, resOkL, resOk, Try.ntmps28, List.toList_toArray]; first | decide | (simp only [go_sem]; done) | (simp only [go_sem]; and_intros <;> first | omega | rfl | decide))
    rotate_left; focus exact (by repeat (first | exact Fr.rfl' _ _ | assumption | refine Fr.updk ?_ (by omega) _))
    simp only [resA, resV, Try.results28, go_sem]
    all_goals try (first | exact Co.t2 (.dat rfl) (.dat rfl) | exact Co.t3 (.dat rfl) (.dat rfl) (.dat rfl))
    exact co_i hv.symm
  | true =>
    have hs2 : sigOk g = 0 := by simpa using hs
    have hs' : (sigOk g != 0) = false := by simp [hs2]
    have hlen := sig_len hs2
    by_cases hsz : sz < 1 ∨ sz > 3
    · have hv : mdOk g sz tb = 3 := by unfold mdOk; rw [if_neg (by simp [hs2]), if_pos hsz]
      cases h1 : decide (sz < 1) with
      | true =>
        repeat' (first | refine awp_seq_k fun K hK => ?_ | ((first | refine awp_region_k (by kernel_rfl) fun R hR => ?_ | refine awp_draw mixed (by kernel_rfl) (by kernel_rfl) fun R hR => ?_); simp only [go_sem, hs2, bne_self_eq_false, h1]) | ((first | (refine hR _ ?_; clear hR R) | refine awp_skip ?_ | refine awp_exit ?_ | refine awp_ret ?_); try simp only [thenA, inBlockA, reduceIte, reduceCtorEq, Nat.reduceEqDiff, if_false, if_true]) | ((first | refine hK _ ?_ | (clear hK K; first | refine hK _ ?_ | (clear hK K; first | refine hK _ ?_ | (clear hK K; first | refine hK _ ?_ | (clear hK K; refine hK _ ?_))))); clear hK K) | refine awp_true rfl rfl ?_ | refine awp_false rfl rfl ?_ | refine awp_block ?_ | ((first | refine CallK.pure (enter53) (signature_tri g) ?_ ?_ | refine CallD.pure (enter53) (signature_tri g) ?_ ?_); (focus first | ((repeat (first | exact trivial | refine ⟨(by first | exact Or.inl rfl | exact Or.inr rfl), ?_⟩)); done) | (simp only [coL, AV.dat, true_or, or_true, AV.d.injEq, go_sem]; done)); simp only [go_sem, hs2, bne_self_eq_false, h1]) | refine And.intro (by first | ((repeat' first | omega | exact trivial | rfl | assumption | (intro a e; subst e; rfl) | exact map_sz fun a => (by simp only [go_sem]) | refine And.intro ?_ ?_); done) | fail) ?_ | fail)
        (first | refine ret_pure ?_ ?_ ?_ | refine ret_ro ?_ ?_ ?_); focus exact (by simp only [Try.results28, resOkL, resOk, Try.ntmps28, List.toList_toArray]; first | decide | (simp only [go_sem]; done) | (simp only [go_sem]; and_intros <;> first | omega | rfl | decide))
        rotate_left; focus exact (by repeat (first | exact Fr.rfl' _ _ | assumption | refine Fr.updk ?_ (by omega) _))
        simp only [resA, resV, Try.results28, go_sem]
        all_goals try (first | exact Co.t2 (.dat rfl) (.dat rfl) | exact Co.t3 (.dat rfl) (.dat rfl) (.dat rfl))
        exact co_i hv.symm
      | false =>
        have h2 : decide (sz > 3) = true := by simp at h1 ⊢; omega
        repeat' (first | refine awp_seq_k fun K hK => ?_ | ((first | refine awp_region_k (by kernel_rfl) fun R hR => ?_ | refine awp_draw mixed (by kernel_rfl) (by kernel_rfl) fun R hR => ?_); simp only [go_sem, hs2, bne_self_eq_false, h1, h2]) | ((first | (refine hR _ ?_; clear hR R) | refine awp_skip ?_ | refine awp_exit ?_ | refine awp_ret ?_); try simp only [thenA, inBlockA, reduceIte, reduceCtorEq, Nat.reduceEqDiff, if_false, if_true]) | ((first | refine hK _ ?_ | (clear hK K; first | refine hK _ ?_ | (clear hK K; first | refine hK _ ?_ | (clear hK K; first | refine hK _ ?_ | (clear hK K; refine hK _ ?_))))); clear hK K) | refine awp_true rfl rfl ?_ | refine awp_false rfl rfl ?_ | refine awp_block ?_ | ((first | refine CallK.pure (enter53) (signature_tri g) ?_ ?_ | refine CallD.pure (enter53) (signature_tri g) ?_ ?_); (focus first | ((repeat (first | exact trivial | refine ⟨(by first | exact Or.inl rfl | exact Or.inr rfl), ?_⟩)); done) | (simp only [coL, AV.dat, true_or, or_true, AV.d.injEq, go_sem]; done)); simp only [go_sem, hs2, bne_self_eq_false, h1, h2]) | refine And.intro (by first | ((repeat' first | omega | exact trivial | rfl | assumption | (intro a e; subst e; rfl) | exact map_sz fun a => (by simp only [go_sem]) | refine And.intro ?_ ?_); done) | fail) ?_ | fail)
        (first | refine ret_pure ?_ ?_ ?_ | refine ret_ro ?_ ?_ ?_); focus exact (by simp only [Try.results28, resOkL, resOk, Try.ntmps28, List.toList_toArray]; first | decide | (simp only [go_sem]; done) | (simp only [go_sem]; and_intros <;> first | omega | rfl | decide))
        rotate_left; focus exact (by repeat (first | exact Fr.rfl' _ _ | assumption | refine Fr.updk ?_ (by omega) _))
        simp only [resA, resV, Try.results28, go_sem]
        all_goals try (first | exact Co.t2 (.dat rfl) (.dat rfl) | exact Co.t3 (.dat rfl) (.dat rfl) (.dat rfl))
        exact co_i hv.symm
    · have h1 : decide (sz < 1) = false := by simp; omega
      have h2 : decide (sz > 3) = false := by simp; omega
      cases h3 : ((tb.length : Int) != (g.length : Int)) with
      | true =>
        have hv : mdOk g sz tb = 1 := by unfold mdOk; rw [if_neg (by simp [hs2]), if_neg hsz, if_pos (by simp at h3; omega)]
        repeat' (first | refine awp_seq_k fun K hK => ?_ | ((first | refine awp_region_k (by kernel_rfl) fun R hR => ?_ | refine awp_draw mixed (by kernel_rfl) (by kernel_rfl) fun R hR => ?_); simp only [go_sem, hs2, bne_self_eq_false, h1, h2, h3]) | ((first | (refine hR _ ?_; clear hR R) | refine awp_skip ?_ | refine awp_exit ?_ | refine awp_ret ?_); try simp only [thenA, inBlockA, reduceIte, reduceCtorEq, Nat.reduceEqDiff, if_false, if_true]) | ((first | refine hK _ ?_ | (clear hK K; first | refine hK _ ?_ | (clear hK K; first | refine hK _ ?_ | (clear hK K; first | refine hK _ ?_ | (clear hK K; refine hK _ ?_))))); clear hK K) | refine awp_true rfl rfl ?_ | refine awp_false rfl rfl ?_ | refine awp_block ?_ | ((first | refine CallK.pure (enter53) (signature_tri g) ?_ ?_ | refine CallD.pure (enter53) (signature_tri g) ?_ ?_); (focus first | ((repeat (first | exact trivial | refine ⟨(by first | exact Or.inl rfl | exact Or.inr rfl), ?_⟩)); done) | (simp only [coL, AV.dat, true_or, or_true, AV.d.injEq, go_sem]; done)); simp only [go_sem, hs2, bne_self_eq_false, h1, h2, h3]) | refine And.intro (by first | ((repeat' first | omega | exact trivial | rfl | assumption | (intro a e; subst e; rfl) | exact map_sz fun a => (by simp only [go_sem]) | refine And.intro ?_ ?_); done) | fail) ?_ | fail)
        (first | refine ret_pure ?_ ?_ ?_ | refine ret_ro ?_ ?_ ?_); focus exact (by simp only [Try.results28, resOkL, resOk, Try.ntmps28, List.toList_toArray]; first | decide | (simp only [go_sem]; done) | (simp only [go_sem]; and_intros <;> first | omega | rfl | decide))
        rotate_left; focus exact (by repeat (first | exact Fr.rfl' _ _ | assumption | refine Fr.updk ?_ (by omega) _))
        simp only [resA, resV, Try.results28, go_sem]
        all_goals try (first | exact Co.t2 (.dat rfl) (.dat rfl) | exact Co.t3 (.dat rfl) (.dat rfl) (.dat rfl))
        exact co_i hv.symm
      | false =>
        have h3' : tb.length = g.length := by simp at h3; omega
        have hv : mdOk g sz tb = if rowsBad sz g tb = true then 1 else if (tb.any fun r => r.any (outOf sz)) = true then 5 else 0 := by unfold mdOk; rw [if_neg (by simp [hs2]), if_neg hsz, if_neg (by simp [h3'])]
        repeat' (first | refine awp_seq_k fun K hK => ?_ | ((first | refine awp_region_k (by kernel_rfl) fun R hR => ?_ | refine awp_draw mixed (by kernel_rfl) (by kernel_rfl) fun R hR => ?_); simp only [go_sem, hs2, bne_self_eq_false, h1, h2, h3]) | ((first | (refine hR _ ?_; clear hR R) | refine awp_skip ?_ | refine awp_exit ?_ | refine awp_ret ?_); try simp only [thenA, inBlockA, reduceIte, reduceCtorEq, Nat.reduceEqDiff, if_false, if_true]) | ((first | refine hK _ ?_ | (clear hK K; first | refine hK _ ?_ | (clear hK K; first | refine hK _ ?_ | (clear hK K; first | refine hK _ ?_ | (clear hK K; refine hK _ ?_))))); clear hK K) | refine awp_true rfl rfl ?_ | refine awp_false rfl rfl ?_ | refine awp_block ?_ | ((first | refine CallK.pure (enter53) (signature_tri g) ?_ ?_ | refine CallD.pure (enter53) (signature_tri g) ?_ ?_); (focus first | ((repeat (first | exact trivial | refine ⟨(by first | exact Or.inl rfl | exact Or.inr rfl), ?_⟩)); done) | (simp only [coL, AV.dat, true_or, or_true, AV.d.injEq, go_sem]; done)); simp only [go_sem, hs2, bne_self_eq_false, h1, h2, h3]) | refine And.intro (by first | ((repeat' first | omega | exact trivial | rfl | assumption | (intro a e; subst e; rfl) | exact map_sz fun a => (by simp only [go_sem]) | refine And.intro ?_ ?_); done) | fail) ?_ | fail)
        refine awp_loop (fun σ => ∃ i : Nat, σ.t 2 = .ptr (k, 0) 0 ∧ σ.t 3 = .ptr (k, 1) 0 ∧ σ.t 31 = .d (.sl (tb.map gI)) ∧ σ.t 32 = iA tb.length ∧ σ.t 33 = iA i ∧ σ.h (k, 0) = some (.cells 24 [.d (.sl (g.map iD))]) ∧ σ.h (k, 1) = some (.cells 39 [iA sz, .d (.sl (tb.map gI))]) ∧ Fr k h0 σ.h ∧ k < σ.k ∧ i ≤ tb.length ∧ rowsBad sz (g.drop i) (tb.drop i) = rowsBad sz g tb) (fun σ => tb.length - (intOf' (σ.t 33)).toNat) ?_ ?_
        · refine ⟨0, ?_⟩
          simp only [go_sem, List.drop_zero]
          and_intros; all_goals try (first | rfl | omega | assumption | ((repeat (first | exact Fr.rfl' _ _ | assumption | refine Fr.updk ?_ (by omega) _)); done))
        · rintro σ ⟨i, s2, s3, s31, s32, s33, sh, sh', hF, hk, hi, hb⟩
          have hne := ltne hk
          rcases Nat.lt_or_ge i tb.length with hlt | hge
          · have hlt' : i < g.length := by omega
            have hz : (i : Int) < (tb.length : Int) := by omega
            have hz' : (i : Int) < (g.length : Int) := by omega
            have e1 : (tb.map gI).getD i default = gI tb[i] := nth_map gI hlt _
            have e2 : (g.map iD).getD i default = iD g[i] := nth_map iD hlt' _
            obtain ⟨g1, g2⟩ := sig_each hs2 g[i] (List.getElem_mem hlt')
            have pw := power_tri (n := sz) (by omega) (by omega) (j := g[i].toNat) (by omega)
            rw [show ((g[i].toNat : Nat) : Int) = g[i] by omega] at pw
            rw [rowsBad_at hlt' hlt] at hb
            cases hc : ((tb[i].length : Int) != sz ^ g[i].toNat) with
            | true =>
              rw [hc, Bool.true_or] at hb
              repeat' (first | refine awp_seq_k fun K hK => ?_ | ((first | refine awp_region_k (by kernel_rfl) fun R hR => ?_ | refine awp_draw mixed (by kernel_rfl) (by kernel_rfl) fun R hR => ?_); simp only [go_sem, s2, s3, s31, s32, s33, sh, sh', hz, hz', e1, e2, hne, hc, Int.toNat_natCast]) | ((first | (refine hR _ ?_; clear hR R) | refine awp_skip ?_ | refine awp_exit ?_ | refine awp_ret ?_); try simp only [thenA, inBlockA, reduceIte, reduceCtorEq, Nat.reduceEqDiff, if_false, if_true]) | ((first | refine hK _ ?_ | (clear hK K; first | refine hK _ ?_ | (clear hK K; first | refine hK _ ?_ | (clear hK K; first | refine hK _ ?_ | (clear hK K; refine hK _ ?_))))); clear hK K) | refine awp_true rfl rfl ?_ | refine awp_false rfl rfl ?_ | refine awp_block ?_ | ((first | refine CallK.pure (enter76) (pw) ?_ ?_ | refine CallD.pure (enter76) (pw) ?_ ?_); (focus first | ((repeat (first | exact trivial | refine ⟨(by first | exact Or.inl rfl | exact Or.inr rfl), ?_⟩)); done) | (simp only [coL, AV.dat, true_or, or_true, AV.d.injEq, go_sem]; done)); simp only [go_sem, s2, s3, s31, s32, s33, sh, sh', hz, hz', e1, e2, hne, hc, Int.toNat_natCast]) | refine And.intro (by first | ((repeat' first | omega | exact trivial | rfl | assumption | (intro a e; subst e; rfl) | exact map_sz fun a => (by simp only [go_sem]) | refine And.intro ?_ ?_); done) | fail) ?_ | fail)
              (first | refine ret_pure ?_ ?_ ?_ | refine ret_ro ?_ ?_ ?_); focus exact (by simp only [Try.results28, resOkL, resOk, Try.ntmps28, List.toList_toArray]; first | decide | (simp only [go_sem]; done) | (simp only [go_sem]; and_intros <;> first | omega | rfl | decide))
              rotate_left; focus exact (by repeat (first | exact Fr.rfl' _ _ | assumption | refine Fr.updk ?_ (by omega) _))
              simp only [resA, resV, Try.results28, go_sem]
              all_goals try (first | exact Co.t2 (.dat rfl) (.dat rfl) | exact Co.t3 (.dat rfl) (.dat rfl) (.dat rfl))
              exact co_i (by rw [hv, ← hb]; rfl)
            | false =>
              rw [hc, Bool.false_or] at hb
              repeat' (first | refine awp_seq_k fun K hK => ?_ | ((first | refine awp_region_k (by kernel_rfl) fun R hR => ?_ | refine awp_draw mixed (by kernel_rfl) (by kernel_rfl) fun R hR => ?_); simp only [go_sem, s2, s3, s31, s32, s33, sh, sh', hz, hz', e1, e2, hne, hc, Int.toNat_natCast]) | ((first | (refine hR _ ?_; clear hR R) | refine awp_skip ?_ | refine awp_exit ?_ | refine awp_ret ?_); try simp only [thenA, inBlockA, reduceIte, reduceCtorEq, Nat.reduceEqDiff, if_false, if_true]) | ((first | refine hK _ ?_ | (clear hK K; first | refine hK _ ?_ | (clear hK K; first | refine hK _ ?_ | (clear hK K; first | refine hK _ ?_ | (clear hK K; refine hK _ ?_))))); clear hK K) | refine awp_true rfl rfl ?_ | refine awp_false rfl rfl ?_ | refine awp_block ?_ | ((first | refine CallK.pure (enter76) (pw) ?_ ?_ | refine CallD.pure (enter76) (pw) ?_ ?_); (focus first | ((repeat (first | exact trivial | refine ⟨(by first | exact Or.inl rfl | exact Or.inr rfl), ?_⟩)); done) | (simp only [coL, AV.dat, true_or, or_true, AV.d.injEq, go_sem]; done)); simp only [go_sem, s2, s3, s31, s32, s33, sh, sh', hz, hz', e1, e2, hne, hc, Int.toNat_natCast]) | refine And.intro (by first | ((repeat' first | omega | exact trivial | rfl | assumption | (intro a e; subst e; rfl) | exact map_sz fun a => (by simp only [go_sem]) | refine And.intro ?_ ?_); done) | fail) ?_ | fail)
              refine ⟨⟨i + 1, ?_⟩, ?_⟩
              rotate_left
              · simp only [go_sem, s2, s3, s31, s32, s33, sh, sh', hne]; omega
              simp only [go_sem, s2, s3, s31, s32, s33, sh, sh', hne]
              and_intros; all_goals try (first | rfl | omega | assumption | ((repeat (first | exact Fr.rfl' _ _ | assumption | refine Fr.updk ?_ (by omega) _)); done))
          · have hz : ¬ ((i : Int) < (tb.length : Int)) := by omega
            rw [rowsBad_end hge] at hb
            rw [← hb] at hv
            simp only [Bool.false_eq_true, if_false] at hv
            have hro : RoOK σ.k (mdO (k, 1) sz tb) σ.h := roMd hk sh'
            have hcf := containsF_rows tb (by omega) 85 (enter85) [.ptr (k, 1) 0] (mdO (k, 1) sz tb) (fun r => r.any (outOf sz)) (fun r hr' => check1_tri (k, 1) sz tb r (by have := hr r hr'; omega))
            cases h5 : tb.any fun r => r.any (outOf sz) with
            | true =>
              rw [h5] at hv hcf
              repeat' (first | refine awp_seq_k fun K hK => ?_ | ((first | refine awp_region_k (by kernel_rfl) fun R hR => ?_ | refine awp_draw mixed (by kernel_rfl) (by kernel_rfl) fun R hR => ?_); simp only [go_sem, s3, s31, s32, s33, sh', hz, hne]) | ((first | (refine hR _ ?_; clear hR R) | refine awp_skip ?_ | refine awp_exit ?_ | refine awp_ret ?_); try simp only [thenA, inBlockA, reduceIte, reduceCtorEq, Nat.reduceEqDiff, if_false, if_true]) | ((first | refine hK _ ?_ | (clear hK K; first | refine hK _ ?_ | (clear hK K; first | refine hK _ ?_ | (clear hK K; first | refine hK _ ?_ | (clear hK K; refine hK _ ?_))))); clear hK K) | refine awp_true rfl rfl ?_ | refine awp_false rfl rfl ?_ | refine awp_block ?_ | ((first | refine CallK.look (enter84) (hcf) ?_ (by assumption) (by repeat (first | exact Fr.rfl' _ _ | assumption | refine Fr.updk ?_ (by omega) _)) ?_ | refine CallD.look (enter84) (hcf) ?_ (by assumption) (by repeat (first | exact Fr.rfl' _ _ | assumption | refine Fr.updk ?_ (by omega) _)) (by first | assumption | exact List.cons_ne_nil _ _) ?_); (focus first | ((repeat (first | exact trivial | refine ⟨(by first | exact Or.inl rfl | exact Or.inr rfl), ?_⟩)); done) | (simp only [coL, AV.dat, true_or, or_true, AV.d.injEq, go_sem]; done)); simp only [go_sem, s3, s31, s32, s33, sh', hz, hne]) | refine And.intro (by first | ((repeat' first | omega | exact trivial | rfl | assumption | (intro a e; subst e; rfl) | exact map_sz fun a => (by simp only [go_sem]) | refine And.intro ?_ ?_); done) | fail) ?_ | fail)
              (first | refine ret_pure ?_ ?_ ?_ | refine ret_ro ?_ ?_ ?_); focus exact (by simp only [Try.results28, resOkL, resOk, Try.ntmps28, List.toList_toArray]; first | decide | (simp only [go_sem]; done) | (simp only [go_sem]; and_intros <;> first | omega | rfl | decide))
              rotate_left; focus exact (by repeat (first | exact Fr.rfl' _ _ | assumption | refine Fr.updk ?_ (by omega) _))
              simp only [resA, resV, Try.results28, go_sem]
              all_goals try (first | exact Co.t2 (.dat rfl) (.dat rfl) | exact Co.t3 (.dat rfl) (.dat rfl) (.dat rfl))
              exact co_i hv.symm
            | false =>
              rw [h5] at hv hcf
              repeat' (first | refine awp_seq_k fun K hK => ?_ | ((first | refine awp_region_k (by kernel_rfl) fun R hR => ?_ | refine awp_draw mixed (by kernel_rfl) (by kernel_rfl) fun R hR => ?_); simp only [go_sem, s3, s31, s32, s33, sh', hz, hne]) | ((first | (refine hR _ ?_; clear hR R) | refine awp_skip ?_ | refine awp_exit ?_ | refine awp_ret ?_); try simp only [thenA, inBlockA, reduceIte, reduceCtorEq, Nat.reduceEqDiff, if_false, if_true]) | ((first | refine hK _ ?_ | (clear hK K; first | refine hK _ ?_ | (clear hK K; first | refine hK _ ?_ | (clear hK K; first | refine hK _ ?_ | (clear hK K; refine hK _ ?_))))); clear hK K) | refine awp_true rfl rfl ?_ | refine awp_false rfl rfl ?_ | refine awp_block ?_ | ((first | refine CallK.look (enter84) (hcf) ?_ (by assumption) (by repeat (first | exact Fr.rfl' _ _ | assumption | refine Fr.updk ?_ (by omega) _)) ?_ | refine CallD.look (enter84) (hcf) ?_ (by assumption) (by repeat (first | exact Fr.rfl' _ _ | assumption | refine Fr.updk ?_ (by omega) _)) (by first | assumption | exact List.cons_ne_nil _ _) ?_); (focus first | ((repeat (first | exact trivial | refine ⟨(by first | exact Or.inl rfl | exact Or.inr rfl), ?_⟩)); done) | (simp only [coL, AV.dat, true_or, or_true, AV.d.injEq, go_sem]; done)); simp only [go_sem, s3, s31, s32, s33, sh', hz, hne]) | refine And.intro (by first | ((repeat' first | omega | exact trivial | rfl | assumption | (intro a e; subst e; rfl) | exact map_sz fun a => (by simp only [go_sem]) | refine And.intro ?_ ?_); done) | fail) ?_ | fail)
              (first | refine ret_pure ?_ ?_ ?_ | refine ret_ro ?_ ?_ ?_); focus exact (by simp only [Try.results28, resOkL, resOk, Try.ntmps28, List.toList_toArray]; first | decide | (simp only [go_sem]; done) | (simp only [go_sem]; and_intros <;> first | omega | rfl | decide))
              rotate_left; focus exact (by repeat (first | exact Fr.rfl' _ _ | assumption | refine Fr.updk ?_ (by omega) _))
              simp only [resA, resV, Try.results28, go_sem]
              all_goals try (first | exact Co.t2 (.dat rfl) (.dat rfl) | exact Co.t3 (.dat rfl) (.dat rfl) (.dat rfl))
              exact co_i hv.symm
end Go.Proofs.Ytmeekpinkfpnhaa
namespace Go.Proofs.Ytmeekpinkfpnhaa
open Go.RowKit
section
variable {g : List Int} {sz : Int} {tb : List (List Int)} {vs : Int → Int} (hm : mdOk g sz tb = 0)
include hm
theorem md_at {t : Tm} (hf : Fine g sz vs (parts t)) (hv : ¬ t.v > 0) : t.f.toNat < tb.length ∧ 0 ≤ t.f ∧ (∀ h : t.f.toNat < tb.length, ∃ h2 : (valL sz tb vs t.us 0).toNat < tb[t.f.toNat].length, valM sz tb vs t = (tb[t.f.toNat])[(valL sz tb vs t.us 0).toNat]) ∧ 0 ≤ valL sz tb vs t.us 0 ∧ t.us.length ≤ 3 := by
  have h0 := hf t (by rw [parts_eq]; simp)
  obtain ⟨h1, _⟩ := h0
  have hL := valL_ok hm t.us 0 0 (fun x hx => hf x (by rw [parts_eq]; exact List.mem_append_left _ hx)) (by omega) (by simp)
  have hv0 := formOne_v h1
  unfold formOne at h1
  rw [if_neg (by omega)] at h1
  split at h1
  · cases h1
  · split at h1
    · cases h1
    · rename_i h3 h4
      simp only [Nat.zero_add] at hL
      obtain ⟨h5, h6, h7⟩ := md_row hm (f := t.f) (by omega) (by omega)
      have h8 : (g.getD t.f.toNat 0).toNat = t.us.length := by have h4 := Decidable.not_not.1 h4; omega
      rw [h8] at h6
      have h9 : (valL sz tb vs t.us 0).toNat < tb[t.f.toNat].length := by omega
      refine ⟨h5, by omega, fun h => ⟨h9, ?_⟩, hL.1, ?_⟩
      · rw [valM_eq, if_neg hv, getD_at h5, getD_at h9]
      · have h10 := (mdOk_all hm).1
        have h11 : t.f.toNat < g.length := by omega
        have := sig_each h10 _ (List.getElem_mem h11)
        rw [getD_at h11] at h8
        omega
def ValSpec (g : List Int) (sz : Int) (tb : List (List Int)) (vs : Int → Int) (f : FuncId) (caps : List AV) (ro : List (Nm × Ob)) (t : Tm) : Prop :=
  Fine g sz vs (parts t) → (∀ x ∈ parts t, x.v > 0 → Tri Try.prog f ([iA x.v] ++ caps) (rdE ro (iA (vs x.v)))) → Tri Try.prog 73 [.d (mdDV sz tb), .d (tmDV t), .fn (.func f) [] caps] (rdE ro (iA (valM sz tb vs t)))
set_option maxRecDepth 20000 in
theorem value_step (f : FuncId) (hfe : enterOk Try.prog f) (caps : List AV) (ro : List (Nm × Ob)) (hrn : ro ≠ []) (t : Tm) (ih : ∀ u ∈ t.us, ValSpec g sz tb vs f caps ro u) : ValSpec g sz tb vs f caps ro t := by
  intro hf his
  have hsz := mdOk_all hm
  refine tri_enter_ro Try.func73 rfl Try.ntmps73 (by simp only [List.length_cons, List.length_nil]; omega) fun w0 h0 k hro => ?_
  cases hv : decide (t.v > 0) with
  | true =>
    have hv' : t.v > 0 := by simpa using hv
    have h1 := his t (by rw [parts_eq]; simp) hv'
    have e : valM sz tb vs t = vs t.v := by rw [valM_eq, if_pos hv']
    rw [e]
    repeat' (first | refine awp_seq_k fun K hK => ?_ | ((first | refine awp_region_k (by kernel_rfl) fun R hR => ?_ | refine awp_draw mixed (by kernel_rfl) (by kernel_rfl) fun R hR => ?_); simp only [go_sem, hv]) | ((first | (refine hR _ ?_; clear hR R) | refine awp_skip ?_ | refine awp_exit ?_ | refine awp_ret ?_); try simp only [thenA, inBlockA, reduceIte, reduceCtorEq, Nat.reduceEqDiff, if_false, if_true]) | ((first | refine hK _ ?_ | (clear hK K; first | refine hK _ ?_ | (clear hK K; first | refine hK _ ?_ | (clear hK K; first | refine hK _ ?_ | (clear hK K; refine hK _ ?_))))); clear hK K) | refine awp_true rfl rfl ?_ | refine awp_false rfl rfl ?_ | refine awp_block ?_ | ((first | refine CallK.vlook rfl (hfe) (h1) ?_ (by assumption) (by repeat (first | exact Fr.rfl' _ _ | assumption | refine Fr.updk ?_ (by omega) _)) ?_ | refine CallD.vlook rfl (hfe) (h1) ?_ (by assumption) (by repeat (first | exact Fr.rfl' _ _ | assumption | refine Fr.updk ?_ (by omega) _)) (by first | assumption | exact List.cons_ne_nil _ _) ?_); (focus first | ((repeat (first | exact trivial | refine ⟨(by first | exact Or.inl rfl | exact Or.inr rfl), ?_⟩)); done) | (simp only [coL, AV.dat, true_or, or_true, AV.d.injEq, go_sem]; done)); simp only [go_sem, hv]) | refine And.intro (by first | ((repeat' first | omega | exact trivial | rfl | assumption | (intro a e; subst e; rfl) | exact map_sz fun a => (by simp only [go_sem]) | refine And.intro ?_ ?_); done) | fail) ?_ | fail)
    (first | refine ret_pure ?_ ?_ ?_ | refine ret_ro ?_ ?_ ?_); focus exact (by simp only [Try.results73, resOkL, resOk, Try.ntmps73, List.toList_toArray]; first | decide | (simp only [go_sem]; done) | (simp only [go_sem]; and_intros <;> first | omega | rfl | decide))
    rotate_left; focus exact (by repeat (first | exact Fr.rfl' _ _ | assumption | refine Fr.updk ?_ (by omega) _))
    simp only [resA, resV, Try.results73, go_sem]
    all_goals try (first | exact Co.t2 (.dat rfl) (.dat rfl) | exact Co.t3 (.dat rfl) (.dat rfl) (.dat rfl))
    exact .dat rfl
  | false =>
    have hv' : ¬ t.v > 0 := by simpa using hv
    obtain ⟨a1, a2, a3, a4, a5⟩ := md_at hm hf hv'
    obtain ⟨a6, a7⟩ := a3 a1
    repeat' (first | refine awp_seq_k fun K hK => ?_ | ((first | refine awp_region_k (by kernel_rfl) fun R hR => ?_ | refine awp_draw mixed (by kernel_rfl) (by kernel_rfl) fun R hR => ?_); simp only [go_sem, hv]) | ((first | (refine hR _ ?_; clear hR R) | refine awp_skip ?_ | refine awp_exit ?_ | refine awp_ret ?_); try simp only [thenA, inBlockA, reduceIte, reduceCtorEq, Nat.reduceEqDiff, if_false, if_true]) | ((first | refine hK _ ?_ | (clear hK K; first | refine hK _ ?_ | (clear hK K; first | refine hK _ ?_ | (clear hK K; first | refine hK _ ?_ | (clear hK K; refine hK _ ?_))))); clear hK K) | refine awp_true rfl rfl ?_ | refine awp_false rfl rfl ?_ | refine awp_block ?_ | refine And.intro (by first | ((repeat' first | omega | exact trivial | rfl | assumption | (intro a e; subst e; rfl) | exact map_sz fun a => (by simp only [go_sem]) | refine And.intro ?_ ?_); done) | fail) ?_ | fail)
    refine awp_loop (fun σ => ∃ i : Nat, σ.t 2 = .fn (.func f) [] caps ∧ σ.t 3 = .ptr (k, 0) 0 ∧ σ.t 4 = .ptr (k, 1) 0 ∧ σ.t 7 = iA (valL sz tb vs (t.us.take i) 0) ∧ σ.t 18 = .d (.sl (t.us.map tmDV)) ∧ σ.t 19 = iA t.us.length ∧ σ.t 20 = iA i ∧ σ.h (k, 0) = some (.cells 39 [iA sz, .d (.sl (tb.map gI))]) ∧ σ.h (k, 1) = some (.cells 27 [iA t.v, iA t.f, .d (.sl (t.us.map tmDV))]) ∧ Fr k h0 σ.h ∧ k < σ.k ∧ i ≤ t.us.length) (fun σ => t.us.length - (intOf' (σ.t 20)).toNat) ?_ ?_
    · refine ⟨0, ?_⟩
      simp only [go_sem, List.take_zero]
      and_intros; all_goals try (first | rfl | omega | assumption | ((repeat (first | exact Fr.rfl' _ _ | assumption | refine Fr.updk ?_ (by omega) _)); done))
    · rintro σ ⟨i, s2, s3, s4, s7, s18, s19, s20, sh, sh', hF, hk, hi⟩
      have hne := ltne hk
      have hb := valL_ok hm (t.us.take i) 0 0 (hf.take i) (by omega) (by simp)
      simp only [Nat.zero_add, List.length_take] at hb
      have hp := pw_le hsz.2.1 hsz.2.2.1 (i := min i t.us.length) (by omega)
      rcases Nat.lt_or_ge i t.us.length with hlt | hge
      · have hz : (i : Int) < (t.us.length : Int) := by omega
        have e1 : (t.us.map tmDV).getD i default = tmDV t.us[i] := nth_map tmDV hlt _
        have hu := List.getElem_mem hlt
        have h1 := ih _ hu (fun x hx => hf x (parts_sub hu x hx)) (fun x hx => his x (parts_sub hu x hx))
        have hb' := valM_ok hm t.us[i] (fun x hx => hf x (parts_sub hu x hx))
        have e2 := valL_take (sz := sz) (tb := tb) (vs := vs) hlt 0
        generalize valL sz tb vs (t.us.take i) 0 = a at *
        have hbd : 0 ≤ a * sz ∧ a * sz ≤ 20000 := by
          have : sz = 1 ∨ sz = 2 ∨ sz = 3 := by omega
          rcases this with h | h | h <;> rw [h] at hb hp ⊢ <;> omega
        repeat' (first | refine awp_seq_k fun K hK => ?_ | ((first | refine awp_region_k (by kernel_rfl) fun R hR => ?_ | refine awp_draw mixed (by kernel_rfl) (by kernel_rfl) fun R hR => ?_); simp only [go_sem, s2, s3, s4, s7, s18, s19, s20, sh, sh', hz, e1, hne, ← e2, Nat.reduceBEq, ite_self, implies_true, Int.toNat_natCast]) | ((first | (refine hR _ ?_; clear hR R) | refine awp_skip ?_ | refine awp_exit ?_ | refine awp_ret ?_); try simp only [thenA, inBlockA, reduceIte, reduceCtorEq, Nat.reduceEqDiff, if_false, if_true]) | ((first | refine hK _ ?_ | (clear hK K; first | refine hK _ ?_ | (clear hK K; first | refine hK _ ?_ | (clear hK K; first | refine hK _ ?_ | (clear hK K; refine hK _ ?_))))); clear hK K) | refine awp_true rfl rfl ?_ | refine awp_false rfl rfl ?_ | refine awp_block ?_ | ((first | refine CallK.look (enter73) (h1) ?_ (by assumption) (by repeat (first | exact Fr.rfl' _ _ | assumption | refine Fr.updk ?_ (by omega) _)) ?_ | refine CallD.look (enter73) (h1) ?_ (by assumption) (by repeat (first | exact Fr.rfl' _ _ | assumption | refine Fr.updk ?_ (by omega) _)) (by first | assumption | exact List.cons_ne_nil _ _) ?_); (focus first | ((repeat (first | exact trivial | refine ⟨(by first | exact Or.inl rfl | exact Or.inr rfl), ?_⟩)); done) | (simp only [coL, AV.dat, true_or, or_true, AV.d.injEq, go_sem]; done)); simp only [go_sem, s2, s3, s4, s7, s18, s19, s20, sh, sh', hz, e1, hne, ← e2, Nat.reduceBEq, ite_self, implies_true, Int.toNat_natCast]) | refine And.intro (by first | ((repeat' first | omega | exact trivial | rfl | assumption | (intro a e; subst e; rfl) | exact map_sz fun a => (by simp only [go_sem]) | refine And.intro ?_ ?_); done) | fail) ?_ | fail)
        refine ⟨⟨i + 1, ?_⟩, ?_⟩
        rotate_left
        · simp only [go_sem, s2, s3, s4, s7, s18, s19, s20, sh, sh', hne]; omega
        simp only [go_sem, s2, s3, s4, s7, s18, s19, s20, sh, sh', hne]
        and_intros; all_goals try (first | rfl | omega | assumption | ((repeat (first | exact Fr.rfl' _ _ | assumption | refine Fr.updk ?_ (by omega) _)); done))
      · have hz : ¬ ((i : Int) < (t.us.length : Int)) := by omega
        obtain rfl : i = t.us.length := by omega
        rw [List.take_length] at s7
        have e1 : (tb.map gI).getD t.f.toNat default = gI tb[t.f.toNat] := nth_map gI a1 _
        have e2 : (tb[t.f.toNat].map iD).getD (valL sz tb vs t.us 0).toNat default = iD tb[t.f.toNat][(valL sz tb vs t.us 0).toNat] := nth_map iD a6 _
        have hz1 : t.f < (tb.length : Int) := by omega
        have hz2 : valL sz tb vs t.us 0 < (tb[t.f.toNat].length : Int) := by omega
        repeat' (first | refine awp_seq_k fun K hK => ?_ | ((first | refine awp_region_k (by kernel_rfl) fun R hR => ?_ | refine awp_draw mixed (by kernel_rfl) (by kernel_rfl) fun R hR => ?_); simp only [go_sem, s3, s4, s7, s19, s20, sh, sh', hz, hz1, hz2, e1, e2, hne]) | ((first | (refine hR _ ?_; clear hR R) | refine awp_skip ?_ | refine awp_exit ?_ | refine awp_ret ?_); try simp only [thenA, inBlockA, reduceIte, reduceCtorEq, Nat.reduceEqDiff, if_false, if_true]) | ((first | refine hK _ ?_ | (clear hK K; first | refine hK _ ?_ | (clear hK K; first | refine hK _ ?_ | (clear hK K; first | refine hK _ ?_ | (clear hK K; refine hK _ ?_))))); clear hK K) | refine awp_true rfl rfl ?_ | refine awp_false rfl rfl ?_ | refine awp_block ?_ | refine And.intro (by first | ((repeat' first | omega | exact trivial | rfl | assumption | (intro a e; subst e; rfl) | exact map_sz fun a => (by simp only [go_sem]) | refine And.intro ?_ ?_); done) | fail) ?_ | fail)
        (first | refine ret_pure ?_ ?_ ?_ | refine ret_ro ?_ ?_ ?_); focus exact (by simp only [Try.results73, resOkL, resOk, Try.ntmps73, List.toList_toArray]; first | decide | (simp only [go_sem]; done) | (simp only [go_sem]; and_intros <;> first | omega | rfl | decide))
        rotate_left; focus exact (by repeat (first | exact Fr.rfl' _ _ | assumption | refine Fr.updk ?_ (by omega) _))
        simp only [resA, resV, Try.results73, go_sem]
        all_goals try (first | exact Co.t2 (.dat rfl) (.dat rfl) | exact Co.t3 (.dat rfl) (.dat rfl) (.dat rfl))
        exact co_i a7.symm
theorem value_tri (f : FuncId) (hfe : enterOk Try.prog f) (caps : List AV) (ro : List (Nm × Ob)) (hrn : ro ≠ []) : ∀ t : Tm, ValSpec g sz tb vs f caps ro t := Tm.ind (value_step hm f hfe caps ro hrn)
end
end Go.Proofs.Ytmeekpinkfpnhaa
