/- Clauses: superposeref.Has, FirstVars, TermsOf, CheckClause, CheckClauses; clause.Terms, clause.Check, text.Right. Clauses checked: text.Right, superposeref.CheckClause, clause.Check, superposeref.CheckClauses; superposeref.FirstVars. superposeref.FirstVars. Models: what is plain. No program in sight. -/
import Derived.Test.YtmeekpinkfpnhaaB05
import Derived.Test.YtmeekpinkfpnhaaB08
import Derived.Test.YtmeekpinkfpnhaaB23
set_option linter.unusedSimpArgs false
set_option linter.unusedSectionVars false
set_option linter.unusedVariables false
set_option linter.unnecessarySimpa false
set_option linter.all false
namespace Go.Proofs.Ytmeekpinkfpnhaa
open Go.RowKit
set_option maxRecDepth 20000 in
theorem has_tri (l : List Int) (hl : l.length ≤ 16777216) (v : Int) : Tri Try.prog 82 [.d (.sl (l.map iD)), iA v] (pure' (bA (l.contains v))) := by
  refine tri_enter Try.func82 rfl Try.ntmps82 (by simp only [List.length_cons, List.length_nil]; omega) fun w0 h0 k hrd hwr => ?_
  repeat' (first | refine awp_seq_k fun K hK => ?_ | ((first | refine awp_region_k (by kernel_rfl) fun R hR => ?_ | refine awp_draw mixed (by kernel_rfl) (by kernel_rfl) fun R hR => ?_); simp only [go_sem]) | ((first | (refine hR _ ?_; clear hR R) | refine awp_skip ?_ | refine awp_exit ?_ | refine awp_ret ?_); try simp only [thenA, inBlockA, reduceIte, reduceCtorEq, Nat.reduceEqDiff, if_false, if_true]) | ((first | refine hK _ ?_ | (clear hK K; first | refine hK _ ?_ | (clear hK K; first | refine hK _ ?_ | (clear hK K; first | refine hK _ ?_ | (clear hK K; refine hK _ ?_))))); clear hK K) | refine awp_true rfl rfl ?_ | refine awp_false rfl rfl ?_ | refine awp_block ?_ | refine And.intro (by first | ((repeat' first | omega | exact trivial | rfl | assumption | (intro a e; subst e; rfl) | exact map_sz fun a => (by simp only [go_sem]) | refine And.intro ?_ ?_); done) | fail) ?_ | fail)
  refine awp_loop (fun σ => ∃ i : Nat, σ.t 0 = .d (.sl (l.map iD)) ∧ σ.t 1 = iA v ∧ σ.t 5 = iA i ∧ σ.h = h0 ∧ i ≤ l.length ∧ (l.drop i).contains v = l.contains v) (fun σ => l.length - (intOf' (σ.t 5)).toNat) ?_ ?_
  · refine ⟨0, ?_⟩
    simp only [go_sem, List.drop_zero]
    and_intros; all_goals try (first | rfl | omega | assumption | ((repeat (first | exact Fr.rfl' _ _ | assumption | refine Fr.updk ?_ (by omega) _)); done))
  · rintro σ ⟨i, s0, s1, s5, sh, hi, hv⟩
    have hfr : Fr k h0 σ.h := by rw [sh]; exact Fr.rfl' _ _
    rcases Nat.lt_or_ge i l.length with hlt | hge
    · have hz : (i : Int) < (l.length : Int) := by omega
      have e1 : (l.map iD).getD i default = iD l[i] := nth_map iD hlt _
      have e2 : (l.drop i).contains v = (v == l[i] || (l.drop (i + 1)).contains v) := by rw [List.drop_eq_getElem_cons hlt, List.contains_cons]
      rw [e2] at hv
      have e3 : (v == l[i]) = (l[i] == v) := by rw [Bool.eq_iff_iff, beq_iff_eq, beq_iff_eq]; exact eq_comm
      rw [e3] at hv
      cases hc : l[i] == v with
      | true =>
        rw [hc] at hv
        repeat' (first | refine awp_seq_k fun K hK => ?_ | ((first | refine awp_region_k (by kernel_rfl) fun R hR => ?_ | refine awp_draw mixed (by kernel_rfl) (by kernel_rfl) fun R hR => ?_); simp only [go_sem, s0, s1, s5, hz, e1, hc, Int.toNat_natCast]) | ((first | (refine hR _ ?_; clear hR R) | refine awp_skip ?_ | refine awp_exit ?_ | refine awp_ret ?_); try simp only [thenA, inBlockA, reduceIte, reduceCtorEq, Nat.reduceEqDiff, if_false, if_true]) | ((first | refine hK _ ?_ | (clear hK K; first | refine hK _ ?_ | (clear hK K; first | refine hK _ ?_ | (clear hK K; first | refine hK _ ?_ | (clear hK K; refine hK _ ?_))))); clear hK K) | refine awp_true rfl rfl ?_ | refine awp_false rfl rfl ?_ | refine awp_block ?_ | refine And.intro (by first | ((repeat' first | omega | exact trivial | rfl | assumption | (intro a e; subst e; rfl) | exact map_sz fun a => (by simp only [go_sem]) | refine And.intro ?_ ?_); done) | fail) ?_ | fail)
        (first | refine ret_pure ?_ ?_ ?_ | refine ret_ro ?_ ?_ ?_); focus exact (by simp only [Try.results82, resOkL, resOk, Try.ntmps82, List.toList_toArray]; first | decide | (simp only [go_sem]; done) | (simp only [go_sem]; and_intros <;> first | omega | rfl | decide))
        rotate_left; focus exact (by repeat (first | exact Fr.rfl' _ _ | assumption | refine Fr.updk ?_ (by omega) _))
        simp only [resA, resV, Try.results82, go_sem]
        all_goals try (first | exact Co.t2 (.dat rfl) (.dat rfl) | exact Co.t3 (.dat rfl) (.dat rfl) (.dat rfl))
        exact co_b (by rw [← hv]; rfl)
      | false =>
        rw [hc] at hv
        repeat' (first | refine awp_seq_k fun K hK => ?_ | ((first | refine awp_region_k (by kernel_rfl) fun R hR => ?_ | refine awp_draw mixed (by kernel_rfl) (by kernel_rfl) fun R hR => ?_); simp only [go_sem, s0, s1, s5, hz, e1, hc, Int.toNat_natCast]) | ((first | (refine hR _ ?_; clear hR R) | refine awp_skip ?_ | refine awp_exit ?_ | refine awp_ret ?_); try simp only [thenA, inBlockA, reduceIte, reduceCtorEq, Nat.reduceEqDiff, if_false, if_true]) | ((first | refine hK _ ?_ | (clear hK K; first | refine hK _ ?_ | (clear hK K; first | refine hK _ ?_ | (clear hK K; first | refine hK _ ?_ | (clear hK K; refine hK _ ?_))))); clear hK K) | refine awp_true rfl rfl ?_ | refine awp_false rfl rfl ?_ | refine awp_block ?_ | refine And.intro (by first | ((repeat' first | omega | exact trivial | rfl | assumption | (intro a e; subst e; rfl) | exact map_sz fun a => (by simp only [go_sem]) | refine And.intro ?_ ?_); done) | fail) ?_ | fail)
        refine ⟨⟨i + 1, ?_⟩, ?_⟩
        rotate_left
        · simp only [go_sem, s0, s1, s5, sh]; omega
        simp only [go_sem, s0, s1, s5, sh]
        and_intros; all_goals try (first | rfl | omega | assumption | ((repeat (first | exact Fr.rfl' _ _ | assumption | refine Fr.updk ?_ (by omega) _)); done))
        all_goals (rw [← hv]; rfl)
    · have hz : ¬ ((i : Int) < (l.length : Int)) := by omega
      rw [List.drop_eq_nil_of_le hge] at hv
      repeat' (first | refine awp_seq_k fun K hK => ?_ | ((first | refine awp_region_k (by kernel_rfl) fun R hR => ?_ | refine awp_draw mixed (by kernel_rfl) (by kernel_rfl) fun R hR => ?_); simp only [go_sem, s0, s1, s5, hz]) | ((first | (refine hR _ ?_; clear hR R) | refine awp_skip ?_ | refine awp_exit ?_ | refine awp_ret ?_); try simp only [thenA, inBlockA, reduceIte, reduceCtorEq, Nat.reduceEqDiff, if_false, if_true]) | ((first | refine hK _ ?_ | (clear hK K; first | refine hK _ ?_ | (clear hK K; first | refine hK _ ?_ | (clear hK K; first | refine hK _ ?_ | (clear hK K; refine hK _ ?_))))); clear hK K) | refine awp_true rfl rfl ?_ | refine awp_false rfl rfl ?_ | refine awp_block ?_ | refine And.intro (by first | ((repeat' first | omega | exact trivial | rfl | assumption | (intro a e; subst e; rfl) | exact map_sz fun a => (by simp only [go_sem]) | refine And.intro ?_ ?_); done) | fail) ?_ | fail)
      (first | refine ret_pure ?_ ?_ ?_ | refine ret_ro ?_ ?_ ?_); focus exact (by simp only [Try.results82, resOkL, resOk, Try.ntmps82, List.toList_toArray]; first | decide | (simp only [go_sem]; done) | (simp only [go_sem]; and_intros <;> first | omega | rfl | decide))
      rotate_left; focus exact (by repeat (first | exact Fr.rfl' _ _ | assumption | refine Fr.updk ?_ (by omega) _))
      simp only [resA, resV, Try.results82, go_sem]
      all_goals try (first | exact Co.t2 (.dat rfl) (.dat rfl) | exact Co.t3 (.dat rfl) (.dat rfl) (.dat rfl))
      all_goals exact co_b (by rw [← hv]; rfl)
theorem termsOf_take {c : List Lt} {i : Nat} (hi : i < c.length) : termsOf (c.take (i + 1)) = termsOf (c.take i) ++ [c[i].a, c[i].b] := by
  rw [List.take_succ_eq_append_getElem hi, termsOf, List.flatMap_append]; rfl
theorem termsOf_len (c : List Lt) : (termsOf c).length = 2 * c.length := by
  induction c with
  | nil => rfl
  | cons x c ih => simp only [termsOf, List.flatMap_cons, List.length_append, List.length_cons, List.length_nil] at ih ⊢; omega
set_option maxRecDepth 20000 in
theorem terms_new (c : List Lt) (hc : c.length ≤ 4000000) (n' : Nm) : Tri Try.prog 75 [.d (clDV c)] (newEff 27 n' ((termsOf c).map tmDV)) := by
  refine tri_enter Try.func75 rfl Try.ntmps75 (by simp only [List.length_cons, List.length_nil]; omega) fun w0 h0 k hrd hwr => ?_
  have hn' : n'.1 < k := hwr _ (List.mem_cons_self ..)
  have h0' : h0 n' = none := hrd _ (List.mem_cons_self ..)
  repeat' (first | refine awp_ghost (ghost_nil (i := 3) (e := 27) rfl) ?_ | refine awp_seq_k fun K hK => ?_ | ((first | refine awp_region_k (by kernel_rfl) fun R hR => ?_ | refine awp_draw mixed (by kernel_rfl) (by kernel_rfl) fun R hR => ?_); simp only [go_sem]) | ((first | (refine hR _ ?_; clear hR R) | refine awp_skip ?_ | refine awp_exit ?_ | refine awp_ret ?_); try simp only [thenA, inBlockA, reduceIte, reduceCtorEq, Nat.reduceEqDiff, if_false, if_true]) | ((first | refine hK _ ?_ | (clear hK K; first | refine hK _ ?_ | (clear hK K; first | refine hK _ ?_ | (clear hK K; first | refine hK _ ?_ | (clear hK K; refine hK _ ?_))))); clear hK K) | refine awp_true rfl rfl ?_ | refine awp_false rfl rfl ?_ | refine awp_block ?_ | refine And.intro (by first | ((repeat' first | omega | exact trivial | rfl | assumption | (intro a e; subst e; rfl) | exact map_sz fun a => (by simp only [go_sem]) | refine And.intro ?_ ?_); done) | fail) ?_ | fail)
  refine awp_loop (fun σ => ∃ i : Nat, σ.t 3 = .own (k + 1 + 1, 0) ((termsOf (c.take i)).map tmDV) ∧ σ.t 6 = .d (clDV c) ∧ σ.t 7 = iA c.length ∧ σ.t 8 = iA i ∧ σ.h (k + 1 + 1, 0) = some (.perm 27 (termsOf (c.take i)).length) ∧ Fr k h0 σ.h ∧ k + 1 + 1 + 1 ≤ σ.k ∧ i ≤ c.length) (fun σ => c.length - (intOf' (σ.t 8)).toNat) ?_ ?_
  · refine ⟨0, ?_⟩
    simp only [go_sem, List.take_zero]
    and_intros; all_goals try (first | rfl | omega | assumption | ((repeat (first | exact Fr.rfl' _ _ | assumption | refine Fr.updk ?_ (by omega) _)); done))
  · rintro σ ⟨i, s3, s6, s7, s8, sh, hF, hk, hi⟩
    have ht := termsOf_len (c.take i)
    rw [List.length_take] at ht
    have hne := ltne (show k + 1 + 1 < σ.k by omega)
    rcases Nat.lt_or_ge i c.length with hlt | hge
    · have hz : (i : Int) < (c.length : Int) := by omega
      have e1 : (c.map ltDV).getD i default = ltDV c[i] := nth_map ltDV hlt _
      have htk : (termsOf (c.take i)).map tmDV ++ [tmDV c[i].a, tmDV c[i].b] = (termsOf (c.take (i + 1))).map tmDV := by rw [termsOf_take hlt]; simp
      repeat' (first | refine awp_seq_k fun K hK => ?_ | ((first | refine awp_region_k (by kernel_rfl) fun R hR => ?_ | refine awp_draw mixed (by kernel_rfl) (by kernel_rfl) fun R hR => ?_); simp only [go_sem, s3, s6, s7, s8, sh, hz, e1, hne, List.length_map, Int.toNat_natCast]) | ((first | (refine hR _ ?_; clear hR R) | refine awp_skip ?_ | refine awp_exit ?_ | refine awp_ret ?_); try simp only [thenA, inBlockA, reduceIte, reduceCtorEq, Nat.reduceEqDiff, if_false, if_true]) | ((first | refine hK _ ?_ | (clear hK K; first | refine hK _ ?_ | (clear hK K; first | refine hK _ ?_ | (clear hK K; first | refine hK _ ?_ | (clear hK K; refine hK _ ?_))))); clear hK K) | refine awp_true rfl rfl ?_ | refine awp_false rfl rfl ?_ | refine awp_block ?_ | refine And.intro (by first | ((repeat' first | omega | exact trivial | rfl | assumption | (intro a e; subst e; rfl) | exact map_sz fun a => (by simp only [go_sem]) | refine And.intro ?_ ?_); done) | fail) ?_ | fail)
      refine ⟨⟨i + 1, ?_⟩, ?_⟩
      rotate_left
      · simp only [go_sem, s3, s6, s7, s8, sh, hne, htk, List.length_map]; omega
      simp only [go_sem, s3, s6, s7, s8, sh, hne, htk, List.length_map]
      and_intros; all_goals try (first | rfl | omega | assumption | ((repeat (first | exact Fr.rfl' _ _ | assumption | refine Fr.updk ?_ (by omega) _)); done))
    · have hz : ¬ ((i : Int) < (c.length : Int)) := by omega
      obtain rfl : i = c.length := by omega
      rw [List.take_length] at s3 sh
      repeat' (first | refine awp_seq_k fun K hK => ?_ | ((first | refine awp_region_k (by kernel_rfl) fun R hR => ?_ | refine awp_draw mixed (by kernel_rfl) (by kernel_rfl) fun R hR => ?_); simp only [go_sem, s3, s7, s8, sh, hz, hne]) | ((first | (refine hR _ ?_; clear hR R) | refine awp_skip ?_ | refine awp_exit ?_ | refine awp_ret ?_); try simp only [thenA, inBlockA, reduceIte, reduceCtorEq, Nat.reduceEqDiff, if_false, if_true]) | ((first | refine hK _ ?_ | (clear hK K; first | refine hK _ ?_ | (clear hK K; first | refine hK _ ?_ | (clear hK K; first | refine hK _ ?_ | (clear hK K; refine hK _ ?_))))); clear hK K) | refine awp_true rfl rfl ?_ | refine awp_false rfl rfl ?_ | refine awp_block ?_ | refine And.intro (by first | ((repeat' first | omega | exact trivial | rfl | assumption | (intro a e; subst e; rfl) | exact map_sz fun a => (by simp only [go_sem]) | refine And.intro ?_ ?_); done) | fail) ?_ | fail)
      refine ret_new (by simp only [Try.results75, resOkL, resOk, Try.ntmps75, List.toList_toArray]; first | decide | (simp only [go_sem, hne, sh]; done) | (simp only [go_sem, hne, sh]; and_intros <;> first | omega | rfl | decide)) (by simp only [resA, resV, Try.results75, go_sem, hne, sh]; try rfl) ?_ hn' h0' ?_ (by repeat (first | exact Fr.rfl' _ _ | assumption | refine Fr.updk ?_ (by omega) _)) <;> simp only [go_sem, List.length_map, hne, sh] <;> first | rfl | omega
theorem terms_tri (c : List Lt) (hc : c.length ≤ 4000000) : Tri Try.prog 75 [.d (clDV c)] (pure' (.d (.sl ((termsOf c).map tmDV)))) := Tri.data fun n' => terms_new c hc n'
set_option maxRecDepth 20000 in
theorem termsOf_new (c : List Lt) (hc : c.length ≤ 4000000) (n' : Nm) : Tri Try.prog 25 [.d (clDV c)] (newEff 27 n' ((termsOf c).map tmDV)) := by
  refine tri_enter Try.func25 rfl Try.ntmps25 (by simp only [List.length_cons, List.length_nil]; omega) fun w0 h0 k hrd hwr => ?_
  have hn' : n'.1 < k := hwr _ (List.mem_cons_self ..)
  have h0' : h0 n' = none := hrd _ (List.mem_cons_self ..)
  repeat' (first | refine awp_ghost (ghost_nil (i := 3) (e := 27) rfl) ?_ | refine awp_seq_k fun K hK => ?_ | ((first | refine awp_region_k (by kernel_rfl) fun R hR => ?_ | refine awp_draw mixed (by kernel_rfl) (by kernel_rfl) fun R hR => ?_); simp only [go_sem]) | ((first | (refine hR _ ?_; clear hR R) | refine awp_skip ?_ | refine awp_exit ?_ | refine awp_ret ?_); try simp only [thenA, inBlockA, reduceIte, reduceCtorEq, Nat.reduceEqDiff, if_false, if_true]) | ((first | refine hK _ ?_ | (clear hK K; first | refine hK _ ?_ | (clear hK K; first | refine hK _ ?_ | (clear hK K; first | refine hK _ ?_ | (clear hK K; refine hK _ ?_))))); clear hK K) | refine awp_true rfl rfl ?_ | refine awp_false rfl rfl ?_ | refine awp_block ?_ | refine And.intro (by first | ((repeat' first | omega | exact trivial | rfl | assumption | (intro a e; subst e; rfl) | exact map_sz fun a => (by simp only [go_sem]) | refine And.intro ?_ ?_); done) | fail) ?_ | fail)
  refine awp_loop (fun σ => ∃ i : Nat, σ.t 3 = .own (k + 1 + 1, 0) ((termsOf (c.take i)).map tmDV) ∧ σ.t 0 = .d (clDV c) ∧ σ.t 4 = iA i ∧ σ.h (k + 1 + 1, 0) = some (.perm 27 (termsOf (c.take i)).length) ∧ Fr k h0 σ.h ∧ k + 1 + 1 + 1 ≤ σ.k ∧ i ≤ c.length) (fun σ => c.length - (intOf' (σ.t 4)).toNat) ?_ ?_
  · refine ⟨0, ?_⟩
    simp only [go_sem, List.take_zero]
    and_intros; all_goals try (first | rfl | omega | assumption | ((repeat (first | exact Fr.rfl' _ _ | assumption | refine Fr.updk ?_ (by omega) _)); done))
  · rintro σ ⟨i, s3, s0, s4, sh, hF, hk, hi⟩
    have ht := termsOf_len (c.take i)
    rw [List.length_take] at ht
    have hne := ltne (show k + 1 + 1 < σ.k by omega)
    rcases Nat.lt_or_ge i c.length with hlt | hge
    · have hz : (i : Int) < (c.length : Int) := by omega
      have e1 : (c.map ltDV).getD i default = ltDV c[i] := nth_map ltDV hlt _
      have htk : (termsOf (c.take i)).map tmDV ++ [tmDV c[i].a, tmDV c[i].b] = (termsOf (c.take (i + 1))).map tmDV := by rw [termsOf_take hlt]; simp
      repeat' (first | refine awp_seq_k fun K hK => ?_ | ((first | refine awp_region_k (by kernel_rfl) fun R hR => ?_ | refine awp_draw mixed (by kernel_rfl) (by kernel_rfl) fun R hR => ?_); simp only [go_sem, s3, s0, s4, sh, hz, e1, hne, List.length_map, Int.toNat_natCast]) | ((first | (refine hR _ ?_; clear hR R) | refine awp_skip ?_ | refine awp_exit ?_ | refine awp_ret ?_); try simp only [thenA, inBlockA, reduceIte, reduceCtorEq, Nat.reduceEqDiff, if_false, if_true]) | ((first | refine hK _ ?_ | (clear hK K; first | refine hK _ ?_ | (clear hK K; first | refine hK _ ?_ | (clear hK K; first | refine hK _ ?_ | (clear hK K; refine hK _ ?_))))); clear hK K) | refine awp_true rfl rfl ?_ | refine awp_false rfl rfl ?_ | refine awp_block ?_ | refine And.intro (by first | ((repeat' first | omega | exact trivial | rfl | assumption | (intro a e; subst e; rfl) | exact map_sz fun a => (by simp only [go_sem]) | refine And.intro ?_ ?_); done) | fail) ?_ | fail)
      refine ⟨⟨i + 1, ?_⟩, ?_⟩
      rotate_left
      · simp only [go_sem, s3, s0, s4, sh, hne, htk, List.length_map]; omega
      simp only [go_sem, s3, s0, s4, sh, hne, htk, List.length_map]
      and_intros; all_goals try (first | rfl | omega | assumption | ((repeat (first | exact Fr.rfl' _ _ | assumption | refine Fr.updk ?_ (by omega) _)); done))
    · have hz : ¬ ((i : Int) < (c.length : Int)) := by omega
      obtain rfl : i = c.length := by omega
      rw [List.take_length] at s3 sh
      repeat' (first | refine awp_seq_k fun K hK => ?_ | ((first | refine awp_region_k (by kernel_rfl) fun R hR => ?_ | refine awp_draw mixed (by kernel_rfl) (by kernel_rfl) fun R hR => ?_); simp only [go_sem, s3, s0, s4, sh, hz, hne]) | ((first | (refine hR _ ?_; clear hR R) | refine awp_skip ?_ | refine awp_exit ?_ | refine awp_ret ?_); try simp only [thenA, inBlockA, reduceIte, reduceCtorEq, Nat.reduceEqDiff, if_false, if_true]) | ((first | refine hK _ ?_ | (clear hK K; first | refine hK _ ?_ | (clear hK K; first | refine hK _ ?_ | (clear hK K; first | refine hK _ ?_ | (clear hK K; refine hK _ ?_))))); clear hK K) | refine awp_true rfl rfl ?_ | refine awp_false rfl rfl ?_ | refine awp_block ?_ | refine And.intro (by first | ((repeat' first | omega | exact trivial | rfl | assumption | (intro a e; subst e; rfl) | exact map_sz fun a => (by simp only [go_sem]) | refine And.intro ?_ ?_); done) | fail) ?_ | fail)
      refine ret_new (by simp only [Try.results25, resOkL, resOk, Try.ntmps25, List.toList_toArray]; first | decide | (simp only [go_sem, hne, sh]; done) | (simp only [go_sem, hne, sh]; and_intros <;> first | omega | rfl | decide)) (by simp only [resA, resV, Try.results25, go_sem, hne, sh]; try rfl) ?_ hn' h0' ?_ (by repeat (first | exact Fr.rfl' _ _ | assumption | refine Fr.updk ?_ (by omega) _)) <;> simp only [go_sem, List.length_map, hne, sh] <;> first | rfl | omega
theorem termsOf_tri (c : List Lt) (hc : c.length ≤ 4000000) : Tri Try.prog 25 [.d (clDV c)] (pure' (.d (.sl ((termsOf c).map tmDV)))) := Tri.data fun n' => termsOf_new c hc n'
end Go.Proofs.Ytmeekpinkfpnhaa
namespace Go.Proofs.Ytmeekpinkfpnhaa
open Go.RowKit
theorem litL_at {g : List Int} {c : List Lt} {i : Nat} (hi : i < c.length) : litL g (c.drop i) = if own g c[i].a ≠ 0 then own g c[i].a else if own g c[i].b ≠ 0 then own g c[i].b else litL g (c.drop (i + 1)) := by
  rw [List.drop_eq_getElem_cons hi, litL]
set_option maxRecDepth 20000 in
theorem right_tri (g : List Int) (c : List Lt) (hc : c.length ≤ 4000000) : Tri Try.prog 95 [.d (sgDV g), .d (clDV c)] (pure' (iA (clOk g c))) := by
  refine tri_enter Try.func95 rfl Try.ntmps95 (by simp only [List.length_cons, List.length_nil]; omega) fun w0 h0 k hrd hwr => ?_
  unfold clOk
  cases h8 : decide ((c.length : Int) > 8) with
  | true =>
    have h8' : c.length > 8 := by simp at h8; omega
    rw [if_pos h8']
    repeat' (first | refine awp_seq_k fun K hK => ?_ | ((first | refine awp_region_k (by kernel_rfl) fun R hR => ?_ | refine awp_draw mixed (by kernel_rfl) (by kernel_rfl) fun R hR => ?_); simp only [go_sem, h8]) | ((first | (refine hR _ ?_; clear hR R) | refine awp_skip ?_ | refine awp_exit ?_ | refine awp_ret ?_); try simp only [thenA, inBlockA, reduceIte, reduceCtorEq, Nat.reduceEqDiff, if_false, if_true]) | ((first | refine hK _ ?_ | (clear hK K; first | refine hK _ ?_ | (clear hK K; first | refine hK _ ?_ | (clear hK K; first | refine hK _ ?_ | (clear hK K; refine hK _ ?_))))); clear hK K) | refine awp_true rfl rfl ?_ | refine awp_false rfl rfl ?_ | refine awp_block ?_ | refine And.intro (by first | ((repeat' first | omega | exact trivial | rfl | assumption | (intro a e; subst e; rfl) | exact map_sz fun a => (by simp only [go_sem]) | refine And.intro ?_ ?_); done) | fail) ?_ | fail)
    (first | refine ret_pure ?_ ?_ ?_ | refine ret_ro ?_ ?_ ?_); focus exact (by simp only [Try.results95, resOkL, resOk, Try.ntmps95, List.toList_toArray]; first | decide | (simp only [go_sem]; done) | (simp only [go_sem]; and_intros <;> first | omega | rfl | decide))
    rotate_left; focus exact (by repeat (first | exact Fr.rfl' _ _ | assumption | refine Fr.updk ?_ (by omega) _))
    simp only [resA, resV, Try.results95, go_sem]
    all_goals try (first | exact Co.t2 (.dat rfl) (.dat rfl) | exact Co.t3 (.dat rfl) (.dat rfl) (.dat rfl))
    exact .dat rfl
  | false =>
    have h8' : ¬ c.length > 8 := by simp at h8; omega
    rw [if_neg h8']
    repeat' (first | refine awp_seq_k fun K hK => ?_ | ((first | refine awp_region_k (by kernel_rfl) fun R hR => ?_ | refine awp_draw mixed (by kernel_rfl) (by kernel_rfl) fun R hR => ?_); simp only [go_sem, h8]) | ((first | (refine hR _ ?_; clear hR R) | refine awp_skip ?_ | refine awp_exit ?_ | refine awp_ret ?_); try simp only [thenA, inBlockA, reduceIte, reduceCtorEq, Nat.reduceEqDiff, if_false, if_true]) | ((first | refine hK _ ?_ | (clear hK K; first | refine hK _ ?_ | (clear hK K; first | refine hK _ ?_ | (clear hK K; first | refine hK _ ?_ | (clear hK K; refine hK _ ?_))))); clear hK K) | refine awp_true rfl rfl ?_ | refine awp_false rfl rfl ?_ | refine awp_block ?_ | refine And.intro (by first | ((repeat' first | omega | exact trivial | rfl | assumption | (intro a e; subst e; rfl) | exact map_sz fun a => (by simp only [go_sem]) | refine And.intro ?_ ?_); done) | fail) ?_ | fail)
    refine awp_loop (fun σ => ∃ i : Nat, σ.t 2 = .ptr (k, 0) 0 ∧ σ.t 13 = .d (clDV c) ∧ σ.t 14 = iA c.length ∧ σ.t 15 = iA i ∧ σ.h (k, 0) = some (.cells 24 [.d (.sl (g.map iD))]) ∧ Fr k h0 σ.h ∧ k < σ.k ∧ i ≤ c.length ∧ litL g (c.drop i) = litL g c) (fun σ => c.length - (intOf' (σ.t 15)).toNat) ?_ ?_
    · refine ⟨0, ?_⟩
      simp only [go_sem, List.drop_zero]
      and_intros; all_goals try (first | rfl | omega | assumption | ((repeat (first | exact Fr.rfl' _ _ | assumption | refine Fr.updk ?_ (by omega) _)); done))
    · rintro σ ⟨i, s2, s13, s14, s15, sh, hF, hk, hi, hv⟩
      have hne := ltne hk
      rcases Nat.lt_or_ge i c.length with hlt | hge
      · have hz : (i : Int) < (c.length : Int) := by omega
        have e1 : (c.map ltDV).getD i default = ltDV c[i] := nth_map ltDV hlt _
        rw [litL_at hlt] at hv
        repeat' (first | refine awp_seq_k fun K hK => ?_ | ((first | refine awp_region_k (by kernel_rfl) fun R hR => ?_ | refine awp_draw mixed (by kernel_rfl) (by kernel_rfl) fun R hR => ?_); simp only [go_sem, s2, s13, s14, s15, sh, hz, e1, hne, Int.toNat_natCast]) | ((first | (refine hR _ ?_; clear hR R) | refine awp_skip ?_ | refine awp_exit ?_ | refine awp_ret ?_); try simp only [thenA, inBlockA, reduceIte, reduceCtorEq, Nat.reduceEqDiff, if_false, if_true]) | ((first | refine hK _ ?_ | (clear hK K; first | refine hK _ ?_ | (clear hK K; first | refine hK _ ?_ | (clear hK K; first | refine hK _ ?_ | (clear hK K; refine hK _ ?_))))); clear hK K) | refine awp_true rfl rfl ?_ | refine awp_false rfl rfl ?_ | refine awp_block ?_ | refine And.intro (by first | ((repeat' first | omega | exact trivial | rfl | assumption | (intro a e; subst e; rfl) | exact map_sz fun a => (by simp only [go_sem]) | refine And.intro ?_ ?_); done) | fail) ?_ | fail)
        refine awp_loop (fun τ => ∃ j : Nat, τ.t 2 = .ptr (k, 0) 0 ∧ τ.t 13 = .d (clDV c) ∧ τ.t 14 = iA c.length ∧ τ.t 15 = iA i ∧ τ.t 23 = .own (σ.k + 1 + 1, 4) ([c[i].a, c[i].b].map tmDV) ∧ τ.t 24 = iA 2 ∧ τ.t 25 = iA j ∧ τ.h (k, 0) = some (.cells 24 [.d (.sl (g.map iD))]) ∧ Fr k h0 τ.h ∧ k < τ.k ∧ j ≤ 2 ∧ ownL g ([c[i].a, c[i].b].drop j) = ownL g [c[i].a, c[i].b]) (fun τ => 2 - (intOf' (τ.t 25)).toNat) ?_ ?_
        · refine ⟨0, ?_⟩
          simp only [go_sem, List.drop_zero, s2, s13, s14, s15, sh, hne]
          and_intros; all_goals try (first | rfl | omega | assumption | ((repeat (first | exact Fr.rfl' _ _ | assumption | refine Fr.updk ?_ (by omega) _)); done))
        · rintro τ ⟨j, u2, u13, u14, u15, u23, u24, u25, uh, uF, uk, uj, uv⟩
          have hne' := ltne uk
          rcases Nat.lt_or_ge j 2 with hlt' | hge'
          · have hz' : (j : Int) < 2 := by omega
            have hj : j < [c[i].a, c[i].b].length := hlt'
            have e2 : ([c[i].a, c[i].b].map tmDV).getD j default = tmDV [c[i].a, c[i].b][j] := nth_map tmDV hj _
            have e3 : ([c[i].a, c[i].b].map tmDV).length = 2 := rfl
            rw [List.drop_eq_getElem_cons hj, ownL] at uv
            generalize hel : [c[i].a, c[i].b].map tmDV = el at *
            cases ha : own g [c[i].a, c[i].b][j] == 0 with
            | true =>
              have ha' : own g [c[i].a, c[i].b][j] = 0 := by simpa using ha
              rw [if_neg (by simp [ha'])] at uv
              repeat' (first | refine awp_seq_k fun K hK => ?_ | ((first | refine awp_region_k (by kernel_rfl) fun R hR => ?_ | refine awp_draw mixed (by kernel_rfl) (by kernel_rfl) fun R hR => ?_); simp only [go_sem, u2, u23, u24, u25, uh, hz', e2, e3, hne', ha', bne_self_eq_false, Int.toNat_natCast]) | ((first | (refine hR _ ?_; clear hR R) | refine awp_skip ?_ | refine awp_exit ?_ | refine awp_ret ?_); try simp only [thenA, inBlockA, reduceIte, reduceCtorEq, Nat.reduceEqDiff, if_false, if_true]) | ((first | refine hK _ ?_ | (clear hK K; first | refine hK _ ?_ | (clear hK K; first | refine hK _ ?_ | (clear hK K; first | refine hK _ ?_ | (clear hK K; refine hK _ ?_))))); clear hK K) | refine awp_true rfl rfl ?_ | refine awp_false rfl rfl ?_ | refine awp_block ?_ | ((first | refine CallK.pure (enter68) (own_tri g [c[i].a, c[i].b][j]) ?_ ?_ | refine CallD.pure (enter68) (own_tri g [c[i].a, c[i].b][j]) ?_ ?_); (focus first | ((repeat (first | exact trivial | refine ⟨(by first | exact Or.inl rfl | exact Or.inr rfl), ?_⟩)); done) | (simp only [coL, AV.dat, true_or, or_true, AV.d.injEq, go_sem]; done)); simp only [go_sem, u2, u23, u24, u25, uh, hz', e2, e3, hne', ha', bne_self_eq_false, Int.toNat_natCast]) | refine And.intro (by first | ((repeat' first | omega | exact trivial | rfl | assumption | (intro a e; subst e; rfl) | exact map_sz fun a => (by simp only [go_sem]) | refine And.intro ?_ ?_); done) | fail) ?_ | fail)
              refine ⟨⟨j + 1, ?_⟩, ?_⟩
              rotate_left
              · simp only [go_sem, u2, u13, u14, u15, u23, u24, u25, uh, hne']; omega
              simp only [go_sem, u2, u13, u14, u15, u23, u24, u25, uh, hne']
              and_intros; all_goals try (first | rfl | omega | assumption | ((repeat (first | exact Fr.rfl' _ _ | assumption | refine Fr.updk ?_ (by omega) _)); done))
            | false =>
              have ha' : (own g [c[i].a, c[i].b][j] != 0) = true := by simpa using ha
              have ha2 : own g [c[i].a, c[i].b][j] ≠ 0 := by simpa using ha
              rw [if_pos ha2] at uv
              have hv' : own g [c[i].a, c[i].b][j] = litL g c := by
                rw [uv, ← hv, ownL, ownL, ownL]
                by_cases h1 : own g c[i].a = 0
                · by_cases h2 : own g c[i].b = 0
                  · rw [ownL, ownL, ownL] at uv
                    simp [h1, h2] at uv
                    exact absurd uv ha2
                  · simp [h1, h2]
                · simp [h1]
              repeat' (first | refine awp_seq_k fun K hK => ?_ | ((first | refine awp_region_k (by kernel_rfl) fun R hR => ?_ | refine awp_draw mixed (by kernel_rfl) (by kernel_rfl) fun R hR => ?_); simp only [go_sem, u2, u23, u24, u25, uh, hz', e2, e3, hne', ha', Int.toNat_natCast]) | ((first | (refine hR _ ?_; clear hR R) | refine awp_skip ?_ | refine awp_exit ?_ | refine awp_ret ?_); try simp only [thenA, inBlockA, reduceIte, reduceCtorEq, Nat.reduceEqDiff, if_false, if_true]) | ((first | refine hK _ ?_ | (clear hK K; first | refine hK _ ?_ | (clear hK K; first | refine hK _ ?_ | (clear hK K; first | refine hK _ ?_ | (clear hK K; refine hK _ ?_))))); clear hK K) | refine awp_true rfl rfl ?_ | refine awp_false rfl rfl ?_ | refine awp_block ?_ | ((first | refine CallK.pure (enter68) (own_tri g [c[i].a, c[i].b][j]) ?_ ?_ | refine CallD.pure (enter68) (own_tri g [c[i].a, c[i].b][j]) ?_ ?_); (focus first | ((repeat (first | exact trivial | refine ⟨(by first | exact Or.inl rfl | exact Or.inr rfl), ?_⟩)); done) | (simp only [coL, AV.dat, true_or, or_true, AV.d.injEq, go_sem]; done)); simp only [go_sem, u2, u23, u24, u25, uh, hz', e2, e3, hne', ha', Int.toNat_natCast]) | refine And.intro (by first | ((repeat' first | omega | exact trivial | rfl | assumption | (intro a e; subst e; rfl) | exact map_sz fun a => (by simp only [go_sem]) | refine And.intro ?_ ?_); done) | fail) ?_ | fail)
              (first | refine ret_pure ?_ ?_ ?_ | refine ret_ro ?_ ?_ ?_); focus exact (by simp only [Try.results95, resOkL, resOk, Try.ntmps95, List.toList_toArray]; first | decide | (simp only [go_sem]; done) | (simp only [go_sem]; and_intros <;> first | omega | rfl | decide))
              rotate_left; focus exact (by repeat (first | exact Fr.rfl' _ _ | assumption | refine Fr.updk ?_ (by omega) _))
              simp only [resA, resV, Try.results95, go_sem]
              all_goals try (first | exact Co.t2 (.dat rfl) (.dat rfl) | exact Co.t3 (.dat rfl) (.dat rfl) (.dat rfl))
              exact co_i hv'
          · have hz' : ¬ ((j : Int) < 2) := by omega
            obtain rfl : j = 2 := by omega
            have hv' : litL g (c.drop (i + 1)) = litL g c := by
              rw [← hv]
              simp only [ownL, List.drop] at uv
              by_cases h1 : own g c[i].a = 0
              · by_cases h2 : own g c[i].b = 0
                · simp [h1, h2]
                · simp [h1, h2] at uv
                  exact absurd uv.symm h2
              · simp [h1] at uv
                exact absurd uv.symm h1
            repeat' (first | refine awp_seq_k fun K hK => ?_ | ((first | refine awp_region_k (by kernel_rfl) fun R hR => ?_ | refine awp_draw mixed (by kernel_rfl) (by kernel_rfl) fun R hR => ?_); simp only [go_sem, u13, u14, u15, u24, u25, hz']) | ((first | (refine hR _ ?_; clear hR R) | refine awp_skip ?_ | refine awp_exit ?_ | refine awp_ret ?_); try simp only [thenA, inBlockA, reduceIte, reduceCtorEq, Nat.reduceEqDiff, if_false, if_true]) | ((first | refine hK _ ?_ | (clear hK K; first | refine hK _ ?_ | (clear hK K; first | refine hK _ ?_ | (clear hK K; first | refine hK _ ?_ | (clear hK K; refine hK _ ?_))))); clear hK K) | refine awp_true rfl rfl ?_ | refine awp_false rfl rfl ?_ | refine awp_block ?_ | refine And.intro (by first | ((repeat' first | omega | exact trivial | rfl | assumption | (intro a e; subst e; rfl) | exact map_sz fun a => (by simp only [go_sem]) | refine And.intro ?_ ?_); done) | fail) ?_ | fail)
            refine ⟨⟨i + 1, ?_⟩, ?_⟩
            rotate_left
            · simp only [go_sem, u2, u13, u14, u15, uh, s15]; omega
            simp only [go_sem, u2, u13, u14, u15, uh, s15]
            and_intros; all_goals try (first | rfl | omega | assumption | ((repeat (first | exact Fr.rfl' _ _ | assumption | refine Fr.updk ?_ (by omega) _)); done))
      · have hz : ¬ ((i : Int) < (c.length : Int)) := by omega
        rw [List.drop_eq_nil_of_le hge, litL] at hv
        repeat' (first | refine awp_seq_k fun K hK => ?_ | ((first | refine awp_region_k (by kernel_rfl) fun R hR => ?_ | refine awp_draw mixed (by kernel_rfl) (by kernel_rfl) fun R hR => ?_); simp only [go_sem, s13, s14, s15, hz]) | ((first | (refine hR _ ?_; clear hR R) | refine awp_skip ?_ | refine awp_exit ?_ | refine awp_ret ?_); try simp only [thenA, inBlockA, reduceIte, reduceCtorEq, Nat.reduceEqDiff, if_false, if_true]) | ((first | refine hK _ ?_ | (clear hK K; first | refine hK _ ?_ | (clear hK K; first | refine hK _ ?_ | (clear hK K; first | refine hK _ ?_ | (clear hK K; refine hK _ ?_))))); clear hK K) | refine awp_true rfl rfl ?_ | refine awp_false rfl rfl ?_ | refine awp_block ?_ | refine And.intro (by first | ((repeat' first | omega | exact trivial | rfl | assumption | (intro a e; subst e; rfl) | exact map_sz fun a => (by simp only [go_sem]) | refine And.intro ?_ ?_); done) | fail) ?_ | fail)
        (first | refine ret_pure ?_ ?_ ?_ | refine ret_ro ?_ ?_ ?_); focus exact (by simp only [Try.results95, resOkL, resOk, Try.ntmps95, List.toList_toArray]; first | decide | (simp only [go_sem]; done) | (simp only [go_sem]; and_intros <;> first | omega | rfl | decide))
        rotate_left; focus exact (by repeat (first | exact Fr.rfl' _ _ | assumption | refine Fr.updk ?_ (by omega) _))
        simp only [resA, resV, Try.results95, go_sem]
        all_goals try (first | exact Co.t2 (.dat rfl) (.dat rfl) | exact Co.t3 (.dat rfl) (.dat rfl) (.dat rfl))
        exact co_i hv
set_option maxRecDepth 20000 in
theorem checkClause_tri (g : List Int) (c : List Lt) (hc : c.length ≤ 4000000) : Tri Try.prog 83 [.d (sgDV g), .d (clDV c)] (pure' (iA (clOk g c))) := by
  refine tri_enter Try.func83 rfl Try.ntmps83 (by simp only [List.length_cons, List.length_nil]; omega) fun w0 h0 k hrd hwr => ?_
  unfold clOk
  cases h8 : decide ((c.length : Int) > 8) with
  | true =>
    have h8' : c.length > 8 := by simp at h8; omega
    rw [if_pos h8']
    repeat' (first | refine awp_seq_k fun K hK => ?_ | ((first | refine awp_region_k (by kernel_rfl) fun R hR => ?_ | refine awp_draw mixed (by kernel_rfl) (by kernel_rfl) fun R hR => ?_); simp only [go_sem, h8]) | ((first | (refine hR _ ?_; clear hR R) | refine awp_skip ?_ | refine awp_exit ?_ | refine awp_ret ?_); try simp only [thenA, inBlockA, reduceIte, reduceCtorEq, Nat.reduceEqDiff, if_false, if_true]) | ((first | refine hK _ ?_ | (clear hK K; first | refine hK _ ?_ | (clear hK K; first | refine hK _ ?_ | (clear hK K; first | refine hK _ ?_ | (clear hK K; refine hK _ ?_))))); clear hK K) | refine awp_true rfl rfl ?_ | refine awp_false rfl rfl ?_ | refine awp_block ?_ | refine And.intro (by first | ((repeat' first | omega | exact trivial | rfl | assumption | (intro a e; subst e; rfl) | exact map_sz fun a => (by simp only [go_sem]) | refine And.intro ?_ ?_); done) | fail) ?_ | fail)
    (first | refine ret_pure ?_ ?_ ?_ | refine ret_ro ?_ ?_ ?_); focus exact (by simp only [Try.results83, resOkL, resOk, Try.ntmps83, List.toList_toArray]; first | decide | (simp only [go_sem]; done) | (simp only [go_sem]; and_intros <;> first | omega | rfl | decide))
    rotate_left; focus exact (by repeat (first | exact Fr.rfl' _ _ | assumption | refine Fr.updk ?_ (by omega) _))
    simp only [resA, resV, Try.results83, go_sem]
    all_goals try (first | exact Co.t2 (.dat rfl) (.dat rfl) | exact Co.t3 (.dat rfl) (.dat rfl) (.dat rfl))
    exact .dat rfl
  | false =>
    have h8' : ¬ c.length > 8 := by simp at h8; omega
    rw [if_neg h8']
    repeat' (first | refine awp_seq_k fun K hK => ?_ | ((first | refine awp_region_k (by kernel_rfl) fun R hR => ?_ | refine awp_draw mixed (by kernel_rfl) (by kernel_rfl) fun R hR => ?_); simp only [go_sem, h8]) | ((first | (refine hR _ ?_; clear hR R) | refine awp_skip ?_ | refine awp_exit ?_ | refine awp_ret ?_); try simp only [thenA, inBlockA, reduceIte, reduceCtorEq, Nat.reduceEqDiff, if_false, if_true]) | ((first | refine hK _ ?_ | (clear hK K; first | refine hK _ ?_ | (clear hK K; first | refine hK _ ?_ | (clear hK K; first | refine hK _ ?_ | (clear hK K; refine hK _ ?_))))); clear hK K) | refine awp_true rfl rfl ?_ | refine awp_false rfl rfl ?_ | refine awp_block ?_ | refine And.intro (by first | ((repeat' first | omega | exact trivial | rfl | assumption | (intro a e; subst e; rfl) | exact map_sz fun a => (by simp only [go_sem]) | refine And.intro ?_ ?_); done) | fail) ?_ | fail)
    refine awp_loop (fun σ => ∃ i : Nat, σ.t 2 = .ptr (k, 0) 0 ∧ σ.t 1 = .d (clDV c) ∧ σ.t 5 = iA i ∧ σ.h (k, 0) = some (.cells 24 [.d (.sl (g.map iD))]) ∧ Fr k h0 σ.h ∧ k < σ.k ∧ i ≤ c.length ∧ litL g (c.drop i) = litL g c) (fun σ => c.length - (intOf' (σ.t 5)).toNat) ?_ ?_
    · refine ⟨0, ?_⟩
      simp only [go_sem, List.drop_zero]
      and_intros; all_goals try (first | rfl | omega | assumption | ((repeat (first | exact Fr.rfl' _ _ | assumption | refine Fr.updk ?_ (by omega) _)); done))
    · rintro σ ⟨i, s2, s1, s5, sh, hF, hk, hi, hv⟩
      have hne := ltne hk
      rcases Nat.lt_or_ge i c.length with hlt | hge
      · have hz : (i : Int) < (c.length : Int) := by omega
        have e1 : (c.map ltDV).getD i default = ltDV c[i] := nth_map ltDV hlt _
        rw [litL_at hlt] at hv
        cases ha : own g c[i].a == 0 with
        | true =>
          have ha' : own g c[i].a = 0 := by simpa using ha
          rw [if_neg (by simp [ha'])] at hv
          cases hb : own g c[i].b == 0 with
          | true =>
            have hb' : own g c[i].b = 0 := by simpa using hb
            rw [if_neg (by simp [hb'])] at hv
            repeat' (first | refine awp_seq_k fun K hK => ?_ | ((first | refine awp_region_k (by kernel_rfl) fun R hR => ?_ | refine awp_draw mixed (by kernel_rfl) (by kernel_rfl) fun R hR => ?_); simp only [go_sem, s2, s1, s5, sh, hz, e1, hne, ha', hb', bne_self_eq_false, beq_self_eq_true, Int.toNat_natCast]) | ((first | (refine hR _ ?_; clear hR R) | refine awp_skip ?_ | refine awp_exit ?_ | refine awp_ret ?_); try simp only [thenA, inBlockA, reduceIte, reduceCtorEq, Nat.reduceEqDiff, if_false, if_true]) | ((first | refine hK _ ?_ | (clear hK K; first | refine hK _ ?_ | (clear hK K; first | refine hK _ ?_ | (clear hK K; first | refine hK _ ?_ | (clear hK K; refine hK _ ?_))))); clear hK K) | refine awp_true rfl rfl ?_ | refine awp_false rfl rfl ?_ | refine awp_block ?_ | ((first | refine CallK.pure (enter21) (checkTerm_tri g c[i].a) ?_ ?_ | refine CallD.pure (enter21) (checkTerm_tri g c[i].a) ?_ ?_); (focus first | ((repeat (first | exact trivial | refine ⟨(by first | exact Or.inl rfl | exact Or.inr rfl), ?_⟩)); done) | (simp only [coL, AV.dat, true_or, or_true, AV.d.injEq, go_sem]; done)); simp only [go_sem, s2, s1, s5, sh, hz, e1, hne, ha', hb', bne_self_eq_false, beq_self_eq_true, Int.toNat_natCast]) | ((first | refine CallK.pure (enter21) (checkTerm_tri g c[i].b) ?_ ?_ | refine CallD.pure (enter21) (checkTerm_tri g c[i].b) ?_ ?_); (focus first | ((repeat (first | exact trivial | refine ⟨(by first | exact Or.inl rfl | exact Or.inr rfl), ?_⟩)); done) | (simp only [coL, AV.dat, true_or, or_true, AV.d.injEq, go_sem]; done)); simp only [go_sem, s2, s1, s5, sh, hz, e1, hne, ha', hb', bne_self_eq_false, beq_self_eq_true, Int.toNat_natCast]) | refine And.intro (by first | ((repeat' first | omega | exact trivial | rfl | assumption | (intro a e; subst e; rfl) | exact map_sz fun a => (by simp only [go_sem]) | refine And.intro ?_ ?_); done) | fail) ?_ | fail)
            refine ⟨⟨i + 1, ?_⟩, ?_⟩
            rotate_left
            · simp only [go_sem, s2, s1, s5, sh]; omega
            simp only [go_sem, s2, s1, s5, sh]
            and_intros; all_goals try (first | rfl | omega | assumption | ((repeat (first | exact Fr.rfl' _ _ | assumption | refine Fr.updk ?_ (by omega) _)); done))
          | false =>
            have hb' : (own g c[i].b != 0) = true := by simpa using hb
            have hb2 : own g c[i].b ≠ 0 := by simpa using hb
            rw [if_pos hb2] at hv
            repeat' (first | refine awp_seq_k fun K hK => ?_ | ((first | refine awp_region_k (by kernel_rfl) fun R hR => ?_ | refine awp_draw mixed (by kernel_rfl) (by kernel_rfl) fun R hR => ?_); simp only [go_sem, s2, s1, s5, sh, hz, e1, hne, ha', hb', bne_self_eq_false, beq_self_eq_true, Int.toNat_natCast]) | ((first | (refine hR _ ?_; clear hR R) | refine awp_skip ?_ | refine awp_exit ?_ | refine awp_ret ?_); try simp only [thenA, inBlockA, reduceIte, reduceCtorEq, Nat.reduceEqDiff, if_false, if_true]) | ((first | refine hK _ ?_ | (clear hK K; first | refine hK _ ?_ | (clear hK K; first | refine hK _ ?_ | (clear hK K; first | refine hK _ ?_ | (clear hK K; refine hK _ ?_))))); clear hK K) | refine awp_true rfl rfl ?_ | refine awp_false rfl rfl ?_ | refine awp_block ?_ | ((first | refine CallK.pure (enter21) (checkTerm_tri g c[i].a) ?_ ?_ | refine CallD.pure (enter21) (checkTerm_tri g c[i].a) ?_ ?_); (focus first | ((repeat (first | exact trivial | refine ⟨(by first | exact Or.inl rfl | exact Or.inr rfl), ?_⟩)); done) | (simp only [coL, AV.dat, true_or, or_true, AV.d.injEq, go_sem]; done)); simp only [go_sem, s2, s1, s5, sh, hz, e1, hne, ha', hb', bne_self_eq_false, beq_self_eq_true, Int.toNat_natCast]) | ((first | refine CallK.pure (enter21) (checkTerm_tri g c[i].b) ?_ ?_ | refine CallD.pure (enter21) (checkTerm_tri g c[i].b) ?_ ?_); (focus first | ((repeat (first | exact trivial | refine ⟨(by first | exact Or.inl rfl | exact Or.inr rfl), ?_⟩)); done) | (simp only [coL, AV.dat, true_or, or_true, AV.d.injEq, go_sem]; done)); simp only [go_sem, s2, s1, s5, sh, hz, e1, hne, ha', hb', bne_self_eq_false, beq_self_eq_true, Int.toNat_natCast]) | refine And.intro (by first | ((repeat' first | omega | exact trivial | rfl | assumption | (intro a e; subst e; rfl) | exact map_sz fun a => (by simp only [go_sem]) | refine And.intro ?_ ?_); done) | fail) ?_ | fail)
            (first | refine ret_pure ?_ ?_ ?_ | refine ret_ro ?_ ?_ ?_); focus exact (by simp only [Try.results83, resOkL, resOk, Try.ntmps83, List.toList_toArray]; first | decide | (simp only [go_sem]; done) | (simp only [go_sem]; and_intros <;> first | omega | rfl | decide))
            rotate_left; focus exact (by repeat (first | exact Fr.rfl' _ _ | assumption | refine Fr.updk ?_ (by omega) _))
            simp only [resA, resV, Try.results83, go_sem]
            all_goals try (first | exact Co.t2 (.dat rfl) (.dat rfl) | exact Co.t3 (.dat rfl) (.dat rfl) (.dat rfl))
            exact co_i hv
        | false =>
          have ha' : (own g c[i].a != 0) = true := by simpa using ha
          have ha2 : own g c[i].a ≠ 0 := by simpa using ha
          rw [if_pos ha2] at hv
          repeat' (first | refine awp_seq_k fun K hK => ?_ | ((first | refine awp_region_k (by kernel_rfl) fun R hR => ?_ | refine awp_draw mixed (by kernel_rfl) (by kernel_rfl) fun R hR => ?_); simp only [go_sem, s2, s1, s5, sh, hz, e1, hne, ha, ha', Int.toNat_natCast]) | ((first | (refine hR _ ?_; clear hR R) | refine awp_skip ?_ | refine awp_exit ?_ | refine awp_ret ?_); try simp only [thenA, inBlockA, reduceIte, reduceCtorEq, Nat.reduceEqDiff, if_false, if_true]) | ((first | refine hK _ ?_ | (clear hK K; first | refine hK _ ?_ | (clear hK K; first | refine hK _ ?_ | (clear hK K; first | refine hK _ ?_ | (clear hK K; refine hK _ ?_))))); clear hK K) | refine awp_true rfl rfl ?_ | refine awp_false rfl rfl ?_ | refine awp_block ?_ | ((first | refine CallK.pure (enter21) (checkTerm_tri g c[i].a) ?_ ?_ | refine CallD.pure (enter21) (checkTerm_tri g c[i].a) ?_ ?_); (focus first | ((repeat (first | exact trivial | refine ⟨(by first | exact Or.inl rfl | exact Or.inr rfl), ?_⟩)); done) | (simp only [coL, AV.dat, true_or, or_true, AV.d.injEq, go_sem]; done)); simp only [go_sem, s2, s1, s5, sh, hz, e1, hne, ha, ha', Int.toNat_natCast]) | refine And.intro (by first | ((repeat' first | omega | exact trivial | rfl | assumption | (intro a e; subst e; rfl) | exact map_sz fun a => (by simp only [go_sem]) | refine And.intro ?_ ?_); done) | fail) ?_ | fail)
          (first | refine ret_pure ?_ ?_ ?_ | refine ret_ro ?_ ?_ ?_); focus exact (by simp only [Try.results83, resOkL, resOk, Try.ntmps83, List.toList_toArray]; first | decide | (simp only [go_sem]; done) | (simp only [go_sem]; and_intros <;> first | omega | rfl | decide))
          rotate_left; focus exact (by repeat (first | exact Fr.rfl' _ _ | assumption | refine Fr.updk ?_ (by omega) _))
          simp only [resA, resV, Try.results83, go_sem]
          all_goals try (first | exact Co.t2 (.dat rfl) (.dat rfl) | exact Co.t3 (.dat rfl) (.dat rfl) (.dat rfl))
          exact co_i hv
      · have hz : ¬ ((i : Int) < (c.length : Int)) := by omega
        rw [List.drop_eq_nil_of_le hge, litL] at hv
        repeat' (first | refine awp_seq_k fun K hK => ?_ | ((first | refine awp_region_k (by kernel_rfl) fun R hR => ?_ | refine awp_draw mixed (by kernel_rfl) (by kernel_rfl) fun R hR => ?_); simp only [go_sem, s1, s5, hz]) | ((first | (refine hR _ ?_; clear hR R) | refine awp_skip ?_ | refine awp_exit ?_ | refine awp_ret ?_); try simp only [thenA, inBlockA, reduceIte, reduceCtorEq, Nat.reduceEqDiff, if_false, if_true]) | ((first | refine hK _ ?_ | (clear hK K; first | refine hK _ ?_ | (clear hK K; first | refine hK _ ?_ | (clear hK K; first | refine hK _ ?_ | (clear hK K; refine hK _ ?_))))); clear hK K) | refine awp_true rfl rfl ?_ | refine awp_false rfl rfl ?_ | refine awp_block ?_ | refine And.intro (by first | ((repeat' first | omega | exact trivial | rfl | assumption | (intro a e; subst e; rfl) | exact map_sz fun a => (by simp only [go_sem]) | refine And.intro ?_ ?_); done) | fail) ?_ | fail)
        (first | refine ret_pure ?_ ?_ ?_ | refine ret_ro ?_ ?_ ?_); focus exact (by simp only [Try.results83, resOkL, resOk, Try.ntmps83, List.toList_toArray]; first | decide | (simp only [go_sem]; done) | (simp only [go_sem]; and_intros <;> first | omega | rfl | decide))
        rotate_left; focus exact (by repeat (first | exact Fr.rfl' _ _ | assumption | refine Fr.updk ?_ (by omega) _))
        simp only [resA, resV, Try.results83, go_sem]
        all_goals try (first | exact Co.t2 (.dat rfl) (.dat rfl) | exact Co.t3 (.dat rfl) (.dat rfl) (.dat rfl))
        exact co_i hv
theorem clsL_at {g : List Int} {l : List (List Lt)} {i : Nat} (hi : i < l.length) : clsL g (l.drop i) = if clOk g l[i] ≠ 0 then clOk g l[i] else clsL g (l.drop (i + 1)) := by
  rw [List.drop_eq_getElem_cons hi, clsL]
set_option maxRecDepth 20000 in
theorem clCheck_tri (g : List Int) (l : List (List Lt)) (hl : l.length ≤ 4000000) (hc : ∀ c ∈ l, c.length ≤ 4000000) : Tri Try.prog 36 [.d (sgDV g), .d (.sl (l.map fun c => clDV c))] (pure' (iA (clsOk g l))) := by
  refine tri_enter Try.func36 rfl Try.ntmps36 (by simp only [List.length_cons, List.length_nil]; omega) fun w0 h0 k hrd hwr => ?_
  unfold clsOk
  cases hs : sigOk g == 0 with
  | false =>
    have hs' : (sigOk g != 0) = true := by simpa using hs
    have hs2 : sigOk g ≠ 0 := by simpa using hs
    rw [if_pos hs2]
    repeat' (first | refine awp_seq_k fun K hK => ?_ | ((first | refine awp_region_k (by kernel_rfl) fun R hR => ?_ | refine awp_draw mixed (by kernel_rfl) (by kernel_rfl) fun R hR => ?_); simp only [go_sem, hs']) | ((first | (refine hR _ ?_; clear hR R) | refine awp_skip ?_ | refine awp_exit ?_ | refine awp_ret ?_); try simp only [thenA, inBlockA, reduceIte, reduceCtorEq, Nat.reduceEqDiff, if_false, if_true]) | ((first | refine hK _ ?_ | (clear hK K; first | refine hK _ ?_ | (clear hK K; first | refine hK _ ?_ | (clear hK K; first | refine hK _ ?_ | (clear hK K; refine hK _ ?_))))); clear hK K) | refine awp_true rfl rfl ?_ | refine awp_false rfl rfl ?_ | refine awp_block ?_ | ((first | refine CallK.pure (enter53) (signature_tri g) ?_ ?_ | refine CallD.pure (enter53) (signature_tri g) ?_ ?_); (focus first | ((repeat (first | exact trivial | refine ⟨(by first | exact Or.inl rfl | exact Or.inr rfl), ?_⟩)); done) | (simp only [coL, AV.dat, true_or, or_true, AV.d.injEq, go_sem]; done)); simp only [go_sem, hs']) | refine And.intro (by first | ((repeat' first | omega | exact trivial | rfl | assumption | (intro a e; subst e; rfl) | exact map_sz fun a => (by simp only [go_sem]) | refine And.intro ?_ ?_); done) | fail) ?_ | fail)
    (first | refine ret_pure ?_ ?_ ?_ | refine ret_ro ?_ ?_ ?_); focus exact (by simp only [Try.results36, resOkL, resOk, Try.ntmps36, List.toList_toArray]; first | decide | (simp only [go_sem]; done) | (simp only [go_sem]; and_intros <;> first | omega | rfl | decide))
    rotate_left; focus exact (by repeat (first | exact Fr.rfl' _ _ | assumption | refine Fr.updk ?_ (by omega) _))
    simp only [resA, resV, Try.results36, go_sem]
    all_goals try (first | exact Co.t2 (.dat rfl) (.dat rfl) | exact Co.t3 (.dat rfl) (.dat rfl) (.dat rfl))
    exact .dat rfl
  | true =>
    have hs2 : sigOk g = 0 := by simpa using hs
    rw [if_neg (by simp [hs2])]
    cases h8 : decide ((l.length : Int) > 60) with
    | true =>
      have h8' : l.length > 60 := by simp at h8; omega
      rw [if_pos h8']
      repeat' (first | refine awp_seq_k fun K hK => ?_ | ((first | refine awp_region_k (by kernel_rfl) fun R hR => ?_ | refine awp_draw mixed (by kernel_rfl) (by kernel_rfl) fun R hR => ?_); simp only [go_sem, hs2, h8, bne_self_eq_false]) | ((first | (refine hR _ ?_; clear hR R) | refine awp_skip ?_ | refine awp_exit ?_ | refine awp_ret ?_); try simp only [thenA, inBlockA, reduceIte, reduceCtorEq, Nat.reduceEqDiff, if_false, if_true]) | ((first | refine hK _ ?_ | (clear hK K; first | refine hK _ ?_ | (clear hK K; first | refine hK _ ?_ | (clear hK K; first | refine hK _ ?_ | (clear hK K; refine hK _ ?_))))); clear hK K) | refine awp_true rfl rfl ?_ | refine awp_false rfl rfl ?_ | refine awp_block ?_ | ((first | refine CallK.pure (enter53) (signature_tri g) ?_ ?_ | refine CallD.pure (enter53) (signature_tri g) ?_ ?_); (focus first | ((repeat (first | exact trivial | refine ⟨(by first | exact Or.inl rfl | exact Or.inr rfl), ?_⟩)); done) | (simp only [coL, AV.dat, true_or, or_true, AV.d.injEq, go_sem]; done)); simp only [go_sem, hs2, h8, bne_self_eq_false]) | refine And.intro (by first | ((repeat' first | omega | exact trivial | rfl | assumption | (intro a e; subst e; rfl) | exact map_sz fun a => (by simp only [go_sem]) | refine And.intro ?_ ?_); done) | fail) ?_ | fail)
      (first | refine ret_pure ?_ ?_ ?_ | refine ret_ro ?_ ?_ ?_); focus exact (by simp only [Try.results36, resOkL, resOk, Try.ntmps36, List.toList_toArray]; first | decide | (simp only [go_sem]; done) | (simp only [go_sem]; and_intros <;> first | omega | rfl | decide))
      rotate_left; focus exact (by repeat (first | exact Fr.rfl' _ _ | assumption | refine Fr.updk ?_ (by omega) _))
      simp only [resA, resV, Try.results36, go_sem]
      all_goals try (first | exact Co.t2 (.dat rfl) (.dat rfl) | exact Co.t3 (.dat rfl) (.dat rfl) (.dat rfl))
      exact .dat rfl
    | false =>
      have h8' : ¬ l.length > 60 := by simp at h8; omega
      rw [if_neg h8']
      repeat' (first | refine awp_seq_k fun K hK => ?_ | ((first | refine awp_region_k (by kernel_rfl) fun R hR => ?_ | refine awp_draw mixed (by kernel_rfl) (by kernel_rfl) fun R hR => ?_); simp only [go_sem, hs2, h8, bne_self_eq_false]) | ((first | (refine hR _ ?_; clear hR R) | refine awp_skip ?_ | refine awp_exit ?_ | refine awp_ret ?_); try simp only [thenA, inBlockA, reduceIte, reduceCtorEq, Nat.reduceEqDiff, if_false, if_true]) | ((first | refine hK _ ?_ | (clear hK K; first | refine hK _ ?_ | (clear hK K; first | refine hK _ ?_ | (clear hK K; first | refine hK _ ?_ | (clear hK K; refine hK _ ?_))))); clear hK K) | refine awp_true rfl rfl ?_ | refine awp_false rfl rfl ?_ | refine awp_block ?_ | ((first | refine CallK.pure (enter53) (signature_tri g) ?_ ?_ | refine CallD.pure (enter53) (signature_tri g) ?_ ?_); (focus first | ((repeat (first | exact trivial | refine ⟨(by first | exact Or.inl rfl | exact Or.inr rfl), ?_⟩)); done) | (simp only [coL, AV.dat, true_or, or_true, AV.d.injEq, go_sem]; done)); simp only [go_sem, hs2, h8, bne_self_eq_false]) | refine And.intro (by first | ((repeat' first | omega | exact trivial | rfl | assumption | (intro a e; subst e; rfl) | exact map_sz fun a => (by simp only [go_sem]) | refine And.intro ?_ ?_); done) | fail) ?_ | fail)
      refine awp_loop (fun σ => ∃ i : Nat, σ.t 2 = .ptr (k, 0) 0 ∧ σ.t 17 = .d (.sl (l.map fun c => clDV c)) ∧ σ.t 18 = iA l.length ∧ σ.t 19 = iA i ∧ σ.h (k, 0) = some (.cells 24 [.d (.sl (g.map iD))]) ∧ Fr k h0 σ.h ∧ k < σ.k ∧ i ≤ l.length ∧ clsL g (l.drop i) = clsL g l) (fun σ => l.length - (intOf' (σ.t 19)).toNat) ?_ ?_
      · refine ⟨0, ?_⟩
        simp only [go_sem, List.drop_zero]
        and_intros; all_goals try (first | rfl | omega | assumption | ((repeat (first | exact Fr.rfl' _ _ | assumption | refine Fr.updk ?_ (by omega) _)); done))
      · rintro σ ⟨i, s2, s17, s18, s19, sh, hF, hk, hi, hv⟩
        have hne := ltne hk
        rcases Nat.lt_or_ge i l.length with hlt | hge
        · have hz : (i : Int) < (l.length : Int) := by omega
          have e1 : (l.map fun c => clDV c).getD i default = clDV l[i] := nth_map (fun c => clDV c) hlt _
          rw [clsL_at hlt] at hv
          cases ha : clOk g l[i] == 0 with
          | true =>
            have ha' : clOk g l[i] = 0 := by simpa using ha
            rw [if_neg (by simp [ha'])] at hv
            repeat' (first | refine awp_seq_k fun K hK => ?_ | ((first | refine awp_region_k (by kernel_rfl) fun R hR => ?_ | refine awp_draw mixed (by kernel_rfl) (by kernel_rfl) fun R hR => ?_); simp only [go_sem, s2, s17, s18, s19, sh, hz, e1, hne, ha', bne_self_eq_false, Int.toNat_natCast]) | ((first | (refine hR _ ?_; clear hR R) | refine awp_skip ?_ | refine awp_exit ?_ | refine awp_ret ?_); try simp only [thenA, inBlockA, reduceIte, reduceCtorEq, Nat.reduceEqDiff, if_false, if_true]) | ((first | refine hK _ ?_ | (clear hK K; first | refine hK _ ?_ | (clear hK K; first | refine hK _ ?_ | (clear hK K; first | refine hK _ ?_ | (clear hK K; refine hK _ ?_))))); clear hK K) | refine awp_true rfl rfl ?_ | refine awp_false rfl rfl ?_ | refine awp_block ?_ | ((first | refine CallK.pure (enter95) (right_tri g l[i] (hc _ (List.getElem_mem hlt))) ?_ ?_ | refine CallD.pure (enter95) (right_tri g l[i] (hc _ (List.getElem_mem hlt))) ?_ ?_); (focus first | ((repeat (first | exact trivial | refine ⟨(by first | exact Or.inl rfl | exact Or.inr rfl), ?_⟩)); done) | (simp only [coL, AV.dat, true_or, or_true, AV.d.injEq, go_sem]; done)); simp only [go_sem, s2, s17, s18, s19, sh, hz, e1, hne, ha', bne_self_eq_false, Int.toNat_natCast]) | refine And.intro (by first | ((repeat' first | omega | exact trivial | rfl | assumption | (intro a e; subst e; rfl) | exact map_sz fun a => (by simp only [go_sem]) | refine And.intro ?_ ?_); done) | fail) ?_ | fail)
            refine ⟨⟨i + 1, ?_⟩, ?_⟩
            rotate_left
            · simp only [go_sem, s2, s17, s18, s19, sh]; omega
            simp only [go_sem, s2, s17, s18, s19, sh]
            and_intros; all_goals try (first | rfl | omega | assumption | ((repeat (first | exact Fr.rfl' _ _ | assumption | refine Fr.updk ?_ (by omega) _)); done))
          | false =>
            have ha' : (clOk g l[i] != 0) = true := by simpa using ha
            have ha2 : clOk g l[i] ≠ 0 := by simpa using ha
            rw [if_pos ha2] at hv
            repeat' (first | refine awp_seq_k fun K hK => ?_ | ((first | refine awp_region_k (by kernel_rfl) fun R hR => ?_ | refine awp_draw mixed (by kernel_rfl) (by kernel_rfl) fun R hR => ?_); simp only [go_sem, s2, s17, s18, s19, sh, hz, e1, hne, ha', Int.toNat_natCast]) | ((first | (refine hR _ ?_; clear hR R) | refine awp_skip ?_ | refine awp_exit ?_ | refine awp_ret ?_); try simp only [thenA, inBlockA, reduceIte, reduceCtorEq, Nat.reduceEqDiff, if_false, if_true]) | ((first | refine hK _ ?_ | (clear hK K; first | refine hK _ ?_ | (clear hK K; first | refine hK _ ?_ | (clear hK K; first | refine hK _ ?_ | (clear hK K; refine hK _ ?_))))); clear hK K) | refine awp_true rfl rfl ?_ | refine awp_false rfl rfl ?_ | refine awp_block ?_ | ((first | refine CallK.pure (enter95) (right_tri g l[i] (hc _ (List.getElem_mem hlt))) ?_ ?_ | refine CallD.pure (enter95) (right_tri g l[i] (hc _ (List.getElem_mem hlt))) ?_ ?_); (focus first | ((repeat (first | exact trivial | refine ⟨(by first | exact Or.inl rfl | exact Or.inr rfl), ?_⟩)); done) | (simp only [coL, AV.dat, true_or, or_true, AV.d.injEq, go_sem]; done)); simp only [go_sem, s2, s17, s18, s19, sh, hz, e1, hne, ha', Int.toNat_natCast]) | refine And.intro (by first | ((repeat' first | omega | exact trivial | rfl | assumption | (intro a e; subst e; rfl) | exact map_sz fun a => (by simp only [go_sem]) | refine And.intro ?_ ?_); done) | fail) ?_ | fail)
            (first | refine ret_pure ?_ ?_ ?_ | refine ret_ro ?_ ?_ ?_); focus exact (by simp only [Try.results36, resOkL, resOk, Try.ntmps36, List.toList_toArray]; first | decide | (simp only [go_sem]; done) | (simp only [go_sem]; and_intros <;> first | omega | rfl | decide))
            rotate_left; focus exact (by repeat (first | exact Fr.rfl' _ _ | assumption | refine Fr.updk ?_ (by omega) _))
            simp only [resA, resV, Try.results36, go_sem]
            all_goals try (first | exact Co.t2 (.dat rfl) (.dat rfl) | exact Co.t3 (.dat rfl) (.dat rfl) (.dat rfl))
            exact co_i hv
        · have hz : ¬ ((i : Int) < (l.length : Int)) := by omega
          rw [List.drop_eq_nil_of_le hge, clsL] at hv
          repeat' (first | refine awp_seq_k fun K hK => ?_ | ((first | refine awp_region_k (by kernel_rfl) fun R hR => ?_ | refine awp_draw mixed (by kernel_rfl) (by kernel_rfl) fun R hR => ?_); simp only [go_sem, s17, s18, s19, hz]) | ((first | (refine hR _ ?_; clear hR R) | refine awp_skip ?_ | refine awp_exit ?_ | refine awp_ret ?_); try simp only [thenA, inBlockA, reduceIte, reduceCtorEq, Nat.reduceEqDiff, if_false, if_true]) | ((first | refine hK _ ?_ | (clear hK K; first | refine hK _ ?_ | (clear hK K; first | refine hK _ ?_ | (clear hK K; first | refine hK _ ?_ | (clear hK K; refine hK _ ?_))))); clear hK K) | refine awp_true rfl rfl ?_ | refine awp_false rfl rfl ?_ | refine awp_block ?_ | refine And.intro (by first | ((repeat' first | omega | exact trivial | rfl | assumption | (intro a e; subst e; rfl) | exact map_sz fun a => (by simp only [go_sem]) | refine And.intro ?_ ?_); done) | fail) ?_ | fail)
          (first | refine ret_pure ?_ ?_ ?_ | refine ret_ro ?_ ?_ ?_); focus exact (by simp only [Try.results36, resOkL, resOk, Try.ntmps36, List.toList_toArray]; first | decide | (simp only [go_sem]; done) | (simp only [go_sem]; and_intros <;> first | omega | rfl | decide))
          rotate_left; focus exact (by repeat (first | exact Fr.rfl' _ _ | assumption | refine Fr.updk ?_ (by omega) _))
          simp only [resA, resV, Try.results36, go_sem]
          all_goals try (first | exact Co.t2 (.dat rfl) (.dat rfl) | exact Co.t3 (.dat rfl) (.dat rfl) (.dat rfl))
          exact co_i hv
set_option maxRecDepth 20000 in
theorem checkClauses_loop {w0 : World} {g : List Int} {l : List (List Lt)} (hl : l.length ≤ 4000000) (hc : ∀ c ∈ l, c.length ≤ 4000000) {v : Int} {h0 : Heap} {k : Nat} {fn : Func} (hfn : fn = Try.f24) (σ : St) (e : Int) (s2 : σ.t 2 = .ptr (k, 0) 0) (s1 : σ.t 1 = .d (.sl (l.map fun c => clDV c))) (s5 : σ.t 5 = iA e)
    (sh : σ.h (k, 0) = some (.cells 24 [.d (.sl (g.map iD))])) (hF : Fr k h0 σ.h) (hk : k < σ.k) (he : v = if e ≠ 0 then e else clsL g l) {N : Nat} {c : Code} (hN : (Try.f24).ntmps = N) (hc : bodyAt (Try.f24) [true,true,true] = some c) : awp Try.prog w0 N c (retQ Try.prog fn (pure' (iA v)) h0 k) σ := by
  subst hfn
  obtain rfl := (Try.ntmps24).symm.trans hN; obtain rfl := Option.some.inj (show some _ = some c from hc); clear hN hc
  repeat' (first | refine awp_seq_k fun K hK => ?_ | ((first | refine awp_region_k (by kernel_rfl) fun R hR => ?_ | refine awp_draw mixed (by kernel_rfl) (by kernel_rfl) fun R hR => ?_); simp only [go_sem, s2, s1, s5, sh]) | ((first | (refine hR _ ?_; clear hR R) | refine awp_skip ?_ | refine awp_exit ?_ | refine awp_ret ?_); try simp only [thenA, inBlockA, reduceIte, reduceCtorEq, Nat.reduceEqDiff, if_false, if_true]) | ((first | refine hK _ ?_ | (clear hK K; first | refine hK _ ?_ | (clear hK K; first | refine hK _ ?_ | (clear hK K; first | refine hK _ ?_ | (clear hK K; refine hK _ ?_))))); clear hK K) | refine awp_true rfl rfl ?_ | refine awp_false rfl rfl ?_ | refine awp_block ?_ | refine And.intro (by first | ((repeat' first | omega | exact trivial | rfl | assumption | (intro a e; subst e; rfl) | exact map_sz fun a => (by simp only [go_sem]) | refine And.intro ?_ ?_); done) | fail) ?_ | fail)
  refine awp_loop (fun σ => ∃ (i : Nat) (e : Int), σ.t 2 = .ptr (k, 0) 0 ∧ σ.t 1 = .d (.sl (l.map fun c => clDV c)) ∧ σ.t 5 = iA e ∧ σ.t 6 = iA i ∧ σ.h (k, 0) = some (.cells 24 [.d (.sl (g.map iD))]) ∧ Fr k h0 σ.h ∧ k < σ.k ∧ i ≤ l.length ∧ (v = if e ≠ 0 then e else clsL g (l.drop i))) (fun σ => l.length - (intOf' (σ.t 6)).toNat) ?_ ?_
  · refine ⟨0, e, ?_⟩
    simp only [go_sem, s2, s1, s5, sh, List.drop_zero]
    and_intros; all_goals try (first | rfl | omega | assumption | ((repeat (first | exact Fr.rfl' _ _ | assumption | refine Fr.updk ?_ (by omega) _)); done))
  · rintro σ ⟨i, e, s2, s1, s5, s6, sh, hF, hk, hi, hv⟩
    have hne := ltne hk
    rcases Nat.lt_or_ge i l.length with hlt | hge
    · have hz : (i : Int) < (l.length : Int) := by omega
      have e1 : (l.map fun c => clDV c).getD i default = clDV l[i] := nth_map (fun c => clDV c) hlt _
      cases ha : e == 0 with
      | true =>
        have ha' : e = 0 := by simpa using ha
        subst ha'
        rw [if_neg (by simp), clsL_at hlt] at hv
        repeat' (first | refine awp_seq_k fun K hK => ?_ | ((first | refine awp_region_k (by kernel_rfl) fun R hR => ?_ | refine awp_draw mixed (by kernel_rfl) (by kernel_rfl) fun R hR => ?_); simp only [go_sem, s2, s1, s5, s6, sh, hz, e1, hne, beq_self_eq_true, Int.toNat_natCast]) | ((first | (refine hR _ ?_; clear hR R) | refine awp_skip ?_ | refine awp_exit ?_ | refine awp_ret ?_); try simp only [thenA, inBlockA, reduceIte, reduceCtorEq, Nat.reduceEqDiff, if_false, if_true]) | ((first | refine hK _ ?_ | (clear hK K; first | refine hK _ ?_ | (clear hK K; first | refine hK _ ?_ | (clear hK K; first | refine hK _ ?_ | (clear hK K; refine hK _ ?_))))); clear hK K) | refine awp_true rfl rfl ?_ | refine awp_false rfl rfl ?_ | refine awp_block ?_ | ((first | refine CallK.pure (enter83) (checkClause_tri g l[i] (hc _ (List.getElem_mem hlt))) ?_ ?_ | refine CallD.pure (enter83) (checkClause_tri g l[i] (hc _ (List.getElem_mem hlt))) ?_ ?_); (focus first | ((repeat (first | exact trivial | refine ⟨(by first | exact Or.inl rfl | exact Or.inr rfl), ?_⟩)); done) | (simp only [coL, AV.dat, true_or, or_true, AV.d.injEq, go_sem]; done)); simp only [go_sem, s2, s1, s5, s6, sh, hz, e1, hne, beq_self_eq_true, Int.toNat_natCast]) | refine And.intro (by first | ((repeat' first | omega | exact trivial | rfl | assumption | (intro a e; subst e; rfl) | exact map_sz fun a => (by simp only [go_sem]) | refine And.intro ?_ ?_); done) | fail) ?_ | fail)
        refine ⟨⟨i + 1, clOk g l[i], ?_⟩, ?_⟩
        rotate_left
        · simp only [go_sem, s2, s1, s5, s6, sh]; omega
        simp only [go_sem, s2, s1, s5, s6, sh]
        and_intros; all_goals try (first | rfl | omega | assumption | ((repeat (first | exact Fr.rfl' _ _ | assumption | refine Fr.updk ?_ (by omega) _)); done))
      | false =>
        have ha' : e ≠ 0 := by simpa using ha
        rw [if_pos ha'] at hv
        repeat' (first | refine awp_seq_k fun K hK => ?_ | ((first | refine awp_region_k (by kernel_rfl) fun R hR => ?_ | refine awp_draw mixed (by kernel_rfl) (by kernel_rfl) fun R hR => ?_); simp only [go_sem, s2, s1, s5, s6, sh, hz, e1, hne, ha, Int.toNat_natCast]) | ((first | (refine hR _ ?_; clear hR R) | refine awp_skip ?_ | refine awp_exit ?_ | refine awp_ret ?_); try simp only [thenA, inBlockA, reduceIte, reduceCtorEq, Nat.reduceEqDiff, if_false, if_true]) | ((first | refine hK _ ?_ | (clear hK K; first | refine hK _ ?_ | (clear hK K; first | refine hK _ ?_ | (clear hK K; first | refine hK _ ?_ | (clear hK K; refine hK _ ?_))))); clear hK K) | refine awp_true rfl rfl ?_ | refine awp_false rfl rfl ?_ | refine awp_block ?_ | refine And.intro (by first | ((repeat' first | omega | exact trivial | rfl | assumption | (intro a e; subst e; rfl) | exact map_sz fun a => (by simp only [go_sem]) | refine And.intro ?_ ?_); done) | fail) ?_ | fail)
        (first | refine ret_pure ?_ ?_ ?_ | refine ret_ro ?_ ?_ ?_); focus exact (by simp only [Try.results24, resOkL, resOk, Try.ntmps24, List.toList_toArray]; first | decide | (simp only [go_sem]; done) | (simp only [go_sem]; and_intros <;> first | omega | rfl | decide))
        rotate_left; focus exact (by repeat (first | exact Fr.rfl' _ _ | assumption | refine Fr.updk ?_ (by omega) _))
        simp only [resA, resV, Try.results24, go_sem]
        all_goals try (first | exact Co.t2 (.dat rfl) (.dat rfl) | exact Co.t3 (.dat rfl) (.dat rfl) (.dat rfl))
        exact co_i hv.symm
    · have hz : ¬ ((i : Int) < (l.length : Int)) := by omega
      rw [List.drop_eq_nil_of_le hge, clsL] at hv
      have hv' : v = e := by
        by_cases h : e = 0
        · rw [hv, if_neg (by simp [h]), h]
        · rw [hv, if_pos h]
      repeat' (first | refine awp_seq_k fun K hK => ?_ | ((first | refine awp_region_k (by kernel_rfl) fun R hR => ?_ | refine awp_draw mixed (by kernel_rfl) (by kernel_rfl) fun R hR => ?_); simp only [go_sem, s2, s1, s5, s6, sh, hz]) | ((first | (refine hR _ ?_; clear hR R) | refine awp_skip ?_ | refine awp_exit ?_ | refine awp_ret ?_); try simp only [thenA, inBlockA, reduceIte, reduceCtorEq, Nat.reduceEqDiff, if_false, if_true]) | ((first | refine hK _ ?_ | (clear hK K; first | refine hK _ ?_ | (clear hK K; first | refine hK _ ?_ | (clear hK K; first | refine hK _ ?_ | (clear hK K; refine hK _ ?_))))); clear hK K) | refine awp_true rfl rfl ?_ | refine awp_false rfl rfl ?_ | refine awp_block ?_ | refine And.intro (by first | ((repeat' first | omega | exact trivial | rfl | assumption | (intro a e; subst e; rfl) | exact map_sz fun a => (by simp only [go_sem]) | refine And.intro ?_ ?_); done) | fail) ?_ | fail)
      (first | refine ret_pure ?_ ?_ ?_ | refine ret_ro ?_ ?_ ?_); focus exact (by simp only [Try.results24, resOkL, resOk, Try.ntmps24, List.toList_toArray]; first | decide | (simp only [go_sem]; done) | (simp only [go_sem]; and_intros <;> first | omega | rfl | decide))
      rotate_left; focus exact (by repeat (first | exact Fr.rfl' _ _ | assumption | refine Fr.updk ?_ (by omega) _))
      simp only [resA, resV, Try.results24, go_sem]
      all_goals try (first | exact Co.t2 (.dat rfl) (.dat rfl) | exact Co.t3 (.dat rfl) (.dat rfl) (.dat rfl))
      exact co_i hv'.symm
set_option maxRecDepth 20000 in
theorem checkClauses_tri (g : List Int) (l : List (List Lt)) (hl : l.length ≤ 4000000) (hc : ∀ c ∈ l, c.length ≤ 4000000) : Tri Try.prog 24 [.d (sgDV g), .d (.sl (l.map fun c => clDV c))] (pure' (iA (clsOk g l))) := by
  refine tri_enter Try.func24 rfl Try.ntmps24 (by simp only [List.length_cons, List.length_nil]; omega) fun w0 h0 k hrd hwr => ?_
  have hfin : ∀ e0 : Int, e0 = (if sigOk g ≠ 0 then sigOk g else if l.length > 60 then 2 else 0) → clsOk g l = if e0 ≠ 0 then e0 else clsL g l := by
    intro e0 h; rw [h]; unfold clsOk
    by_cases h1 : sigOk g = 0
    · by_cases h2 : l.length > 60
      · simp [h1, h2]
      · simp [h1, h2]
    · simp [h1]
  cases hs : sigOk g == 0 with
  | false =>
    have hs2 : sigOk g ≠ 0 := by simpa using hs
    repeat' (first | refine checkClauses_loop hl hc rfl _ (sigOk g) ?_ ?_ ?_ ?_ (by repeat (first | exact Fr.rfl' _ _ | assumption | refine Fr.updk ?_ (by omega) _)) ?_ (hfin _ ?_) rfl rfl | refine awp_seq_k fun K hK => ?_ | ((first | refine awp_region_k (by kernel_rfl) fun R hR => ?_ | refine awp_draw mixed (by kernel_rfl) (by kernel_rfl) fun R hR => ?_); simp only [go_sem, hs]) | ((first | (refine hR _ ?_; clear hR R) | refine awp_skip ?_ | refine awp_exit ?_ | refine awp_ret ?_); try simp only [thenA, inBlockA, reduceIte, reduceCtorEq, Nat.reduceEqDiff, if_false, if_true]) | ((first | refine hK _ ?_ | (clear hK K; first | refine hK _ ?_ | (clear hK K; first | refine hK _ ?_ | (clear hK K; first | refine hK _ ?_ | (clear hK K; refine hK _ ?_))))); clear hK K) | refine awp_true rfl rfl ?_ | refine awp_false rfl rfl ?_ | refine awp_block ?_ | ((first | refine CallK.pure (enter54) (checkSig_tri g) ?_ ?_ | refine CallD.pure (enter54) (checkSig_tri g) ?_ ?_); (focus first | ((repeat (first | exact trivial | refine ⟨(by first | exact Or.inl rfl | exact Or.inr rfl), ?_⟩)); done) | (simp only [coL, AV.dat, true_or, or_true, AV.d.injEq, go_sem]; done)); simp only [go_sem, hs]) | refine And.intro (by first | ((repeat' first | omega | exact trivial | rfl | assumption | (intro a e; subst e; rfl) | exact map_sz fun a => (by simp only [go_sem]) | refine And.intro ?_ ?_); done) | fail) ?_ | fail)
    all_goals try simp only [go_sem]
    all_goals try omega
  | true =>
    have hs2 : sigOk g = 0 := by simpa using hs
    cases h8 : decide ((l.length : Int) > 60) with
    | true =>
      have h8' : l.length > 60 := by simp at h8; omega
      repeat' (first | refine checkClauses_loop hl hc rfl _ 2 ?_ ?_ ?_ ?_ (by repeat (first | exact Fr.rfl' _ _ | assumption | refine Fr.updk ?_ (by omega) _)) ?_ (hfin _ ?_) rfl rfl | refine awp_seq_k fun K hK => ?_ | ((first | refine awp_region_k (by kernel_rfl) fun R hR => ?_ | refine awp_draw mixed (by kernel_rfl) (by kernel_rfl) fun R hR => ?_); simp only [go_sem, hs2, h8, beq_self_eq_true]) | ((first | (refine hR _ ?_; clear hR R) | refine awp_skip ?_ | refine awp_exit ?_ | refine awp_ret ?_); try simp only [thenA, inBlockA, reduceIte, reduceCtorEq, Nat.reduceEqDiff, if_false, if_true]) | ((first | refine hK _ ?_ | (clear hK K; first | refine hK _ ?_ | (clear hK K; first | refine hK _ ?_ | (clear hK K; first | refine hK _ ?_ | (clear hK K; refine hK _ ?_))))); clear hK K) | refine awp_true rfl rfl ?_ | refine awp_false rfl rfl ?_ | refine awp_block ?_ | ((first | refine CallK.pure (enter54) (checkSig_tri g) ?_ ?_ | refine CallD.pure (enter54) (checkSig_tri g) ?_ ?_); (focus first | ((repeat (first | exact trivial | refine ⟨(by first | exact Or.inl rfl | exact Or.inr rfl), ?_⟩)); done) | (simp only [coL, AV.dat, true_or, or_true, AV.d.injEq, go_sem]; done)); simp only [go_sem, hs2, h8, beq_self_eq_true]) | refine And.intro (by first | ((repeat' first | omega | exact trivial | rfl | assumption | (intro a e; subst e; rfl) | exact map_sz fun a => (by simp only [go_sem]) | refine And.intro ?_ ?_); done) | fail) ?_ | fail)
      all_goals try simp only [go_sem]
      all_goals try omega
    | false =>
      have h8' : ¬ l.length > 60 := by simp at h8; omega
      repeat' (first | refine checkClauses_loop hl hc rfl _ 0 ?_ ?_ ?_ ?_ (by repeat (first | exact Fr.rfl' _ _ | assumption | refine Fr.updk ?_ (by omega) _)) ?_ (hfin _ ?_) rfl rfl | refine awp_seq_k fun K hK => ?_ | ((first | refine awp_region_k (by kernel_rfl) fun R hR => ?_ | refine awp_draw mixed (by kernel_rfl) (by kernel_rfl) fun R hR => ?_); simp only [go_sem, hs2, h8, beq_self_eq_true]) | ((first | (refine hR _ ?_; clear hR R) | refine awp_skip ?_ | refine awp_exit ?_ | refine awp_ret ?_); try simp only [thenA, inBlockA, reduceIte, reduceCtorEq, Nat.reduceEqDiff, if_false, if_true]) | ((first | refine hK _ ?_ | (clear hK K; first | refine hK _ ?_ | (clear hK K; first | refine hK _ ?_ | (clear hK K; first | refine hK _ ?_ | (clear hK K; refine hK _ ?_))))); clear hK K) | refine awp_true rfl rfl ?_ | refine awp_false rfl rfl ?_ | refine awp_block ?_ | ((first | refine CallK.pure (enter54) (checkSig_tri g) ?_ ?_ | refine CallD.pure (enter54) (checkSig_tri g) ?_ ?_); (focus first | ((repeat (first | exact trivial | refine ⟨(by first | exact Or.inl rfl | exact Or.inr rfl), ?_⟩)); done) | (simp only [coL, AV.dat, true_or, or_true, AV.d.injEq, go_sem]; done)); simp only [go_sem, hs2, h8, beq_self_eq_true]) | refine And.intro (by first | ((repeat' first | omega | exact trivial | rfl | assumption | (intro a e; subst e; rfl) | exact map_sz fun a => (by simp only [go_sem]) | refine And.intro ?_ ?_); done) | fail) ?_ | fail)
      all_goals try simp only [go_sem]
      all_goals try omega
end Go.Proofs.Ytmeekpinkfpnhaa
namespace Go.Proofs.Ytmeekpinkfpnhaa
open Go.RowKit
set_option maxHeartbeats 1000000 in
set_option maxRecDepth 20000 in
theorem firstVars_new (l : List Tm) (hl : Tm.size.sizes l ≤ 4000000) (n' : Nm) : Tri Try.prog 22 [.d (.sl (l.map tmDV))] (newEff 3 n' ((firstVars l).map iD)) := by
  refine tri_enter Try.func22 rfl Try.ntmps22 (by simp only [List.length_cons, List.length_nil]; omega) fun w0 h0 k hrd hwr => ?_
  have hn' : n'.1 < k := hwr _ (List.mem_cons_self ..)
  have h0' : h0 n' = none := hrd _ (List.mem_cons_self ..)
  have hll := Tm.sizes_len l
  repeat' (first | refine awp_ghost (ghost_nil (i := 3) (e := 3) rfl) ?_ | refine awp_seq_k fun K hK => ?_ | ((first | refine awp_region_k (by kernel_rfl) fun R hR => ?_ | refine awp_draw mixed (by kernel_rfl) (by kernel_rfl) fun R hR => ?_); simp only [go_sem]) | ((first | (refine hR _ ?_; clear hR R) | refine awp_skip ?_ | refine awp_exit ?_ | refine awp_ret ?_); try simp only [thenA, inBlockA, reduceIte, reduceCtorEq, Nat.reduceEqDiff, if_false, if_true]) | ((first | refine hK _ ?_ | (clear hK K; first | refine hK _ ?_ | (clear hK K; first | refine hK _ ?_ | (clear hK K; first | refine hK _ ?_ | (clear hK K; refine hK _ ?_))))); clear hK K) | refine awp_true rfl rfl ?_ | refine awp_false rfl rfl ?_ | refine awp_block ?_ | refine And.intro (by first | ((repeat' first | omega | exact trivial | rfl | assumption | (intro a e; subst e; rfl) | exact map_sz fun a => (by simp only [go_sem]) | refine And.intro ?_ ?_); done) | fail) ?_ | fail)
  refine awp_loop (fun σ => ∃ (i : Nat) (o : List Int), σ.t 0 = .d (.sl (l.map tmDV)) ∧ σ.t 3 = .own (k + 1 + 1, 0) (o.map iD) ∧ σ.t 4 = iA i ∧ σ.h (k + 1 + 1, 0) = some (.perm 3 o.length) ∧ Fr k h0 σ.h ∧ k + 1 + 1 < σ.k ∧ i ≤ l.length ∧ o.length + Tm.size.sizes (l.drop i) ≤ 4000000 ∧ addVs o ((l.drop i).flatMap parts) = firstVars l) (fun σ => l.length - (intOf' (σ.t 4)).toNat) ?_ ?_
  · refine ⟨0, [], ?_⟩
    simp only [go_sem, List.drop_zero]
    and_intros; all_goals try (first | rfl | omega | assumption | ((repeat (first | exact Fr.rfl' _ _ | assumption | refine Fr.updk ?_ (by omega) _)); done))
  · rintro σ ⟨i, o, s0, s3, s4, sh, hF, hk, hi, ho, hv⟩
    have hne := ltne hk
    rcases Nat.lt_or_ge i l.length with hlt | hge
    · have hz : (i : Int) < (l.length : Int) := by omega
      have e1 : (l.map tmDV).getD i default = tmDV l[i] := nth_map tmDV hlt _
      rw [List.drop_eq_getElem_cons hlt, List.flatMap_cons, addVs_append] at hv
      rw [List.drop_eq_getElem_cons hlt, Tm.size.sizes] at ho
      have hpl := parts_len l[i]
      repeat' (first | refine awp_seq_k fun K hK => ?_ | ((first | refine awp_region_k (by kernel_rfl) fun R hR => ?_ | refine awp_draw mixed (by kernel_rfl) (by kernel_rfl) fun R hR => ?_); simp only [go_sem, s0, s3, s4, sh, hz, e1, hne, Int.toNat_natCast]) | ((first | (refine hR _ ?_; clear hR R) | refine awp_skip ?_ | refine awp_exit ?_ | refine awp_ret ?_); try simp only [thenA, inBlockA, reduceIte, reduceCtorEq, Nat.reduceEqDiff, if_false, if_true]) | ((first | refine hK _ ?_ | (clear hK K; first | refine hK _ ?_ | (clear hK K; first | refine hK _ ?_ | (clear hK K; first | refine hK _ ?_ | (clear hK K; refine hK _ ?_))))); clear hK K) | refine awp_true rfl rfl ?_ | refine awp_false rfl rfl ?_ | refine awp_block ?_ | ((first | refine CallK.pure (enter63) (partsOf_data l[i] (by unfold Tm.fits; omega) (by omega)) ?_ ?_ | refine CallD.pure (enter63) (partsOf_data l[i] (by unfold Tm.fits; omega) (by omega)) ?_ ?_); (focus first | ((repeat (first | exact trivial | refine ⟨(by first | exact Or.inl rfl | exact Or.inr rfl), ?_⟩)); done) | (simp only [coL, AV.dat, true_or, or_true, AV.d.injEq, go_sem]; done)); simp only [go_sem, s0, s3, s4, sh, hz, e1, hne, Int.toNat_natCast]) | refine And.intro (by first | ((repeat' first | omega | exact trivial | rfl | assumption | (intro a e; subst e; rfl) | exact map_sz fun a => (by simp only [go_sem]) | refine And.intro ?_ ?_); done) | fail) ?_ | fail)
      refine awp_loop (fun τ => ∃ (j : Nat) (q : List Int), τ.t 0 = .d (.sl (l.map tmDV)) ∧ τ.t 3 = .own (k + 1 + 1, 0) (q.map iD) ∧ τ.t 4 = iA i ∧ τ.t 5 = .d (.sl ((parts l[i]).map tmDV)) ∧ τ.t 6 = iA j ∧ τ.h (k + 1 + 1, 0) = some (.perm 3 q.length) ∧ Fr k h0 τ.h ∧ k + 1 + 1 < τ.k ∧ j ≤ (parts l[i]).length ∧ q.length + ((parts l[i]).length - j) ≤ o.length + (parts l[i]).length ∧ addVs q ((parts l[i]).drop j) = addVs o (parts l[i])) (fun τ => (parts l[i]).length - (intOf' (τ.t 6)).toNat) ?_ ?_
      · refine ⟨0, o, ?_⟩
        simp only [go_sem, s0, s3, s4, sh, hne, List.drop_zero]
        and_intros; all_goals try (first | rfl | omega | assumption | ((repeat (first | exact Fr.rfl' _ _ | assumption | refine Fr.updk ?_ (by omega) _)); done))
      · rintro τ ⟨j, q, u0, u3, u4, u5, u6, uh, uF, uk, uj, uo, uv⟩
        have hne' := ltne uk
        rcases Nat.lt_or_ge j (parts l[i]).length with hlt' | hge'
        · have hz' : (j : Int) < ((parts l[i]).length : Int) := by omega
          have e2 : ((parts l[i]).map tmDV).getD j default = tmDV (parts l[i])[j] := nth_map tmDV hlt' _
          rw [List.drop_eq_getElem_cons hlt'] at uv
          generalize (parts l[i])[j] = x at *
          cases hx : decide (x.v > 0) with
          | false =>
            have hadd : addVs q (x :: (parts l[i]).drop (j + 1)) = addVs q ((parts l[i]).drop (j + 1)) := by
              show addVs (addV q x) _ = _
              unfold addV; rw [if_neg (by simp at hx; omega)]
            rw [hadd] at uv
            repeat' (first | refine awp_seq_k fun K hK => ?_ | ((first | refine awp_region_k (by kernel_rfl) fun R hR => ?_ | refine awp_draw mixed (by kernel_rfl) (by kernel_rfl) fun R hR => ?_); simp only [go_sem, u0, u3, u4, u5, u6, uh, hz', e2, hne', hx, Int.toNat_natCast]) | ((first | (refine hR _ ?_; clear hR R) | refine awp_skip ?_ | refine awp_exit ?_ | refine awp_ret ?_); try simp only [thenA, inBlockA, reduceIte, reduceCtorEq, Nat.reduceEqDiff, if_false, if_true]) | ((first | refine hK _ ?_ | (clear hK K; first | refine hK _ ?_ | (clear hK K; first | refine hK _ ?_ | (clear hK K; first | refine hK _ ?_ | (clear hK K; refine hK _ ?_))))); clear hK K) | refine awp_true rfl rfl ?_ | refine awp_false rfl rfl ?_ | refine awp_block ?_ | refine And.intro (by first | ((repeat' first | omega | exact trivial | rfl | assumption | (intro a e; subst e; rfl) | exact map_sz fun a => (by simp only [go_sem]) | refine And.intro ?_ ?_); done) | fail) ?_ | fail)
            refine ⟨⟨j + 1, q, ?_⟩, ?_⟩
            rotate_left
            · simp only [go_sem, u0, u3, u4, u5, u6, uh, hne']; omega
            simp only [go_sem, u0, u3, u4, u5, u6, uh, hne']
            and_intros; all_goals try (first | rfl | omega | assumption | ((repeat (first | exact Fr.rfl' _ _ | assumption | refine Fr.updk ?_ (by omega) _)); done))
          | true =>
            cases hc : q.contains x.v with
            | true =>
              have hadd : addVs q (x :: (parts l[i]).drop (j + 1)) = addVs q ((parts l[i]).drop (j + 1)) := by
                show addVs (addV q x) _ = _
                unfold addV; rw [if_neg]; rintro ⟨_, h⟩; rw [hc] at h; cases h
              rw [hadd] at uv
              repeat' (first | refine awp_seq_k fun K hK => ?_ | ((first | refine awp_region_k (by kernel_rfl) fun R hR => ?_ | refine awp_draw mixed (by kernel_rfl) (by kernel_rfl) fun R hR => ?_); simp only [go_sem, u0, u3, u4, u5, u6, uh, hz', e2, hne', hx, hc, Int.toNat_natCast]) | ((first | (refine hR _ ?_; clear hR R) | refine awp_skip ?_ | refine awp_exit ?_ | refine awp_ret ?_); try simp only [thenA, inBlockA, reduceIte, reduceCtorEq, Nat.reduceEqDiff, if_false, if_true]) | ((first | refine hK _ ?_ | (clear hK K; first | refine hK _ ?_ | (clear hK K; first | refine hK _ ?_ | (clear hK K; first | refine hK _ ?_ | (clear hK K; refine hK _ ?_))))); clear hK K) | refine awp_true rfl rfl ?_ | refine awp_false rfl rfl ?_ | refine awp_block ?_ | ((first | refine CallK.pure (enter82) (has_tri q (by omega) x.v) ?_ ?_ | refine CallD.pure (enter82) (has_tri q (by omega) x.v) ?_ ?_); (focus first | ((repeat (first | exact trivial | refine ⟨(by first | exact Or.inl rfl | exact Or.inr rfl), ?_⟩)); done) | (simp only [coL, AV.dat, true_or, or_true, AV.d.injEq, go_sem]; done)); simp only [go_sem, u0, u3, u4, u5, u6, uh, hz', e2, hne', hx, hc, Int.toNat_natCast]) | refine And.intro (by first | ((repeat' first | omega | exact trivial | rfl | assumption | (intro a e; subst e; rfl) | exact map_sz fun a => (by simp only [go_sem]) | refine And.intro ?_ ?_); done) | fail) ?_ | fail)
              refine ⟨⟨j + 1, q, ?_⟩, ?_⟩
              rotate_left
              · simp only [go_sem, u0, u3, u4, u5, u6, uh, hne']; omega
              simp only [go_sem, u0, u3, u4, u5, u6, uh, hne']
              and_intros; all_goals try (first | rfl | omega | assumption | ((repeat (first | exact Fr.rfl' _ _ | assumption | refine Fr.updk ?_ (by omega) _)); done))
            | false =>
              have hadd : addVs q (x :: (parts l[i]).drop (j + 1)) = addVs (q ++ [x.v]) ((parts l[i]).drop (j + 1)) := by
                show addVs (addV q x) _ = _
                unfold addV; rw [if_pos ⟨by simpa using hx, hc⟩]
              rw [hadd] at uv
              have hq : q.map iD ++ [iD x.v] = (q ++ [x.v]).map iD := by simp
              repeat' (first | refine awp_seq_k fun K hK => ?_ | ((first | refine awp_region_k (by kernel_rfl) fun R hR => ?_ | refine awp_draw mixed (by kernel_rfl) (by kernel_rfl) fun R hR => ?_); simp only [go_sem, u0, u3, u4, u5, u6, uh, hz', e2, hne', hx, hc, List.length_map, Int.toNat_natCast]) | ((first | (refine hR _ ?_; clear hR R) | refine awp_skip ?_ | refine awp_exit ?_ | refine awp_ret ?_); try simp only [thenA, inBlockA, reduceIte, reduceCtorEq, Nat.reduceEqDiff, if_false, if_true]) | ((first | refine hK _ ?_ | (clear hK K; first | refine hK _ ?_ | (clear hK K; first | refine hK _ ?_ | (clear hK K; first | refine hK _ ?_ | (clear hK K; refine hK _ ?_))))); clear hK K) | refine awp_true rfl rfl ?_ | refine awp_false rfl rfl ?_ | refine awp_block ?_ | ((first | refine CallK.pure (enter82) (has_tri q (by omega) x.v) ?_ ?_ | refine CallD.pure (enter82) (has_tri q (by omega) x.v) ?_ ?_); (focus first | ((repeat (first | exact trivial | refine ⟨(by first | exact Or.inl rfl | exact Or.inr rfl), ?_⟩)); done) | (simp only [coL, AV.dat, true_or, or_true, AV.d.injEq, go_sem]; done)); simp only [go_sem, u0, u3, u4, u5, u6, uh, hz', e2, hne', hx, hc, List.length_map, Int.toNat_natCast]) | refine And.intro (by first | ((repeat' first | omega | exact trivial | rfl | assumption | (intro a e; subst e; rfl) | exact map_sz fun a => (by simp only [go_sem]) | refine And.intro ?_ ?_); done) | fail) ?_ | fail)
              refine ⟨⟨j + 1, q ++ [x.v], ?_⟩, ?_⟩
              rotate_left
              · simp only [go_sem, u0, u3, u4, u5, u6, uh, hne', hq, List.length_map]; omega
              simp only [go_sem, u0, u3, u4, u5, u6, uh, hne', hq, List.length_map]
              and_intros; all_goals try (first | rfl | omega | assumption | ((repeat (first | exact Fr.rfl' _ _ | assumption | refine Fr.updk ?_ (by omega) _)); done))
              simp only [List.length_append, List.length_singleton]; omega
        · have hz' : ¬ ((j : Int) < ((parts l[i]).length : Int)) := by omega
          rw [List.drop_eq_nil_of_le hge'] at uv
          have uv' : q = addVs o (parts l[i]) := uv
          rw [← uv'] at hv
          repeat' (first | refine awp_seq_k fun K hK => ?_ | ((first | refine awp_region_k (by kernel_rfl) fun R hR => ?_ | refine awp_draw mixed (by kernel_rfl) (by kernel_rfl) fun R hR => ?_); simp only [go_sem, u0, u3, u4, u5, u6, uh, hz', hne']) | ((first | (refine hR _ ?_; clear hR R) | refine awp_skip ?_ | refine awp_exit ?_ | refine awp_ret ?_); try simp only [thenA, inBlockA, reduceIte, reduceCtorEq, Nat.reduceEqDiff, if_false, if_true]) | ((first | refine hK _ ?_ | (clear hK K; first | refine hK _ ?_ | (clear hK K; first | refine hK _ ?_ | (clear hK K; first | refine hK _ ?_ | (clear hK K; refine hK _ ?_))))); clear hK K) | refine awp_true rfl rfl ?_ | refine awp_false rfl rfl ?_ | refine awp_block ?_ | refine And.intro (by first | ((repeat' first | omega | exact trivial | rfl | assumption | (intro a e; subst e; rfl) | exact map_sz fun a => (by simp only [go_sem]) | refine And.intro ?_ ?_); done) | fail) ?_ | fail)
          refine ⟨⟨i + 1, q, ?_⟩, ?_⟩
          rotate_left
          · simp only [go_sem, u0, u3, u4, uh, hne', s4]; omega
          simp only [go_sem, u0, u3, u4, uh, hne', s4]
          and_intros; all_goals try (first | rfl | omega | assumption | ((repeat (first | exact Fr.rfl' _ _ | assumption | refine Fr.updk ?_ (by omega) _)); done))
    · have hz : ¬ ((i : Int) < (l.length : Int)) := by omega
      rw [List.drop_eq_nil_of_le hge] at hv
      have hv' : o = firstVars l := hv
      subst hv'
      repeat' (first | refine awp_seq_k fun K hK => ?_ | ((first | refine awp_region_k (by kernel_rfl) fun R hR => ?_ | refine awp_draw mixed (by kernel_rfl) (by kernel_rfl) fun R hR => ?_); simp only [go_sem, s0, s3, s4, sh, hz, hne]) | ((first | (refine hR _ ?_; clear hR R) | refine awp_skip ?_ | refine awp_exit ?_ | refine awp_ret ?_); try simp only [thenA, inBlockA, reduceIte, reduceCtorEq, Nat.reduceEqDiff, if_false, if_true]) | ((first | refine hK _ ?_ | (clear hK K; first | refine hK _ ?_ | (clear hK K; first | refine hK _ ?_ | (clear hK K; first | refine hK _ ?_ | (clear hK K; refine hK _ ?_))))); clear hK K) | refine awp_true rfl rfl ?_ | refine awp_false rfl rfl ?_ | refine awp_block ?_ | refine And.intro (by first | ((repeat' first | omega | exact trivial | rfl | assumption | (intro a e; subst e; rfl) | exact map_sz fun a => (by simp only [go_sem]) | refine And.intro ?_ ?_); done) | fail) ?_ | fail)
      refine ret_new (by simp only [Try.results22, resOkL, resOk, Try.ntmps22, List.toList_toArray]; first | decide | (simp only [go_sem, hne, sh]; done) | (simp only [go_sem, hne, sh]; and_intros <;> first | omega | rfl | decide)) (by simp only [resA, resV, Try.results22, go_sem, hne, sh]; try rfl) ?_ hn' h0' ?_ (by repeat (first | exact Fr.rfl' _ _ | assumption | refine Fr.updk ?_ (by omega) _)) <;> simp only [go_sem, List.length_map, hne, sh] <;> first | rfl | omega
theorem firstVars_tri (l : List Tm) (hl : Tm.size.sizes l ≤ 4000000) : Tri Try.prog 22 [.d (.sl (l.map tmDV))] (pure' (.d (.sl ((firstVars l).map iD)))) := Tri.data fun n' => firstVars_new l hl n'
end Go.Proofs.Ytmeekpinkfpnhaa
namespace Go.Proofs.Ytmeekpinkfpnhaa
theorem pw3 {n : Int} (h1 : 1 ≤ n) (h3 : n ≤ 3) : ∀ i : Nat, 1 ≤ n ^ i ∧ n ^ i ≤ 3 ^ i
  | 0 => by simp
  | i + 1 => by
    obtain ⟨h4, h5⟩ := pw3 h1 h3 i
    rw [Int.pow_succ, Int.pow_succ]
    have : n = 1 ∨ n = 2 ∨ n = 3 := by omega
    rcases this with rfl | rfl | rfl <;> omega
theorem pw_le {n : Int} (h1 : 1 ≤ n) (h3 : n ≤ 3) {i : Nat} (hi : i ≤ 8) : 1 ≤ n ^ i ∧ n ^ i ≤ 6561 := by
  obtain ⟨h4, h5⟩ := pw3 h1 h3 i
  refine ⟨h4, Int.le_trans h5 ?_⟩
  have : i = 0 ∨ i = 1 ∨ i = 2 ∨ i = 3 ∨ i = 4 ∨ i = 5 ∨ i = 6 ∨ i = 7 ∨ i = 8 := by omega
  rcases this with rfl | rfl | rfl | rfl | rfl | rfl | rfl | rfl | rfl <;> decide
def rowsBad (sz : Int) : List Int → List (List Int) → Bool
  | n :: g, r :: tb => ((r.length : Int) != sz ^ n.toNat) || rowsBad sz g tb
  | _, _ => false
theorem rowsBad_at {sz : Int} {g : List Int} {tb : List (List Int)} {i : Nat} (hi : i < g.length) (hi' : i < tb.length) : rowsBad sz (g.drop i) (tb.drop i) = (((tb[i].length : Int) != sz ^ g[i].toNat) || rowsBad sz (g.drop (i + 1)) (tb.drop (i + 1))) := by
  rw [List.drop_eq_getElem_cons hi, List.drop_eq_getElem_cons hi', rowsBad]
theorem rowsBad_end {sz : Int} {g : List Int} {tb : List (List Int)} {i : Nat} (hi' : tb.length ≤ i) : rowsBad sz (g.drop i) (tb.drop i) = false := by
  rw [List.drop_eq_nil_of_le hi']
  cases g.drop i <;> rfl
def outOf (sz n : Int) : Bool := decide (n < 0) || decide (n ≥ sz)
def mdOk (g : List Int) (sz : Int) (tb : List (List Int)) : Int :=
  if sigOk g ≠ 0 then sigOk g else if sz < 1 ∨ sz > 3 then 3 else if tb.length ≠ g.length then 1 else if rowsBad sz g tb = true then 1 else if (tb.any fun r => r.any (outOf sz)) = true then 5 else 0
theorem sig_each {g : List Int} (h : sigOk g = 0) : ∀ n ∈ g, 0 ≤ n ∧ n ≤ 3 := by
  unfold sigOk at h
  split at h
  · cases h
  · split at h
    · cases h
    · rename_i hn
      intro n hn'
      have : ¬ ((n < 0 || n > 3) = true) := fun hc => hn (List.any_eq_true.2 ⟨n, hn', by simpa using hc⟩)
      simp at this
      omega
theorem sig_len {g : List Int} (h : sigOk g = 0) : g.length ≤ 12 := by
  unfold sigOk at h
  split at h
  · cases h
  · omega
theorem rowsBad_all {sz : Int} : ∀ {g : List Int} {tb : List (List Int)}, rowsBad sz g tb = false → ∀ (i : Nat) (h : i < g.length) (h' : i < tb.length), (tb[i].length : Int) = sz ^ g[i].toNat
  | n :: g, r :: tb, h, i, hi, hi' => by
    rw [rowsBad, Bool.or_eq_false_iff] at h
    cases i with
    | zero => simpa using h.1
    | succ i => simpa using rowsBad_all h.2 i (by simpa using hi) (by simpa using hi')
theorem mdOk_all {g : List Int} {sz : Int} {tb : List (List Int)} (h : mdOk g sz tb = 0) : sigOk g = 0 ∧ 1 ≤ sz ∧ sz ≤ 3 ∧ tb.length = g.length ∧ rowsBad sz g tb = false ∧ ∀ r ∈ tb, ∀ n ∈ r, 0 ≤ n ∧ n < sz := by
  unfold mdOk at h
  by_cases h1 : sigOk g = 0
  · rw [if_neg (by simp [h1])] at h
    by_cases h2 : sz < 1 ∨ sz > 3
    · rw [if_pos h2] at h; cases h
    · rw [if_neg h2] at h
      by_cases h3 : tb.length = g.length
      · rw [if_neg (by simp [h3])] at h
        cases h4 : rowsBad sz g tb with
        | true => rw [h4] at h; simp at h
        | false =>
          rw [h4] at h
          simp only [Bool.false_eq_true, if_false] at h
          cases h5 : tb.any fun r => r.any (outOf sz) with
          | true => rw [h5] at h; simp at h
          | false =>
            refine ⟨h1, by omega, by omega, h3, rfl, fun r hr n hn => ?_⟩
            have h6 := List.any_eq_false.1 h5 r hr
            simp only [Bool.not_eq_true] at h6
            have h7 := List.any_eq_false.1 h6 n hn
            simp [outOf] at h7
            omega
      · rw [if_pos (by simpa using h3)] at h; cases h
  · rw [if_pos (by simpa using h1)] at h; exact absurd h h1
end Go.Proofs.Ytmeekpinkfpnhaa
