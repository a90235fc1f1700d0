/- Functions of Go's library: slices.Index, Contains, IndexFunc, ContainsFunc, Clone. term.walk, term.Walk, with a function that changes objects; term.Stands. The laws' helpers: small, fn, va. Patterns met, bindings grown: what is plain. No program in sight. Clauses tidied, always so, subsumed: what is plain. No program in sight. superposeref.Grow, BoundTo: what is plain. No program in sight. Terms mapped, bindings put in, clauses tidied: what is plain. No program in sight. term.Mapped with any function that looks at objects; term.Copied. -/
import Derived.Test.YtmeekpinkfpnhaaB05
set_option linter.unusedSimpArgs false
set_option linter.unusedSectionVars false
set_option linter.unusedVariables false
set_option linter.unnecessarySimpa false
set_option linter.all false
namespace Go.Proofs.Ytmeekpinkfpnhaa
open Go.RowKit
def idxI (v : Int) : List Int → Nat → Int
  | [], _ => -1
  | x :: l, i => if v == x then i else idxI v l (i + 1)
theorem idxI_go {v : Int} {l : List Int} {i : Nat} (hi : i < l.length) (h : (v == l[i]) = false) : idxI v (l.drop i) i = idxI v (l.drop (i + 1)) (i + 1) := by
  rw [List.drop_eq_getElem_cons hi, idxI, h]; rfl
theorem idxI_at {v : Int} {l : List Int} {i : Nat} (hi : i < l.length) (h : (v == l[i]) = true) : idxI v (l.drop i) i = i := by
  rw [List.drop_eq_getElem_cons hi, idxI, if_pos h]
theorem idxI_nn (v : Int) : ∀ (l : List Int) (i : Nat), decide (idxI v l i ≥ 0) = l.contains v
  | [], _ => rfl
  | x :: l, i => by
    rw [idxI, List.contains_cons]
    by_cases h : v == x
    · rw [if_pos h, h]; simp
    · rw [if_neg h, idxI_nn v l (i + 1)]; simp at h; simp [h]
set_option maxRecDepth 20000 in
theorem index_tri (l : List Int) (hl : l.length ≤ 16777216) (v : Int) : Tri Try.prog 137 [.d (.sl (l.map iD)), iA v] (pure' (iA (idxI v l 0))) := by
  refine tri_enter Try.func137 rfl Try.ntmps137 (by simp only [List.length_cons, List.length_nil]; omega) fun w0 h0 k hrd hwr => ?_
  repeat' (first | refine awp_seq_k fun K hK => ?_ | ((first | refine awp_region_k (by kernel_rfl) fun R hR => ?_ | refine awp_draw mixed (by kernel_rfl) (by kernel_rfl) fun R hR => ?_); simp only [go_sem]) | ((first | (refine hR _ ?_; clear hR R) | refine awp_skip ?_ | refine awp_exit ?_ | refine awp_ret ?_); try simp only [thenA, inBlockA, reduceIte, reduceCtorEq, Nat.reduceEqDiff, if_false, if_true]) | ((first | refine hK _ ?_ | (clear hK K; first | refine hK _ ?_ | (clear hK K; first | refine hK _ ?_ | (clear hK K; first | refine hK _ ?_ | (clear hK K; refine hK _ ?_))))); clear hK K) | refine awp_true rfl rfl ?_ | refine awp_false rfl rfl ?_ | refine awp_block ?_ | refine And.intro (by first | ((repeat' first | omega | exact trivial | rfl | assumption | (intro a e; subst e; rfl) | exact map_sz fun a => (by simp only [go_sem]) | refine And.intro ?_ ?_); done) | fail) ?_ | fail)
  refine awp_loop (fun σ => ∃ i : Nat, σ.t 0 = .d (.sl (l.map iD)) ∧ σ.t 1 = iA v ∧ σ.t 7 = iA l.length ∧ σ.t 8 = iA i ∧ σ.h = h0 ∧ i ≤ l.length ∧ idxI v (l.drop i) i = idxI v l 0) (fun σ => l.length - (intOf' (σ.t 8)).toNat) ?_ ?_
  · refine ⟨0, ?_⟩
    simp only [go_sem]
    and_intros; all_goals try (first | rfl | omega | assumption | ((repeat (first | exact Fr.rfl' _ _ | assumption | refine Fr.updk ?_ (by omega) _)); done))
  · rintro σ ⟨i, s0, s1, s7, s8, sh, hi, hv⟩
    have hfr : Fr k h0 σ.h := by rw [sh]; exact Fr.rfl' _ _
    rcases Nat.lt_or_ge i l.length with hlt | hge
    · have hz : (i : Int) < (l.length : Int) := by omega
      have e1 : (l.map iD).getD i default = iD l[i] := nth_map iD hlt _
      cases hc : v == l[i] with
      | true =>
        rw [idxI_at hlt hc] at hv
        repeat' (first | refine awp_seq_k fun K hK => ?_ | ((first | refine awp_region_k (by kernel_rfl) fun R hR => ?_ | refine awp_draw mixed (by kernel_rfl) (by kernel_rfl) fun R hR => ?_); simp only [go_sem, s0, s1, s7, s8, hz, e1, hc, Int.toNat_natCast]) | ((first | (refine hR _ ?_; clear hR R) | refine awp_skip ?_ | refine awp_exit ?_ | refine awp_ret ?_); try simp only [thenA, inBlockA, reduceIte, reduceCtorEq, Nat.reduceEqDiff, if_false, if_true]) | ((first | refine hK _ ?_ | (clear hK K; first | refine hK _ ?_ | (clear hK K; first | refine hK _ ?_ | (clear hK K; first | refine hK _ ?_ | (clear hK K; refine hK _ ?_))))); clear hK K) | refine awp_true rfl rfl ?_ | refine awp_false rfl rfl ?_ | refine awp_block ?_ | refine And.intro (by first | ((repeat' first | omega | exact trivial | rfl | assumption | (intro a e; subst e; rfl) | exact map_sz fun a => (by simp only [go_sem]) | refine And.intro ?_ ?_); done) | fail) ?_ | fail)
        (first | refine ret_pure ?_ ?_ ?_ | refine ret_ro ?_ ?_ ?_); focus exact (by simp only [Try.results137, resOkL, resOk, Try.ntmps137, List.toList_toArray]; first | decide | (simp only [go_sem]; done) | (simp only [go_sem]; and_intros <;> first | omega | rfl | decide))
        rotate_left; focus exact (by repeat (first | exact Fr.rfl' _ _ | assumption | refine Fr.updk ?_ (by omega) _))
        simp only [resA, resV, Try.results137, go_sem]
        all_goals try (first | exact Co.t2 (.dat rfl) (.dat rfl) | exact Co.t3 (.dat rfl) (.dat rfl) (.dat rfl))
        exact co_i hv
      | false =>
        repeat' (first | refine awp_seq_k fun K hK => ?_ | ((first | refine awp_region_k (by kernel_rfl) fun R hR => ?_ | refine awp_draw mixed (by kernel_rfl) (by kernel_rfl) fun R hR => ?_); simp only [go_sem, s0, s1, s7, s8, hz, e1, hc, Int.toNat_natCast]) | ((first | (refine hR _ ?_; clear hR R) | refine awp_skip ?_ | refine awp_exit ?_ | refine awp_ret ?_); try simp only [thenA, inBlockA, reduceIte, reduceCtorEq, Nat.reduceEqDiff, if_false, if_true]) | ((first | refine hK _ ?_ | (clear hK K; first | refine hK _ ?_ | (clear hK K; first | refine hK _ ?_ | (clear hK K; first | refine hK _ ?_ | (clear hK K; refine hK _ ?_))))); clear hK K) | refine awp_true rfl rfl ?_ | refine awp_false rfl rfl ?_ | refine awp_block ?_ | refine And.intro (by first | ((repeat' first | omega | exact trivial | rfl | assumption | (intro a e; subst e; rfl) | exact map_sz fun a => (by simp only [go_sem]) | refine And.intro ?_ ?_); done) | fail) ?_ | fail)
        refine ⟨⟨i + 1, ?_⟩, ?_⟩
        rotate_left
        · simp only [go_sem, s0, s1, s7, s8, sh]; omega
        simp only [go_sem, s0, s1, s7, s8, sh]
        and_intros; all_goals try (first | rfl | omega | assumption | ((repeat (first | exact Fr.rfl' _ _ | assumption | refine Fr.updk ?_ (by omega) _)); done))
        rw [← hv]; exact (idxI_go hlt hc).symm
    · have hz : ¬ ((i : Int) < (l.length : Int)) := by omega
      rw [List.drop_eq_nil_of_le hge, idxI] at hv
      repeat' (first | refine awp_seq_k fun K hK => ?_ | ((first | refine awp_region_k (by kernel_rfl) fun R hR => ?_ | refine awp_draw mixed (by kernel_rfl) (by kernel_rfl) fun R hR => ?_); simp only [go_sem, s0, s1, s7, s8, hz]) | ((first | (refine hR _ ?_; clear hR R) | refine awp_skip ?_ | refine awp_exit ?_ | refine awp_ret ?_); try simp only [thenA, inBlockA, reduceIte, reduceCtorEq, Nat.reduceEqDiff, if_false, if_true]) | ((first | refine hK _ ?_ | (clear hK K; first | refine hK _ ?_ | (clear hK K; first | refine hK _ ?_ | (clear hK K; first | refine hK _ ?_ | (clear hK K; refine hK _ ?_))))); clear hK K) | refine awp_true rfl rfl ?_ | refine awp_false rfl rfl ?_ | refine awp_block ?_ | refine And.intro (by first | ((repeat' first | omega | exact trivial | rfl | assumption | (intro a e; subst e; rfl) | exact map_sz fun a => (by simp only [go_sem]) | refine And.intro ?_ ?_); done) | fail) ?_ | fail)
      (first | refine ret_pure ?_ ?_ ?_ | refine ret_ro ?_ ?_ ?_); focus exact (by simp only [Try.results137, resOkL, resOk, Try.ntmps137, List.toList_toArray]; first | decide | (simp only [go_sem]; done) | (simp only [go_sem]; and_intros <;> first | omega | rfl | decide))
      rotate_left; focus exact (by repeat (first | exact Fr.rfl' _ _ | assumption | refine Fr.updk ?_ (by omega) _))
      simp only [resA, resV, Try.results137, go_sem]
      all_goals try (first | exact Co.t2 (.dat rfl) (.dat rfl) | exact Co.t3 (.dat rfl) (.dat rfl) (.dat rfl))
      exact co_i hv
set_option maxRecDepth 20000 in
theorem contains_tri (l : List Int) (hl : l.length ≤ 16777216) (v : Int) : Tri Try.prog 113 [.d (.sl (l.map iD)), iA v] (pure' (bA (l.contains v))) := by
  refine tri_enter Try.func113 rfl Try.ntmps113 (by simp only [List.length_cons, List.length_nil]; omega) fun w0 h0 k hrd hwr => ?_
  have e := idxI_nn v l 0
  repeat' (first | refine awp_seq_k fun K hK => ?_ | ((first | refine awp_region_k (by kernel_rfl) fun R hR => ?_ | refine awp_draw mixed (by kernel_rfl) (by kernel_rfl) fun R hR => ?_); simp only [go_sem]) | ((first | (refine hR _ ?_; clear hR R) | refine awp_skip ?_ | refine awp_exit ?_ | refine awp_ret ?_); try simp only [thenA, inBlockA, reduceIte, reduceCtorEq, Nat.reduceEqDiff, if_false, if_true]) | ((first | refine hK _ ?_ | (clear hK K; first | refine hK _ ?_ | (clear hK K; first | refine hK _ ?_ | (clear hK K; first | refine hK _ ?_ | (clear hK K; refine hK _ ?_))))); clear hK K) | refine awp_true rfl rfl ?_ | refine awp_false rfl rfl ?_ | refine awp_block ?_ | ((first | refine CallK.pure (enter137) (index_tri l hl v) ?_ ?_ | refine CallD.pure (enter137) (index_tri l hl v) ?_ ?_); (focus first | ((repeat (first | exact trivial | refine ⟨(by first | exact Or.inl rfl | exact Or.inr rfl), ?_⟩)); done) | (simp only [coL, AV.dat, true_or, or_true, AV.d.injEq, go_sem]; done)); simp only [go_sem]) | refine And.intro (by first | ((repeat' first | omega | exact trivial | rfl | assumption | (intro a e; subst e; rfl) | exact map_sz fun a => (by simp only [go_sem]) | refine And.intro ?_ ?_); done) | fail) ?_ | fail)
  (first | refine ret_pure ?_ ?_ ?_ | refine ret_ro ?_ ?_ ?_); focus exact (by simp only [Try.results113, resOkL, resOk, Try.ntmps113, List.toList_toArray]; first | decide | (simp only [go_sem]; done) | (simp only [go_sem]; and_intros <;> first | omega | rfl | decide))
  rotate_left; focus exact (by repeat (first | exact Fr.rfl' _ _ | assumption | refine Fr.updk ?_ (by omega) _))
  simp only [resA, resV, Try.results113, go_sem]
  all_goals try (first | exact Co.t2 (.dat rfl) (.dat rfl) | exact Co.t3 (.dat rfl) (.dat rfl) (.dat rfl))
  exact co_b e
def idxP {α : Type} (p : α → Bool) : List α → Nat → Int
  | [], _ => -1
  | x :: l, i => if p x = true then i else idxP p l (i + 1)
theorem idxP_go {α : Type} {p : α → Bool} {l : List α} {i : Nat} (hi : i < l.length) (h : p l[i] = false) : idxP p (l.drop i) i = idxP p (l.drop (i + 1)) (i + 1) := by
  rw [List.drop_eq_getElem_cons hi, idxP, h]; rfl
theorem idxP_at {α : Type} {p : α → Bool} {l : List α} {i : Nat} (hi : i < l.length) (h : p l[i] = true) : idxP p (l.drop i) i = i := by
  rw [List.drop_eq_getElem_cons hi, idxP, if_pos h]
theorem idxP_nn {α : Type} (p : α → Bool) : ∀ (l : List α) (i : Nat), decide (idxP p l i ≥ 0) = l.any p
  | [], _ => rfl
  | x :: l, i => by
    rw [idxP, List.any_cons]
    by_cases h : p x = true
    · rw [if_pos h, h]; simp
    · rw [if_neg h, idxP_nn p l (i + 1)]; simp at h; simp [h]
set_option maxRecDepth 20000 in
theorem indexF_ints (l : List (Int)) (hl : l.length ≤ 16777216) (g : FuncId) (hg : enterOk Try.prog g) (caps : List AV) (ro : List (Nm × Ob)) (p : Int → Bool) (hp : ∀ x ∈ l, Tri Try.prog g ([.d (iD x)] ++ caps) (rdE ro (bA (p x)))) :
    Tri Try.prog 110 [.d (.sl (l.map iD)), .fn (.func g) [] caps] (rdE ro (iA (idxP p l 0))) := by
  refine tri_enter_ro Try.func110 rfl Try.ntmps110 (by simp only [List.length_cons, List.length_nil]; omega) fun w0 h0 k hro => ?_
  repeat' (first | refine awp_seq_k fun K hK => ?_ | ((first | refine awp_region_k (by kernel_rfl) fun R hR => ?_ | refine awp_draw mixed (by kernel_rfl) (by kernel_rfl) fun R hR => ?_); simp only [go_sem]) | ((first | (refine hR _ ?_; clear hR R) | refine awp_skip ?_ | refine awp_exit ?_ | refine awp_ret ?_); try simp only [thenA, inBlockA, reduceIte, reduceCtorEq, Nat.reduceEqDiff, if_false, if_true]) | ((first | refine hK _ ?_ | (clear hK K; first | refine hK _ ?_ | (clear hK K; first | refine hK _ ?_ | (clear hK K; first | refine hK _ ?_ | (clear hK K; refine hK _ ?_))))); clear hK K) | refine awp_true rfl rfl ?_ | refine awp_false rfl rfl ?_ | refine awp_block ?_ | refine And.intro (by first | ((repeat' first | omega | exact trivial | rfl | assumption | (intro a e; subst e; rfl) | exact map_sz fun a => (by simp only [go_sem]) | refine And.intro ?_ ?_); done) | fail) ?_ | fail)
  refine awp_loop (fun σ => ∃ i : Nat, σ.t 0 = .d (.sl (l.map iD)) ∧ σ.t 1 = .fn (.func g) [] caps ∧ σ.t 7 = iA l.length ∧ σ.t 8 = iA i ∧ σ.h = h0 ∧ i ≤ l.length ∧ idxP p (l.drop i) i = idxP p l 0) (fun σ => l.length - (intOf' (σ.t 8)).toNat) ?_ ?_
  · refine ⟨0, ?_⟩
    simp only [go_sem]
    and_intros; all_goals try (first | rfl | omega | assumption | ((repeat (first | exact Fr.rfl' _ _ | assumption | refine Fr.updk ?_ (by omega) _)); done))
  · rintro σ ⟨i, s0, s1, s7, s8, sh, hi, hv⟩
    have hfr : Fr k h0 σ.h := by rw [sh]; exact Fr.rfl' _ _
    rcases Nat.lt_or_ge i l.length with hlt | hge
    · have hz : (i : Int) < (l.length : Int) := by omega
      have e1 : (l.map iD).getD i default = iD l[i] := nth_map iD hlt _
      have hc1 := hp l[i] (List.getElem_mem hlt)
      cases hc : p l[i] with
      | true =>
        rw [idxP_at hlt hc] at hv
        rw [hc] at hc1
        repeat' (first | refine awp_seq_k fun K hK => ?_ | ((first | refine awp_region_k (by kernel_rfl) fun R hR => ?_ | refine awp_draw mixed (by kernel_rfl) (by kernel_rfl) fun R hR => ?_); simp only [go_sem, s0, s1, s7, s8, hz, e1, hc, Int.toNat_natCast]) | ((first | (refine hR _ ?_; clear hR R) | refine awp_skip ?_ | refine awp_exit ?_ | refine awp_ret ?_); try simp only [thenA, inBlockA, reduceIte, reduceCtorEq, Nat.reduceEqDiff, if_false, if_true]) | ((first | refine hK _ ?_ | (clear hK K; first | refine hK _ ?_ | (clear hK K; first | refine hK _ ?_ | (clear hK K; first | refine hK _ ?_ | (clear hK K; refine hK _ ?_))))); clear hK K) | refine awp_true rfl rfl ?_ | refine awp_false rfl rfl ?_ | refine awp_block ?_ | ((first | refine CallK.vlook rfl (hg) (hc1) ?_ (by assumption) (by repeat (first | exact Fr.rfl' _ _ | assumption | refine Fr.updk ?_ (by omega) _)) ?_ | refine CallD.vlook rfl (hg) (hc1) ?_ (by assumption) (by repeat (first | exact Fr.rfl' _ _ | assumption | refine Fr.updk ?_ (by omega) _)) (by first | assumption | exact List.cons_ne_nil _ _) ?_); (focus first | ((repeat (first | exact trivial | refine ⟨(by first | exact Or.inl rfl | exact Or.inr rfl), ?_⟩)); done) | (simp only [coL, AV.dat, true_or, or_true, AV.d.injEq, go_sem]; done)); simp only [go_sem, s0, s1, s7, s8, hz, e1, hc, Int.toNat_natCast]) | refine And.intro (by first | ((repeat' first | omega | exact trivial | rfl | assumption | (intro a e; subst e; rfl) | exact map_sz fun a => (by simp only [go_sem]) | refine And.intro ?_ ?_); done) | fail) ?_ | fail)
        (first | refine ret_pure ?_ ?_ ?_ | refine ret_ro ?_ ?_ ?_); focus exact (by simp only [Try.results110, resOkL, resOk, Try.ntmps110, List.toList_toArray]; first | decide | (simp only [go_sem]; done) | (simp only [go_sem]; and_intros <;> first | omega | rfl | decide))
        rotate_left; focus exact (by repeat (first | exact Fr.rfl' _ _ | assumption | refine Fr.updk ?_ (by omega) _))
        simp only [resA, resV, Try.results110, go_sem]
        all_goals try (first | exact Co.t2 (.dat rfl) (.dat rfl) | exact Co.t3 (.dat rfl) (.dat rfl) (.dat rfl))
        exact co_i hv
      | false =>
        rw [hc] at hc1
        repeat' (first | refine awp_seq_k fun K hK => ?_ | ((first | refine awp_region_k (by kernel_rfl) fun R hR => ?_ | refine awp_draw mixed (by kernel_rfl) (by kernel_rfl) fun R hR => ?_); simp only [go_sem, s0, s1, s7, s8, hz, e1, hc, Int.toNat_natCast]) | ((first | (refine hR _ ?_; clear hR R) | refine awp_skip ?_ | refine awp_exit ?_ | refine awp_ret ?_); try simp only [thenA, inBlockA, reduceIte, reduceCtorEq, Nat.reduceEqDiff, if_false, if_true]) | ((first | refine hK _ ?_ | (clear hK K; first | refine hK _ ?_ | (clear hK K; first | refine hK _ ?_ | (clear hK K; first | refine hK _ ?_ | (clear hK K; refine hK _ ?_))))); clear hK K) | refine awp_true rfl rfl ?_ | refine awp_false rfl rfl ?_ | refine awp_block ?_ | ((first | refine CallK.vlook rfl (hg) (hc1) ?_ (by assumption) (by repeat (first | exact Fr.rfl' _ _ | assumption | refine Fr.updk ?_ (by omega) _)) ?_ | refine CallD.vlook rfl (hg) (hc1) ?_ (by assumption) (by repeat (first | exact Fr.rfl' _ _ | assumption | refine Fr.updk ?_ (by omega) _)) (by first | assumption | exact List.cons_ne_nil _ _) ?_); (focus first | ((repeat (first | exact trivial | refine ⟨(by first | exact Or.inl rfl | exact Or.inr rfl), ?_⟩)); done) | (simp only [coL, AV.dat, true_or, or_true, AV.d.injEq, go_sem]; done)); simp only [go_sem, s0, s1, s7, s8, hz, e1, hc, Int.toNat_natCast]) | refine And.intro (by first | ((repeat' first | omega | exact trivial | rfl | assumption | (intro a e; subst e; rfl) | exact map_sz fun a => (by simp only [go_sem]) | refine And.intro ?_ ?_); done) | fail) ?_ | fail)
        refine ⟨⟨i + 1, ?_⟩, ?_⟩
        rotate_left
        · simp only [go_sem, s0, s1, s7, s8, sh]; omega
        simp only [go_sem, s0, s1, s7, s8, sh]
        and_intros; all_goals try (first | rfl | omega | assumption | ((repeat (first | exact Fr.rfl' _ _ | assumption | refine Fr.updk ?_ (by omega) _)); done))
        rw [← hv]; exact (idxP_go hlt hc).symm
    · have hz : ¬ ((i : Int) < (l.length : Int)) := by omega
      rw [List.drop_eq_nil_of_le hge, idxP] at hv
      repeat' (first | refine awp_seq_k fun K hK => ?_ | ((first | refine awp_region_k (by kernel_rfl) fun R hR => ?_ | refine awp_draw mixed (by kernel_rfl) (by kernel_rfl) fun R hR => ?_); simp only [go_sem, s0, s1, s7, s8, hz]) | ((first | (refine hR _ ?_; clear hR R) | refine awp_skip ?_ | refine awp_exit ?_ | refine awp_ret ?_); try simp only [thenA, inBlockA, reduceIte, reduceCtorEq, Nat.reduceEqDiff, if_false, if_true]) | ((first | refine hK _ ?_ | (clear hK K; first | refine hK _ ?_ | (clear hK K; first | refine hK _ ?_ | (clear hK K; first | refine hK _ ?_ | (clear hK K; refine hK _ ?_))))); clear hK K) | refine awp_true rfl rfl ?_ | refine awp_false rfl rfl ?_ | refine awp_block ?_ | refine And.intro (by first | ((repeat' first | omega | exact trivial | rfl | assumption | (intro a e; subst e; rfl) | exact map_sz fun a => (by simp only [go_sem]) | refine And.intro ?_ ?_); done) | fail) ?_ | fail)
      (first | refine ret_pure ?_ ?_ ?_ | refine ret_ro ?_ ?_ ?_); focus exact (by simp only [Try.results110, resOkL, resOk, Try.ntmps110, List.toList_toArray]; first | decide | (simp only [go_sem]; done) | (simp only [go_sem]; and_intros <;> first | omega | rfl | decide))
      rotate_left; focus exact (by repeat (first | exact Fr.rfl' _ _ | assumption | refine Fr.updk ?_ (by omega) _))
      simp only [resA, resV, Try.results110, go_sem]
      all_goals try (first | exact Co.t2 (.dat rfl) (.dat rfl) | exact Co.t3 (.dat rfl) (.dat rfl) (.dat rfl))
      exact co_i hv
set_option maxRecDepth 20000 in
theorem containsF_ints (l : List (Int)) (hl : l.length ≤ 16777216) (g : FuncId) (hg : enterOk Try.prog g) (caps : List AV) (ro : List (Nm × Ob)) (p : Int → Bool) (hp : ∀ x ∈ l, Tri Try.prog g ([.d (iD x)] ++ caps) (rdE ro (bA (p x)))) :
    Tri Try.prog 69 [.d (.sl (l.map iD)), .fn (.func g) [] caps] (rdE ro (bA (l.any p))) := by
  refine tri_enter_ro Try.func69 rfl Try.ntmps69 (by simp only [List.length_cons, List.length_nil]; omega) fun w0 h0 k hro => ?_
  have e := idxP_nn p l 0
  repeat' (first | refine awp_seq_k fun K hK => ?_ | ((first | refine awp_region_k (by kernel_rfl) fun R hR => ?_ | refine awp_draw mixed (by kernel_rfl) (by kernel_rfl) fun R hR => ?_); simp only [go_sem]) | ((first | (refine hR _ ?_; clear hR R) | refine awp_skip ?_ | refine awp_exit ?_ | refine awp_ret ?_); try simp only [thenA, inBlockA, reduceIte, reduceCtorEq, Nat.reduceEqDiff, if_false, if_true]) | ((first | refine hK _ ?_ | (clear hK K; first | refine hK _ ?_ | (clear hK K; first | refine hK _ ?_ | (clear hK K; first | refine hK _ ?_ | (clear hK K; refine hK _ ?_))))); clear hK K) | refine awp_true rfl rfl ?_ | refine awp_false rfl rfl ?_ | refine awp_block ?_ | ((first | refine CallK.look (enter110) (indexF_ints l hl g hg caps ro p hp) ?_ (by assumption) (by repeat (first | exact Fr.rfl' _ _ | assumption | refine Fr.updk ?_ (by omega) _)) ?_ | refine CallD.look (enter110) (indexF_ints l hl g hg caps ro p hp) ?_ (by assumption) (by repeat (first | exact Fr.rfl' _ _ | assumption | refine Fr.updk ?_ (by omega) _)) (by first | assumption | exact List.cons_ne_nil _ _) ?_); (focus first | ((repeat (first | exact trivial | refine ⟨(by first | exact Or.inl rfl | exact Or.inr rfl), ?_⟩)); done) | (simp only [coL, AV.dat, true_or, or_true, AV.d.injEq, go_sem]; done)); simp only [go_sem]) | refine And.intro (by first | ((repeat' first | omega | exact trivial | rfl | assumption | (intro a e; subst e; rfl) | exact map_sz fun a => (by simp only [go_sem]) | refine And.intro ?_ ?_); done) | fail) ?_ | fail)
  (first | refine ret_pure ?_ ?_ ?_ | refine ret_ro ?_ ?_ ?_); focus exact (by simp only [Try.results69, resOkL, resOk, Try.ntmps69, List.toList_toArray]; first | decide | (simp only [go_sem]; done) | (simp only [go_sem]; and_intros <;> first | omega | rfl | decide))
  rotate_left; focus exact (by repeat (first | exact Fr.rfl' _ _ | assumption | refine Fr.updk ?_ (by omega) _))
  simp only [resA, resV, Try.results69, go_sem]
  all_goals try (first | exact Co.t2 (.dat rfl) (.dat rfl) | exact Co.t3 (.dat rfl) (.dat rfl) (.dat rfl))
  exact co_b e
set_option maxRecDepth 20000 in
theorem indexF_lits (l : List (Lt)) (hl : l.length ≤ 16777216) (g : FuncId) (hg : enterOk Try.prog g) (caps : List AV) (ro : List (Nm × Ob)) (p : Lt → Bool) (hp : ∀ x ∈ l, Tri Try.prog g ([.d (ltDV x)] ++ caps) (rdE ro (bA (p x)))) :
    Tri Try.prog 114 [.d (.sl (l.map ltDV)), .fn (.func g) [] caps] (rdE ro (iA (idxP p l 0))) := by
  refine tri_enter_ro Try.func114 rfl Try.ntmps114 (by simp only [List.length_cons, List.length_nil]; omega) fun w0 h0 k hro => ?_
  repeat' (first | refine awp_seq_k fun K hK => ?_ | ((first | refine awp_region_k (by kernel_rfl) fun R hR => ?_ | refine awp_draw mixed (by kernel_rfl) (by kernel_rfl) fun R hR => ?_); simp only [go_sem]) | ((first | (refine hR _ ?_; clear hR R) | refine awp_skip ?_ | refine awp_exit ?_ | refine awp_ret ?_); try simp only [thenA, inBlockA, reduceIte, reduceCtorEq, Nat.reduceEqDiff, if_false, if_true]) | ((first | refine hK _ ?_ | (clear hK K; first | refine hK _ ?_ | (clear hK K; first | refine hK _ ?_ | (clear hK K; first | refine hK _ ?_ | (clear hK K; refine hK _ ?_))))); clear hK K) | refine awp_true rfl rfl ?_ | refine awp_false rfl rfl ?_ | refine awp_block ?_ | refine And.intro (by first | ((repeat' first | omega | exact trivial | rfl | assumption | (intro a e; subst e; rfl) | exact map_sz fun a => (by simp only [go_sem]) | refine And.intro ?_ ?_); done) | fail) ?_ | fail)
  refine awp_loop (fun σ => ∃ i : Nat, σ.t 0 = .d (.sl (l.map ltDV)) ∧ σ.t 1 = .fn (.func g) [] caps ∧ σ.t 7 = iA l.length ∧ σ.t 8 = iA i ∧ σ.h = h0 ∧ i ≤ l.length ∧ idxP p (l.drop i) i = idxP p l 0) (fun σ => l.length - (intOf' (σ.t 8)).toNat) ?_ ?_
  · refine ⟨0, ?_⟩
    simp only [go_sem]
    and_intros; all_goals try (first | rfl | omega | assumption | ((repeat (first | exact Fr.rfl' _ _ | assumption | refine Fr.updk ?_ (by omega) _)); done))
  · rintro σ ⟨i, s0, s1, s7, s8, sh, hi, hv⟩
    have hfr : Fr k h0 σ.h := by rw [sh]; exact Fr.rfl' _ _
    rcases Nat.lt_or_ge i l.length with hlt | hge
    · have hz : (i : Int) < (l.length : Int) := by omega
      have e1 : (l.map ltDV).getD i default = ltDV l[i] := nth_map ltDV hlt _
      have hc1 := hp l[i] (List.getElem_mem hlt)
      cases hc : p l[i] with
      | true =>
        rw [idxP_at hlt hc] at hv
        rw [hc] at hc1
        repeat' (first | refine awp_seq_k fun K hK => ?_ | ((first | refine awp_region_k (by kernel_rfl) fun R hR => ?_ | refine awp_draw mixed (by kernel_rfl) (by kernel_rfl) fun R hR => ?_); simp only [go_sem, s0, s1, s7, s8, hz, e1, hc, Int.toNat_natCast]) | ((first | (refine hR _ ?_; clear hR R) | refine awp_skip ?_ | refine awp_exit ?_ | refine awp_ret ?_); try simp only [thenA, inBlockA, reduceIte, reduceCtorEq, Nat.reduceEqDiff, if_false, if_true]) | ((first | refine hK _ ?_ | (clear hK K; first | refine hK _ ?_ | (clear hK K; first | refine hK _ ?_ | (clear hK K; first | refine hK _ ?_ | (clear hK K; refine hK _ ?_))))); clear hK K) | refine awp_true rfl rfl ?_ | refine awp_false rfl rfl ?_ | refine awp_block ?_ | ((first | refine CallK.vlook rfl (hg) (hc1) ?_ (by assumption) (by repeat (first | exact Fr.rfl' _ _ | assumption | refine Fr.updk ?_ (by omega) _)) ?_ | refine CallD.vlook rfl (hg) (hc1) ?_ (by assumption) (by repeat (first | exact Fr.rfl' _ _ | assumption | refine Fr.updk ?_ (by omega) _)) (by first | assumption | exact List.cons_ne_nil _ _) ?_); (focus first | ((repeat (first | exact trivial | refine ⟨(by first | exact Or.inl rfl | exact Or.inr rfl), ?_⟩)); done) | (simp only [coL, AV.dat, true_or, or_true, AV.d.injEq, go_sem]; done)); simp only [go_sem, s0, s1, s7, s8, hz, e1, hc, Int.toNat_natCast]) | refine And.intro (by first | ((repeat' first | omega | exact trivial | rfl | assumption | (intro a e; subst e; rfl) | exact map_sz fun a => (by simp only [go_sem]) | refine And.intro ?_ ?_); done) | fail) ?_ | fail)
        (first | refine ret_pure ?_ ?_ ?_ | refine ret_ro ?_ ?_ ?_); focus exact (by simp only [Try.results114, resOkL, resOk, Try.ntmps114, List.toList_toArray]; first | decide | (simp only [go_sem]; done) | (simp only [go_sem]; and_intros <;> first | omega | rfl | decide))
        rotate_left; focus exact (by repeat (first | exact Fr.rfl' _ _ | assumption | refine Fr.updk ?_ (by omega) _))
        simp only [resA, resV, Try.results114, go_sem]
        all_goals try (first | exact Co.t2 (.dat rfl) (.dat rfl) | exact Co.t3 (.dat rfl) (.dat rfl) (.dat rfl))
        exact co_i hv
      | false =>
        rw [hc] at hc1
        repeat' (first | refine awp_seq_k fun K hK => ?_ | ((first | refine awp_region_k (by kernel_rfl) fun R hR => ?_ | refine awp_draw mixed (by kernel_rfl) (by kernel_rfl) fun R hR => ?_); simp only [go_sem, s0, s1, s7, s8, hz, e1, hc, Int.toNat_natCast]) | ((first | (refine hR _ ?_; clear hR R) | refine awp_skip ?_ | refine awp_exit ?_ | refine awp_ret ?_); try simp only [thenA, inBlockA, reduceIte, reduceCtorEq, Nat.reduceEqDiff, if_false, if_true]) | ((first | refine hK _ ?_ | (clear hK K; first | refine hK _ ?_ | (clear hK K; first | refine hK _ ?_ | (clear hK K; first | refine hK _ ?_ | (clear hK K; refine hK _ ?_))))); clear hK K) | refine awp_true rfl rfl ?_ | refine awp_false rfl rfl ?_ | refine awp_block ?_ | ((first | refine CallK.vlook rfl (hg) (hc1) ?_ (by assumption) (by repeat (first | exact Fr.rfl' _ _ | assumption | refine Fr.updk ?_ (by omega) _)) ?_ | refine CallD.vlook rfl (hg) (hc1) ?_ (by assumption) (by repeat (first | exact Fr.rfl' _ _ | assumption | refine Fr.updk ?_ (by omega) _)) (by first | assumption | exact List.cons_ne_nil _ _) ?_); (focus first | ((repeat (first | exact trivial | refine ⟨(by first | exact Or.inl rfl | exact Or.inr rfl), ?_⟩)); done) | (simp only [coL, AV.dat, true_or, or_true, AV.d.injEq, go_sem]; done)); simp only [go_sem, s0, s1, s7, s8, hz, e1, hc, Int.toNat_natCast]) | refine And.intro (by first | ((repeat' first | omega | exact trivial | rfl | assumption | (intro a e; subst e; rfl) | exact map_sz fun a => (by simp only [go_sem]) | refine And.intro ?_ ?_); done) | fail) ?_ | fail)
        refine ⟨⟨i + 1, ?_⟩, ?_⟩
        rotate_left
        · simp only [go_sem, s0, s1, s7, s8, sh]; omega
        simp only [go_sem, s0, s1, s7, s8, sh]
        and_intros; all_goals try (first | rfl | omega | assumption | ((repeat (first | exact Fr.rfl' _ _ | assumption | refine Fr.updk ?_ (by omega) _)); done))
        rw [← hv]; exact (idxP_go hlt hc).symm
    · have hz : ¬ ((i : Int) < (l.length : Int)) := by omega
      rw [List.drop_eq_nil_of_le hge, idxP] at hv
      repeat' (first | refine awp_seq_k fun K hK => ?_ | ((first | refine awp_region_k (by kernel_rfl) fun R hR => ?_ | refine awp_draw mixed (by kernel_rfl) (by kernel_rfl) fun R hR => ?_); simp only [go_sem, s0, s1, s7, s8, hz]) | ((first | (refine hR _ ?_; clear hR R) | refine awp_skip ?_ | refine awp_exit ?_ | refine awp_ret ?_); try simp only [thenA, inBlockA, reduceIte, reduceCtorEq, Nat.reduceEqDiff, if_false, if_true]) | ((first | refine hK _ ?_ | (clear hK K; first | refine hK _ ?_ | (clear hK K; first | refine hK _ ?_ | (clear hK K; first | refine hK _ ?_ | (clear hK K; refine hK _ ?_))))); clear hK K) | refine awp_true rfl rfl ?_ | refine awp_false rfl rfl ?_ | refine awp_block ?_ | refine And.intro (by first | ((repeat' first | omega | exact trivial | rfl | assumption | (intro a e; subst e; rfl) | exact map_sz fun a => (by simp only [go_sem]) | refine And.intro ?_ ?_); done) | fail) ?_ | fail)
      (first | refine ret_pure ?_ ?_ ?_ | refine ret_ro ?_ ?_ ?_); focus exact (by simp only [Try.results114, resOkL, resOk, Try.ntmps114, List.toList_toArray]; first | decide | (simp only [go_sem]; done) | (simp only [go_sem]; and_intros <;> first | omega | rfl | decide))
      rotate_left; focus exact (by repeat (first | exact Fr.rfl' _ _ | assumption | refine Fr.updk ?_ (by omega) _))
      simp only [resA, resV, Try.results114, go_sem]
      all_goals try (first | exact Co.t2 (.dat rfl) (.dat rfl) | exact Co.t3 (.dat rfl) (.dat rfl) (.dat rfl))
      exact co_i hv
set_option maxRecDepth 20000 in
theorem containsF_lits (l : List (Lt)) (hl : l.length ≤ 16777216) (g : FuncId) (hg : enterOk Try.prog g) (caps : List AV) (ro : List (Nm × Ob)) (p : Lt → Bool) (hp : ∀ x ∈ l, Tri Try.prog g ([.d (ltDV x)] ++ caps) (rdE ro (bA (p x)))) :
    Tri Try.prog 78 [.d (.sl (l.map ltDV)), .fn (.func g) [] caps] (rdE ro (bA (l.any p))) := by
  refine tri_enter_ro Try.func78 rfl Try.ntmps78 (by simp only [List.length_cons, List.length_nil]; omega) fun w0 h0 k hro => ?_
  have e := idxP_nn p l 0
  repeat' (first | refine awp_seq_k fun K hK => ?_ | ((first | refine awp_region_k (by kernel_rfl) fun R hR => ?_ | refine awp_draw mixed (by kernel_rfl) (by kernel_rfl) fun R hR => ?_); simp only [go_sem]) | ((first | (refine hR _ ?_; clear hR R) | refine awp_skip ?_ | refine awp_exit ?_ | refine awp_ret ?_); try simp only [thenA, inBlockA, reduceIte, reduceCtorEq, Nat.reduceEqDiff, if_false, if_true]) | ((first | refine hK _ ?_ | (clear hK K; first | refine hK _ ?_ | (clear hK K; first | refine hK _ ?_ | (clear hK K; first | refine hK _ ?_ | (clear hK K; refine hK _ ?_))))); clear hK K) | refine awp_true rfl rfl ?_ | refine awp_false rfl rfl ?_ | refine awp_block ?_ | ((first | refine CallK.look (enter114) (indexF_lits l hl g hg caps ro p hp) ?_ (by assumption) (by repeat (first | exact Fr.rfl' _ _ | assumption | refine Fr.updk ?_ (by omega) _)) ?_ | refine CallD.look (enter114) (indexF_lits l hl g hg caps ro p hp) ?_ (by assumption) (by repeat (first | exact Fr.rfl' _ _ | assumption | refine Fr.updk ?_ (by omega) _)) (by first | assumption | exact List.cons_ne_nil _ _) ?_); (focus first | ((repeat (first | exact trivial | refine ⟨(by first | exact Or.inl rfl | exact Or.inr rfl), ?_⟩)); done) | (simp only [coL, AV.dat, true_or, or_true, AV.d.injEq, go_sem]; done)); simp only [go_sem]) | refine And.intro (by first | ((repeat' first | omega | exact trivial | rfl | assumption | (intro a e; subst e; rfl) | exact map_sz fun a => (by simp only [go_sem]) | refine And.intro ?_ ?_); done) | fail) ?_ | fail)
  (first | refine ret_pure ?_ ?_ ?_ | refine ret_ro ?_ ?_ ?_); focus exact (by simp only [Try.results78, resOkL, resOk, Try.ntmps78, List.toList_toArray]; first | decide | (simp only [go_sem]; done) | (simp only [go_sem]; and_intros <;> first | omega | rfl | decide))
  rotate_left; focus exact (by repeat (first | exact Fr.rfl' _ _ | assumption | refine Fr.updk ?_ (by omega) _))
  simp only [resA, resV, Try.results78, go_sem]
  all_goals try (first | exact Co.t2 (.dat rfl) (.dat rfl) | exact Co.t3 (.dat rfl) (.dat rfl) (.dat rfl))
  exact co_b e
set_option maxRecDepth 20000 in
theorem indexF_rows (l : List (List Int)) (hl : l.length ≤ 16777216) (g : FuncId) (hg : enterOk Try.prog g) (caps : List AV) (ro : List (Nm × Ob)) (p : List Int → Bool) (hp : ∀ x ∈ l, Tri Try.prog g ([.d (gI x)] ++ caps) (rdE ro (bA (p x)))) :
    Tri Try.prog 115 [.d (.sl (l.map gI)), .fn (.func g) [] caps] (rdE ro (iA (idxP p l 0))) := by
  refine tri_enter_ro Try.func115 rfl Try.ntmps115 (by simp only [List.length_cons, List.length_nil]; omega) fun w0 h0 k hro => ?_
  repeat' (first | refine awp_seq_k fun K hK => ?_ | ((first | refine awp_region_k (by kernel_rfl) fun R hR => ?_ | refine awp_draw mixed (by kernel_rfl) (by kernel_rfl) fun R hR => ?_); simp only [go_sem]) | ((first | (refine hR _ ?_; clear hR R) | refine awp_skip ?_ | refine awp_exit ?_ | refine awp_ret ?_); try simp only [thenA, inBlockA, reduceIte, reduceCtorEq, Nat.reduceEqDiff, if_false, if_true]) | ((first | refine hK _ ?_ | (clear hK K; first | refine hK _ ?_ | (clear hK K; first | refine hK _ ?_ | (clear hK K; first | refine hK _ ?_ | (clear hK K; refine hK _ ?_))))); clear hK K) | refine awp_true rfl rfl ?_ | refine awp_false rfl rfl ?_ | refine awp_block ?_ | refine And.intro (by first | ((repeat' first | omega | exact trivial | rfl | assumption | (intro a e; subst e; rfl) | exact map_sz fun a => (by simp only [go_sem]) | refine And.intro ?_ ?_); done) | fail) ?_ | fail)
  refine awp_loop (fun σ => ∃ i : Nat, σ.t 0 = .d (.sl (l.map gI)) ∧ σ.t 1 = .fn (.func g) [] caps ∧ σ.t 7 = iA l.length ∧ σ.t 8 = iA i ∧ σ.h = h0 ∧ i ≤ l.length ∧ idxP p (l.drop i) i = idxP p l 0) (fun σ => l.length - (intOf' (σ.t 8)).toNat) ?_ ?_
  · refine ⟨0, ?_⟩
    simp only [go_sem]
    and_intros; all_goals try (first | rfl | omega | assumption | ((repeat (first | exact Fr.rfl' _ _ | assumption | refine Fr.updk ?_ (by omega) _)); done))
  · rintro σ ⟨i, s0, s1, s7, s8, sh, hi, hv⟩
    have hfr : Fr k h0 σ.h := by rw [sh]; exact Fr.rfl' _ _
    rcases Nat.lt_or_ge i l.length with hlt | hge
    · have hz : (i : Int) < (l.length : Int) := by omega
      have e1 : (l.map gI).getD i default = gI l[i] := nth_map gI hlt _
      have hc1 := hp l[i] (List.getElem_mem hlt)
      cases hc : p l[i] with
      | true =>
        rw [idxP_at hlt hc] at hv
        rw [hc] at hc1
        repeat' (first | refine awp_seq_k fun K hK => ?_ | ((first | refine awp_region_k (by kernel_rfl) fun R hR => ?_ | refine awp_draw mixed (by kernel_rfl) (by kernel_rfl) fun R hR => ?_); simp only [go_sem, s0, s1, s7, s8, hz, e1, hc, Int.toNat_natCast]) | ((first | (refine hR _ ?_; clear hR R) | refine awp_skip ?_ | refine awp_exit ?_ | refine awp_ret ?_); try simp only [thenA, inBlockA, reduceIte, reduceCtorEq, Nat.reduceEqDiff, if_false, if_true]) | ((first | refine hK _ ?_ | (clear hK K; first | refine hK _ ?_ | (clear hK K; first | refine hK _ ?_ | (clear hK K; first | refine hK _ ?_ | (clear hK K; refine hK _ ?_))))); clear hK K) | refine awp_true rfl rfl ?_ | refine awp_false rfl rfl ?_ | refine awp_block ?_ | ((first | refine CallK.vlook rfl (hg) (hc1) ?_ (by assumption) (by repeat (first | exact Fr.rfl' _ _ | assumption | refine Fr.updk ?_ (by omega) _)) ?_ | refine CallD.vlook rfl (hg) (hc1) ?_ (by assumption) (by repeat (first | exact Fr.rfl' _ _ | assumption | refine Fr.updk ?_ (by omega) _)) (by first | assumption | exact List.cons_ne_nil _ _) ?_); (focus first | ((repeat (first | exact trivial | refine ⟨(by first | exact Or.inl rfl | exact Or.inr rfl), ?_⟩)); done) | (simp only [coL, AV.dat, true_or, or_true, AV.d.injEq, go_sem]; done)); simp only [go_sem, s0, s1, s7, s8, hz, e1, hc, Int.toNat_natCast]) | refine And.intro (by first | ((repeat' first | omega | exact trivial | rfl | assumption | (intro a e; subst e; rfl) | exact map_sz fun a => (by simp only [go_sem]) | refine And.intro ?_ ?_); done) | fail) ?_ | fail)
        (first | refine ret_pure ?_ ?_ ?_ | refine ret_ro ?_ ?_ ?_); focus exact (by simp only [Try.results115, resOkL, resOk, Try.ntmps115, List.toList_toArray]; first | decide | (simp only [go_sem]; done) | (simp only [go_sem]; and_intros <;> first | omega | rfl | decide))
        rotate_left; focus exact (by repeat (first | exact Fr.rfl' _ _ | assumption | refine Fr.updk ?_ (by omega) _))
        simp only [resA, resV, Try.results115, go_sem]
        all_goals try (first | exact Co.t2 (.dat rfl) (.dat rfl) | exact Co.t3 (.dat rfl) (.dat rfl) (.dat rfl))
        exact co_i hv
      | false =>
        rw [hc] at hc1
        repeat' (first | refine awp_seq_k fun K hK => ?_ | ((first | refine awp_region_k (by kernel_rfl) fun R hR => ?_ | refine awp_draw mixed (by kernel_rfl) (by kernel_rfl) fun R hR => ?_); simp only [go_sem, s0, s1, s7, s8, hz, e1, hc, Int.toNat_natCast]) | ((first | (refine hR _ ?_; clear hR R) | refine awp_skip ?_ | refine awp_exit ?_ | refine awp_ret ?_); try simp only [thenA, inBlockA, reduceIte, reduceCtorEq, Nat.reduceEqDiff, if_false, if_true]) | ((first | refine hK _ ?_ | (clear hK K; first | refine hK _ ?_ | (clear hK K; first | refine hK _ ?_ | (clear hK K; first | refine hK _ ?_ | (clear hK K; refine hK _ ?_))))); clear hK K) | refine awp_true rfl rfl ?_ | refine awp_false rfl rfl ?_ | refine awp_block ?_ | ((first | refine CallK.vlook rfl (hg) (hc1) ?_ (by assumption) (by repeat (first | exact Fr.rfl' _ _ | assumption | refine Fr.updk ?_ (by omega) _)) ?_ | refine CallD.vlook rfl (hg) (hc1) ?_ (by assumption) (by repeat (first | exact Fr.rfl' _ _ | assumption | refine Fr.updk ?_ (by omega) _)) (by first | assumption | exact List.cons_ne_nil _ _) ?_); (focus first | ((repeat (first | exact trivial | refine ⟨(by first | exact Or.inl rfl | exact Or.inr rfl), ?_⟩)); done) | (simp only [coL, AV.dat, true_or, or_true, AV.d.injEq, go_sem]; done)); simp only [go_sem, s0, s1, s7, s8, hz, e1, hc, Int.toNat_natCast]) | refine And.intro (by first | ((repeat' first | omega | exact trivial | rfl | assumption | (intro a e; subst e; rfl) | exact map_sz fun a => (by simp only [go_sem]) | refine And.intro ?_ ?_); done) | fail) ?_ | fail)
        refine ⟨⟨i + 1, ?_⟩, ?_⟩
        rotate_left
        · simp only [go_sem, s0, s1, s7, s8, sh]; omega
        simp only [go_sem, s0, s1, s7, s8, sh]
        and_intros; all_goals try (first | rfl | omega | assumption | ((repeat (first | exact Fr.rfl' _ _ | assumption | refine Fr.updk ?_ (by omega) _)); done))
        rw [← hv]; exact (idxP_go hlt hc).symm
    · have hz : ¬ ((i : Int) < (l.length : Int)) := by omega
      rw [List.drop_eq_nil_of_le hge, idxP] at hv
      repeat' (first | refine awp_seq_k fun K hK => ?_ | ((first | refine awp_region_k (by kernel_rfl) fun R hR => ?_ | refine awp_draw mixed (by kernel_rfl) (by kernel_rfl) fun R hR => ?_); simp only [go_sem, s0, s1, s7, s8, hz]) | ((first | (refine hR _ ?_; clear hR R) | refine awp_skip ?_ | refine awp_exit ?_ | refine awp_ret ?_); try simp only [thenA, inBlockA, reduceIte, reduceCtorEq, Nat.reduceEqDiff, if_false, if_true]) | ((first | refine hK _ ?_ | (clear hK K; first | refine hK _ ?_ | (clear hK K; first | refine hK _ ?_ | (clear hK K; first | refine hK _ ?_ | (clear hK K; refine hK _ ?_))))); clear hK K) | refine awp_true rfl rfl ?_ | refine awp_false rfl rfl ?_ | refine awp_block ?_ | refine And.intro (by first | ((repeat' first | omega | exact trivial | rfl | assumption | (intro a e; subst e; rfl) | exact map_sz fun a => (by simp only [go_sem]) | refine And.intro ?_ ?_); done) | fail) ?_ | fail)
      (first | refine ret_pure ?_ ?_ ?_ | refine ret_ro ?_ ?_ ?_); focus exact (by simp only [Try.results115, resOkL, resOk, Try.ntmps115, List.toList_toArray]; first | decide | (simp only [go_sem]; done) | (simp only [go_sem]; and_intros <;> first | omega | rfl | decide))
      rotate_left; focus exact (by repeat (first | exact Fr.rfl' _ _ | assumption | refine Fr.updk ?_ (by omega) _))
      simp only [resA, resV, Try.results115, go_sem]
      all_goals try (first | exact Co.t2 (.dat rfl) (.dat rfl) | exact Co.t3 (.dat rfl) (.dat rfl) (.dat rfl))
      exact co_i hv
set_option maxRecDepth 20000 in
theorem containsF_rows (l : List (List Int)) (hl : l.length ≤ 16777216) (g : FuncId) (hg : enterOk Try.prog g) (caps : List AV) (ro : List (Nm × Ob)) (p : List Int → Bool) (hp : ∀ x ∈ l, Tri Try.prog g ([.d (gI x)] ++ caps) (rdE ro (bA (p x)))) :
    Tri Try.prog 84 [.d (.sl (l.map gI)), .fn (.func g) [] caps] (rdE ro (bA (l.any p))) := by
  refine tri_enter_ro Try.func84 rfl Try.ntmps84 (by simp only [List.length_cons, List.length_nil]; omega) fun w0 h0 k hro => ?_
  have e := idxP_nn p l 0
  repeat' (first | refine awp_seq_k fun K hK => ?_ | ((first | refine awp_region_k (by kernel_rfl) fun R hR => ?_ | refine awp_draw mixed (by kernel_rfl) (by kernel_rfl) fun R hR => ?_); simp only [go_sem]) | ((first | (refine hR _ ?_; clear hR R) | refine awp_skip ?_ | refine awp_exit ?_ | refine awp_ret ?_); try simp only [thenA, inBlockA, reduceIte, reduceCtorEq, Nat.reduceEqDiff, if_false, if_true]) | ((first | refine hK _ ?_ | (clear hK K; first | refine hK _ ?_ | (clear hK K; first | refine hK _ ?_ | (clear hK K; first | refine hK _ ?_ | (clear hK K; refine hK _ ?_))))); clear hK K) | refine awp_true rfl rfl ?_ | refine awp_false rfl rfl ?_ | refine awp_block ?_ | ((first | refine CallK.look (enter115) (indexF_rows l hl g hg caps ro p hp) ?_ (by assumption) (by repeat (first | exact Fr.rfl' _ _ | assumption | refine Fr.updk ?_ (by omega) _)) ?_ | refine CallD.look (enter115) (indexF_rows l hl g hg caps ro p hp) ?_ (by assumption) (by repeat (first | exact Fr.rfl' _ _ | assumption | refine Fr.updk ?_ (by omega) _)) (by first | assumption | exact List.cons_ne_nil _ _) ?_); (focus first | ((repeat (first | exact trivial | refine ⟨(by first | exact Or.inl rfl | exact Or.inr rfl), ?_⟩)); done) | (simp only [coL, AV.dat, true_or, or_true, AV.d.injEq, go_sem]; done)); simp only [go_sem]) | refine And.intro (by first | ((repeat' first | omega | exact trivial | rfl | assumption | (intro a e; subst e; rfl) | exact map_sz fun a => (by simp only [go_sem]) | refine And.intro ?_ ?_); done) | fail) ?_ | fail)
  (first | refine ret_pure ?_ ?_ ?_ | refine ret_ro ?_ ?_ ?_); focus exact (by simp only [Try.results84, resOkL, resOk, Try.ntmps84, List.toList_toArray]; first | decide | (simp only [go_sem]; done) | (simp only [go_sem]; and_intros <;> first | omega | rfl | decide))
  rotate_left; focus exact (by repeat (first | exact Fr.rfl' _ _ | assumption | refine Fr.updk ?_ (by omega) _))
  simp only [resA, resV, Try.results84, go_sem]
  all_goals try (first | exact Co.t2 (.dat rfl) (.dat rfl) | exact Co.t3 (.dat rfl) (.dat rfl) (.dat rfl))
  exact co_b e
/-! ### copies -/
set_option maxRecDepth 20000 in
theorem clone_ints (l : List (Int)) (hl : l.length ≤ 4000000) (n' : Nm) : Tri Try.prog 156 [.d (.sl (l.map iD))] (newEff 3 n' (l.map iD)) := by
  refine Tri.nils (fun h => ?_) ?_
  · obtain rfl : l = [] := by simpa using h
    refine tri_enter Try.func156 rfl Try.ntmps156 (by simp only [List.length_cons, List.length_nil]; omega) fun w0 h0 k hrd hwr => ?_
    have hn' : n'.1 < k := hwr _ (List.mem_cons_self ..)
    have h0' : h0 n' = none := hrd _ (List.mem_cons_self ..)
    repeat' (first | refine awp_ghost (ghost_nil (i := 2) (e := 3) rfl) ?_ | refine awp_seq_k fun K hK => ?_ | ((first | refine awp_region_k (by kernel_rfl) fun R hR => ?_ | refine awp_draw mixed (by kernel_rfl) (by kernel_rfl) fun R hR => ?_); simp only [go_sem]) | ((first | (refine hR _ ?_; clear hR R) | refine awp_skip ?_ | refine awp_exit ?_ | refine awp_ret ?_); try simp only [thenA, inBlockA, reduceIte, reduceCtorEq, Nat.reduceEqDiff, if_false, if_true]) | ((first | refine hK _ ?_ | (clear hK K; first | refine hK _ ?_ | (clear hK K; first | refine hK _ ?_ | (clear hK K; first | refine hK _ ?_ | (clear hK K; refine hK _ ?_))))); clear hK K) | refine awp_true rfl rfl ?_ | refine awp_false rfl rfl ?_ | refine awp_block ?_ | refine And.intro (by first | ((repeat' first | omega | exact trivial | rfl | assumption | (intro a e; subst e; rfl) | exact map_sz fun a => (by simp only [go_sem]) | refine And.intro ?_ ?_); done) | fail) ?_ | fail)
    refine ret_new (by simp only [Try.results156, resOkL, resOk, Try.ntmps156, List.toList_toArray]; first | decide | (simp only [go_sem]; done) | (simp only [go_sem]; and_intros <;> first | omega | rfl | decide)) (by simp only [resA, resV, Try.results156, go_sem]; try rfl) ?_ hn' h0' ?_ (by repeat (first | exact Fr.rfl' _ _ | assumption | refine Fr.updk ?_ (by omega) _)) <;> simp only [go_sem, List.length_map] <;> first | rfl | omega
  · refine tri_enter Try.func156 rfl Try.ntmps156 (by simp only [List.length_cons, List.length_nil]; omega) fun w0 h0 k hrd hwr => ?_
    have hn' : n'.1 < k := hwr _ (List.mem_cons_self ..)
    have h0' : h0 n' = none := hrd _ (List.mem_cons_self ..)
    repeat' (first | refine awp_nn (i := 0) 4 rfl rfl ?_ | refine awp_seq_k fun K hK => ?_ | ((first | refine awp_region_k (by kernel_rfl) fun R hR => ?_ | refine awp_draw mixed (by kernel_rfl) (by kernel_rfl) fun R hR => ?_); simp only [go_sem]) | ((first | (refine hR _ ?_; clear hR R) | refine awp_skip ?_ | refine awp_exit ?_ | refine awp_ret ?_); try simp only [thenA, inBlockA, reduceIte, reduceCtorEq, Nat.reduceEqDiff, if_false, if_true]) | ((first | refine hK _ ?_ | (clear hK K; first | refine hK _ ?_ | (clear hK K; first | refine hK _ ?_ | (clear hK K; first | refine hK _ ?_ | (clear hK K; refine hK _ ?_))))); clear hK K) | refine awp_true rfl rfl ?_ | refine awp_false rfl rfl ?_ | refine awp_block ?_ | refine And.intro (by first | ((repeat' first | omega | exact trivial | rfl | assumption | (intro a e; subst e; rfl) | exact map_sz fun a => (by simp only [go_sem]) | refine And.intro ?_ ?_); done) | fail) ?_ | fail)
    refine ret_new (by simp only [Try.results156, resOkL, resOk, Try.ntmps156, List.toList_toArray]; first | decide | (simp only [go_sem]; done) | (simp only [go_sem]; and_intros <;> first | omega | rfl | decide)) (by simp only [resA, resV, Try.results156, go_sem]; try rfl) ?_ hn' h0' ?_ (by repeat (first | exact Fr.rfl' _ _ | assumption | refine Fr.updk ?_ (by omega) _)) <;> simp only [go_sem, List.length_map] <;> first | rfl | omega
set_option maxRecDepth 20000 in
theorem clone_terms (l : List (Tm)) (hl : l.length ≤ 4000000) (n' : Nm) : Tri Try.prog 132 [.d (.sl (l.map tmDV))] (newEff 27 n' (l.map tmDV)) := by
  refine Tri.nils (fun h => ?_) ?_
  · obtain rfl : l = [] := by simpa using h
    refine tri_enter Try.func132 rfl Try.ntmps132 (by simp only [List.length_cons, List.length_nil]; omega) fun w0 h0 k hrd hwr => ?_
    have hn' : n'.1 < k := hwr _ (List.mem_cons_self ..)
    have h0' : h0 n' = none := hrd _ (List.mem_cons_self ..)
    repeat' (first | refine awp_ghost (ghost_nil (i := 2) (e := 27) rfl) ?_ | refine awp_seq_k fun K hK => ?_ | ((first | refine awp_region_k (by kernel_rfl) fun R hR => ?_ | refine awp_draw mixed (by kernel_rfl) (by kernel_rfl) fun R hR => ?_); simp only [go_sem]) | ((first | (refine hR _ ?_; clear hR R) | refine awp_skip ?_ | refine awp_exit ?_ | refine awp_ret ?_); try simp only [thenA, inBlockA, reduceIte, reduceCtorEq, Nat.reduceEqDiff, if_false, if_true]) | ((first | refine hK _ ?_ | (clear hK K; first | refine hK _ ?_ | (clear hK K; first | refine hK _ ?_ | (clear hK K; first | refine hK _ ?_ | (clear hK K; refine hK _ ?_))))); clear hK K) | refine awp_true rfl rfl ?_ | refine awp_false rfl rfl ?_ | refine awp_block ?_ | refine And.intro (by first | ((repeat' first | omega | exact trivial | rfl | assumption | (intro a e; subst e; rfl) | exact map_sz fun a => (by simp only [go_sem]) | refine And.intro ?_ ?_); done) | fail) ?_ | fail)
    refine ret_new (by simp only [Try.results132, resOkL, resOk, Try.ntmps132, List.toList_toArray]; first | decide | (simp only [go_sem]; done) | (simp only [go_sem]; and_intros <;> first | omega | rfl | decide)) (by simp only [resA, resV, Try.results132, go_sem]; try rfl) ?_ hn' h0' ?_ (by repeat (first | exact Fr.rfl' _ _ | assumption | refine Fr.updk ?_ (by omega) _)) <;> simp only [go_sem, List.length_map] <;> first | rfl | omega
  · refine tri_enter Try.func132 rfl Try.ntmps132 (by simp only [List.length_cons, List.length_nil]; omega) fun w0 h0 k hrd hwr => ?_
    have hn' : n'.1 < k := hwr _ (List.mem_cons_self ..)
    have h0' : h0 n' = none := hrd _ (List.mem_cons_self ..)
    repeat' (first | refine awp_nn (i := 0) 4 rfl rfl ?_ | refine awp_seq_k fun K hK => ?_ | ((first | refine awp_region_k (by kernel_rfl) fun R hR => ?_ | refine awp_draw mixed (by kernel_rfl) (by kernel_rfl) fun R hR => ?_); simp only [go_sem]) | ((first | (refine hR _ ?_; clear hR R) | refine awp_skip ?_ | refine awp_exit ?_ | refine awp_ret ?_); try simp only [thenA, inBlockA, reduceIte, reduceCtorEq, Nat.reduceEqDiff, if_false, if_true]) | ((first | refine hK _ ?_ | (clear hK K; first | refine hK _ ?_ | (clear hK K; first | refine hK _ ?_ | (clear hK K; first | refine hK _ ?_ | (clear hK K; refine hK _ ?_))))); clear hK K) | refine awp_true rfl rfl ?_ | refine awp_false rfl rfl ?_ | refine awp_block ?_ | refine And.intro (by first | ((repeat' first | omega | exact trivial | rfl | assumption | (intro a e; subst e; rfl) | exact map_sz fun a => (by simp only [go_sem]) | refine And.intro ?_ ?_); done) | fail) ?_ | fail)
    refine ret_new (by simp only [Try.results132, resOkL, resOk, Try.ntmps132, List.toList_toArray]; first | decide | (simp only [go_sem]; done) | (simp only [go_sem]; and_intros <;> first | omega | rfl | decide)) (by simp only [resA, resV, Try.results132, go_sem]; try rfl) ?_ hn' h0' ?_ (by repeat (first | exact Fr.rfl' _ _ | assumption | refine Fr.updk ?_ (by omega) _)) <;> simp only [go_sem, List.length_map] <;> first | rfl | omega
end Go.Proofs.Ytmeekpinkfpnhaa
namespace Go.Proofs.Ytmeekpinkfpnhaa
open Go.RowKit
attribute [local irreducible] CallK CallD
mutual
def walkS {S : Type} (step : Tm → S → Bool × S) : Tm → S → Bool × S
  | .mk v f us, s => if (step (.mk v f us) s).1 = true then walkL step us (step (.mk v f us) s).2 else (false, (step (.mk v f us) s).2)
def walkL {S : Type} (step : Tm → S → Bool × S) : List Tm → S → Bool × S
  | [], s => (true, s)
  | x :: xs, s => if (walkS step x s).1 = true then walkL step xs (walkS step x s).2 else (false, (walkS step x s).2)
end
theorem walkS_eq {S : Type} (step : Tm → S → Bool × S) (t : Tm) (s : S) : walkS step t s = if (step t s).1 = true then walkL step t.us (step t s).2 else (false, (step t s).2) := by cases t; rw [walkS]; rfl
theorem walkL_go {S : Type} {step : Tm → S → Bool × S} {us : List Tm} {i : Nat} (hi : i < us.length) {s : S} (h : (walkS step us[i] s).1 = true) : walkL step (us.drop i) s = walkL step (us.drop (i + 1)) (walkS step us[i] s).2 := by
  rw [List.drop_eq_getElem_cons hi, walkL, if_pos h]
theorem walkL_stop {S : Type} {step : Tm → S → Bool × S} {us : List Tm} {i : Nat} (hi : i < us.length) {s : S} (h : (walkS step us[i] s).1 = false) : walkL step (us.drop i) s = (false, (walkS step us[i] s).2) := by
  rw [List.drop_eq_getElem_cons hi, walkL, if_neg (by rw [h]; simp)]
mutual
theorem pre_len : ∀ t : Tm, (pre t).length = t.size
  | .mk v f us => by rw [pre, List.length_cons, preL_len us, Tm.size]; omega
theorem preL_len : ∀ us : List Tm, (preL us).length = Tm.size.sizes us
  | [] => rfl
  | x :: xs => by rw [preL, List.length_append, pre_len x, preL_len xs, Tm.size.sizes]
end
theorem sizes_append (a b : List Tm) : Tm.size.sizes (a ++ b) = Tm.size.sizes a + Tm.size.sizes b := by
  induction a with
  | nil => simp [Tm.size.sizes]
  | cons x xs ih => simp [Tm.size.sizes, ih, Nat.add_assoc]
theorem sizes_take (l : List Tm) (i : Nat) : Tm.size.sizes (l.take i) ≤ Tm.size.sizes l := by
  have h := sizes_append (l.take i) (l.drop i)
  rw [List.take_append_drop] at h
  omega
theorem preL_mem {us : List Tm} {u x : Tm} (hu : u ∈ us) (hx : x ∈ pre u) : x ∈ preL us := by
  induction us with
  | nil => cases hu
  | cons y ys ih =>
    rw [preL, List.mem_append]
    rcases List.mem_cons.1 hu with rfl | hu
    · exact .inl hx
    · exact .inr (ih hu)
theorem notN {k : Nat} {N : List Nm} {O : Nm → Ob} {h : Heap} (ha : Ag k N O h) {k' : Nat} (hk : k ≤ k') : ∀ j, ((k', j) ∈ N) = False := fun j => by
  apply eq_false; intro hm
  have := (ha.get _ hm).1
  simp only at this; omega
theorem notN' {k : Nat} {N : List Nm} {O : Nm → Ob} {h : Heap} (ha : Ag k N O h) {k' : Nat} (hk : k ≤ k') : ∀ j, (∀ x, x ∈ N → ¬ x = (k', j)) = True := fun j => by
  apply eq_true; intro x hx e
  have := (ha.get _ hx).1
  rw [e] at this; simp only at this; omega
theorem farN {N : List Nm} (r w : List Nm) : Far r w N N = ((∀ x ∈ w, ¬ x ∈ N) ∧ ∀ x ∈ r, ¬ x ∈ N) := by
  apply propext
  unfold Far
  exact ⟨fun ⟨h1, h2⟩ => ⟨fun x hx => (h1 x hx).1, fun x hx hx' => h2 x hx' hx⟩, fun ⟨h1, h2⟩ => ⟨fun x hx => ⟨h1 x hx, h1 x hx⟩, fun x hx hx' => h2 x hx' hx⟩⟩
section
variable {S : Type} (O : S → Nm → Ob) (N : List Nm) (g : FuncId) (caps : List AV) (step : Tm → S → Bool × S) (I : Nat → S → Prop) (hN : ∀ s (k : Nat), (∀ n ∈ N, n.1 < k) → Cl k N (O s)) (hg : enterOk Try.prog g) (hne : N ≠ [])
def DoOK (x : Tm) : Prop := ∀ (n : Nat) (s : S), I (n + 1) s → I n (step x s).2 ∧ ∀ pl : List Int, Tri Try.prog g ([.d (.sl (pl.map iD)), .d (tmDV x)] ++ caps) (stE N (O s) (O (step x s).2) (bA (step x s).1))
def WalkSpec (t : Tm) : Prop := (∀ x ∈ pre t, DoOK O N g caps step I x) → ∀ (n : Nat) (s : S), I (t.size + n) s → ((walkS step t s).1 = true → I n (walkS step t s).2) ∧
  ∀ pl : List Int, pl.length + t.size ≤ 4000000 → Tri Try.prog 136 [.d (tmDV t), .d (.sl (pl.map iD)), .fn (.func g) [] caps] (stE N (O s) (O (walkS step t s).2) (bA (walkS step t s).1))
include hN hg hne
set_option maxRecDepth 20000 in
theorem walk_step (t : Tm) (ih : ∀ u ∈ t.us, WalkSpec O N g caps step I u) : WalkSpec O N g caps step I t := by
  intro hdo n s hI
  have hsz := t.size_eq
  have hlen := t.len_lt
  have hd0 := hdo t (by rw [pre_eq]; simp)
  obtain ⟨hI1, hT1⟩ := hd0 (Tm.size.sizes t.us + n) s (by rw [hsz] at hI; rw [show Tm.size.sizes t.us + n + 1 = 1 + Tm.size.sizes t.us + n by omega]; exact hI)
  have hdoU : ∀ u ∈ t.us, ∀ x ∈ pre u, DoOK O N g caps step I x := fun u hu x hx => hdo x (by rw [pre_eq]; exact List.mem_cons_of_mem _ (preL_mem hu hx))
  refine ⟨?_, fun pl hpl => ?_⟩
  · intro hw
    rw [walkS_eq] at hw ⊢
    by_cases h1 : (step t s).1 = true
    · rw [if_pos h1] at hw ⊢
      clear hT1 hI h1 hd0 hdo
      generalize (step t s).2 = s1 at *
      have ih' : ∀ u ∈ t.us, ∀ (n : Nat) (s : S), I (u.size + n) s → (walkS step u s).1 = true → I n (walkS step u s).2 := fun u hu n s hs => ((ih u hu) (hdoU u hu) n s hs).1
      clear ih hdoU hsz hlen
      generalize t.us = us at *
      clear t
      induction us generalizing s1 with
      | nil => rw [walkL]; simpa [Tm.size.sizes] using hI1
      | cons x xs ihx =>
        rw [walkL] at hw ⊢
        by_cases h2 : (walkS step x s1).1 = true
        · rw [if_pos h2] at hw ⊢
          refine ihx _ ?_ hw (fun u hu => ih' u (List.mem_cons_of_mem _ hu))
          refine ih' x (by simp) _ s1 ?_ h2
          rw [Tm.size.sizes, Nat.add_assoc] at hI1; exact hI1
        · rw [if_neg h2] at hw; cases hw
    · rw [if_neg h1] at hw; cases hw
  · rw [walkS_eq]
    refine tri_enter_st Try.func136 rfl Try.ntmps136 (by simp only [List.length_cons, List.length_nil]; omega) fun w0 h0 k hag => ?_
    have hlt : ∀ n ∈ N, n.1 < k := fun n hn => (hag.get n hn).1
    have hNk := notN hag (Nat.le_refl k)
    have hNk1 := notN hag (k' := k + 1) (by omega)
    have hT := hT1 pl
    cases h1 : (step t s).1 with
    | false =>
      rw [h1] at hT
      have hcl := hN (step t s).2 k hlt
      simp only [Bool.false_eq_true, if_false]
      repeat' (first | refine awp_seq_k fun K hK => ?_ | ((first | refine awp_region_k (by kernel_rfl) fun R hR => ?_ | refine awp_draw mixed (by kernel_rfl) (by kernel_rfl) fun R hR => ?_); simp only [go_sem, h1, hNk]) | ((first | (refine hR _ ?_; clear hR R) | refine awp_skip ?_ | refine awp_exit ?_ | refine awp_ret ?_); try simp only [thenA, inBlockA, reduceIte, reduceCtorEq, Nat.reduceEqDiff, if_false, if_true]) | ((first | refine hK _ ?_ | (clear hK K; first | refine hK _ ?_ | (clear hK K; first | refine hK _ ?_ | (clear hK K; first | refine hK _ ?_ | (clear hK K; refine hK _ ?_))))); clear hK K) | refine awp_true rfl rfl ?_ | refine awp_false rfl rfl ?_ | refine awp_block ?_ | ((first | refine CallK.vchg rfl (hg) (hT) ?_ (by assumption) (by repeat (first | exact Fr.rfl' _ _ | assumption | refine Fr.updk ?_ (by omega) _)) ?_ | refine CallD.vchg rfl (hg) (hT) ?_ (by assumption) (by repeat (first | exact Fr.rfl' _ _ | assumption | refine Fr.updk ?_ (by omega) _)) (by assumption) ?_); (focus first | ((repeat (first | exact trivial | refine ⟨(by first | exact Or.inl rfl | exact Or.inr rfl), ?_⟩)); done) | (simp only [coL, AV.dat, true_or, or_true, AV.d.injEq, go_sem]; done)); simp only [go_sem, h1, hNk]) | refine And.intro (by first | ((repeat' first | omega | exact trivial | rfl | assumption | (intro a e; subst e; rfl) | exact map_sz fun a => (by simp only [go_sem]) | refine And.intro ?_ ?_); done) | fail) ?_ | fail)
      refine ret_st (by simp only [Try.results136, resOkL, resOk, Try.ntmps136, List.toList_toArray]; first | decide | (simp only [go_sem]; done) | (simp only [go_sem]; and_intros <;> first | omega | rfl | decide)) ?_ (by repeat (first | assumption | exact Ag.stN (by assumption) _ _ | refine Ag.updk ?_ (by omega) _)) (by repeat (first | exact FrN.rfl' _ _ _ | assumption | refine FrN.updk ?_ (by omega) _ | refine FrN.stH ?_ _)) (by assumption)
      simp only [resA, resV, Try.results136, go_sem]
      all_goals try (first | exact .dat rfl | exact Co.t2 (.dat rfl) (.dat rfl) | exact Co.t3 (.dat rfl) (.dat rfl) (.dat rfl))
    | true =>
      rw [h1] at hT
      simp only [if_true]
      repeat' (first | refine awp_seq_k fun K hK => ?_ | ((first | refine awp_region_k (by kernel_rfl) fun R hR => ?_ | refine awp_draw mixed (by kernel_rfl) (by kernel_rfl) fun R hR => ?_); simp only [go_sem, h1, hNk, hNk1]) | ((first | (refine hR _ ?_; clear hR R) | refine awp_skip ?_ | refine awp_exit ?_ | refine awp_ret ?_); try simp only [thenA, inBlockA, reduceIte, reduceCtorEq, Nat.reduceEqDiff, if_false, if_true]) | ((first | refine hK _ ?_ | (clear hK K; first | refine hK _ ?_ | (clear hK K; first | refine hK _ ?_ | (clear hK K; first | refine hK _ ?_ | (clear hK K; refine hK _ ?_))))); clear hK K) | refine awp_true rfl rfl ?_ | refine awp_false rfl rfl ?_ | refine awp_block ?_ | ((first | refine CallK.vchg rfl (hg) (hT) ?_ (by assumption) (by repeat (first | exact Fr.rfl' _ _ | assumption | refine Fr.updk ?_ (by omega) _)) ?_ | refine CallD.vchg rfl (hg) (hT) ?_ (by assumption) (by repeat (first | exact Fr.rfl' _ _ | assumption | refine Fr.updk ?_ (by omega) _)) (by assumption) ?_); (focus first | ((repeat (first | exact trivial | refine ⟨(by first | exact Or.inl rfl | exact Or.inr rfl), ?_⟩)); done) | (simp only [coL, AV.dat, true_or, or_true, AV.d.injEq, go_sem]; done)); simp only [go_sem, h1, hNk, hNk1]) | refine And.intro (by first | ((repeat' first | omega | exact trivial | rfl | assumption | (intro a e; subst e; rfl) | exact map_sz fun a => (by simp only [go_sem]) | refine And.intro ?_ ?_); done) | fail) ?_ | fail)
      generalize hs1 : (step t s).2 = s1 at *
      refine awp_loop (fun σ => ∃ (i : Nat) (si : S), σ.t 1 = .d (.sl (pl.map iD)) ∧ σ.t 2 = .fn (.func g) [] caps ∧ σ.t 15 = .d (.sl (t.us.map tmDV)) ∧ σ.t 16 = iA t.us.length ∧ σ.t 17 = iA i ∧ Ag k N (O si) σ.h ∧ FrN k N h0 σ.h ∧ k < σ.k ∧ i ≤ t.us.length ∧ I (Tm.size.sizes (t.us.drop i) + n) si ∧ walkL step (t.us.drop i) si = walkL step t.us s1) (fun σ => t.us.length - (intOf' (σ.t 17)).toNat) ?_ ?_
      · refine ⟨0, s1, ?_⟩
        simp only [go_sem, List.drop_zero]
        and_intros; all_goals try (first | rfl | omega | assumption | ((repeat (first | exact Fr.rfl' _ _ | assumption | refine Fr.updk ?_ (by omega) _)); done))
        · exact (by repeat (first | assumption | exact Ag.stN (by assumption) _ _ | refine Ag.updk ?_ (by omega) _))
        · exact (by repeat (first | exact FrN.rfl' _ _ _ | assumption | refine FrN.updk ?_ (by omega) _ | refine FrN.stH ?_ _))
      · rintro σ ⟨i, si, s1', s2, s15, s16, s17, hA, hF, hk, hi, hIi, hw⟩
        rcases Nat.lt_or_ge i t.us.length with hi' | hge
        · have hz : (i : Int) < (t.us.length : Int) := by omega
          have e1 : (t.us.map tmDV).getD i default = tmDV t.us[i] := nth_map tmDV hi' _
          have hss := Tm.size_at hi'
          have hIi2 : I (t.us[i].size + (Tm.size.sizes (t.us.drop (i + 1)) + n)) si := by
            rw [List.drop_eq_getElem_cons hi', Tm.size.sizes, Nat.add_assoc] at hIi; exact hIi
          obtain ⟨g1, g2⟩ := ih _ (List.getElem_mem hi') (hdoU _ (List.getElem_mem hi')) _ si hIi2
          have g3 := g2 (pl ++ [(i : Int)]) (by rw [List.length_append, List.length_singleton]; omega)
          have epl : (pl ++ [(i : Int)]).map iD = pl.map iD ++ [iD i] := by simp
          have hN1 := notN hag (k' := σ.k) (by omega)
          have hN2 := notN hag (k' := σ.k + 1) (by omega)
          have hN3 := notN hag (k' := σ.k + 1 + 1) (by omega)
          have hN4 := notN' hag (k' := σ.k + 1) (by omega)
          have hN5 := notN' hag (k' := σ.k + 1 + 1) (by omega)
          have fN := fun r w => farN (N := N) r w
          refine awp_new fun hnew => ?_
          have hnn := hnew.at
          have hcl := hN (walkS step t.us[i] si).2 k hlt
          cases h2 : (walkS step t.us[i] si).1 with
          | true =>
            rw [h2, epl] at g3
            repeat' (first | refine awp_seq_k fun K hK => ?_ | ((first | refine awp_region_k (by kernel_rfl) fun R hR => ?_ | refine awp_draw mixed (by kernel_rfl) (by kernel_rfl) fun R hR => ?_); simp only [go_sem, s1', s2, s15, s16, s17, hz, e1, epl, hN1, hN2, hN3, hN4, hN5, fN, hnn, Nat.reduceBEq, ite_self, implies_true, Int.toNat_natCast]) | ((first | (refine hR _ ?_; clear hR R) | refine awp_skip ?_ | refine awp_exit ?_ | refine awp_ret ?_); try simp only [thenA, inBlockA, reduceIte, reduceCtorEq, Nat.reduceEqDiff, if_false, if_true]) | ((first | refine hK _ ?_ | (clear hK K; first | refine hK _ ?_ | (clear hK K; first | refine hK _ ?_ | (clear hK K; first | refine hK _ ?_ | (clear hK K; refine hK _ ?_))))); clear hK K) | refine awp_true rfl rfl ?_ | refine awp_false rfl rfl ?_ | refine awp_block ?_ | ((first | refine CallK.chg (enter136) (g3) ?_ (by assumption) (by repeat (first | exact Fr.rfl' _ _ | assumption | refine Fr.updk ?_ (by omega) _)) ?_ | refine CallD.chg (enter136) (g3) ?_ (by assumption) (by repeat (first | exact Fr.rfl' _ _ | assumption | refine Fr.updk ?_ (by omega) _)) (by assumption) ?_); (focus first | ((repeat (first | exact trivial | refine ⟨(by first | exact Or.inl rfl | exact Or.inr rfl), ?_⟩)); done) | (simp only [coL, AV.dat, true_or, or_true, AV.d.injEq, go_sem]; done)); simp only [go_sem, s1', s2, s15, s16, s17, hz, e1, epl, hN1, hN2, hN3, hN4, hN5, fN, hnn, Nat.reduceBEq, ite_self, implies_true, Int.toNat_natCast]) | ((first | refine CallK.new rfl (enter156) (clone_ints pl (by omega)) ?_ ?_ ?_ | refine CallD.new rfl (enter156) (clone_ints pl (by omega)) ?_ ?_ ?_); (focus first | ((repeat (first | exact trivial | refine ⟨(by first | exact Or.inl rfl | exact Or.inr rfl), ?_⟩)); done) | (simp only [coL, AV.dat, true_or, or_true, AV.d.injEq, go_sem]; done)); (focus (simp only [go_sem, s1', s2, s15, s16, s17, hz, e1, epl, hN1, hN2, hN3, hN4, hN5, fN, hnn, Nat.reduceBEq, ite_self, implies_true, Int.toNat_natCast]; done)); simp only [go_sem, s1', s2, s15, s16, s17, hz, e1, epl, hN1, hN2, hN3, hN4, hN5, fN, hnn, Nat.reduceBEq, ite_self, implies_true, Int.toNat_natCast]) | refine And.intro (by first | ((repeat' first | omega | exact trivial | rfl | assumption | (intro a e; subst e; rfl) | exact map_sz fun a => (by simp only [go_sem]) | refine And.intro ?_ ?_); done) | fail) ?_ | fail)
            refine ⟨⟨i + 1, (walkS step t.us[i] si).2, ?_⟩, ?_⟩
            · simp only [go_sem, s1', s2, s15, s16, s17]
              and_intros; all_goals try (first | rfl | omega | assumption | ((repeat (first | exact Fr.rfl' _ _ | assumption | refine Fr.updk ?_ (by omega) _)); done))
              · exact (by repeat (first | assumption | exact Ag.stN (by assumption) _ _ | refine Ag.updk ?_ (by omega) _))
              · exact (by repeat (first | exact FrN.rfl' _ _ _ | assumption | refine FrN.updk ?_ (by omega) _ | refine FrN.stH ?_ _))
              · exact g1 h2
              · rw [← hw]; exact (walkL_go hi' h2).symm
            · simp only [go_sem, s17]; omega
          | false =>
            rw [h2, epl] at g3
            rw [walkL_stop hi' h2] at hw
            rw [← hw]
            dsimp only
            repeat' (first | refine awp_seq_k fun K hK => ?_ | ((first | refine awp_region_k (by kernel_rfl) fun R hR => ?_ | refine awp_draw mixed (by kernel_rfl) (by kernel_rfl) fun R hR => ?_); simp only [go_sem, s1', s2, s15, s16, s17, hz, e1, epl, hN1, hN2, hN3, hN4, hN5, fN, hnn, Nat.reduceBEq, ite_self, implies_true, Int.toNat_natCast]) | ((first | (refine hR _ ?_; clear hR R) | refine awp_skip ?_ | refine awp_exit ?_ | refine awp_ret ?_); try simp only [thenA, inBlockA, reduceIte, reduceCtorEq, Nat.reduceEqDiff, if_false, if_true]) | ((first | refine hK _ ?_ | (clear hK K; first | refine hK _ ?_ | (clear hK K; first | refine hK _ ?_ | (clear hK K; first | refine hK _ ?_ | (clear hK K; refine hK _ ?_))))); clear hK K) | refine awp_true rfl rfl ?_ | refine awp_false rfl rfl ?_ | refine awp_block ?_ | ((first | refine CallK.chg (enter136) (g3) ?_ (by assumption) (by repeat (first | exact Fr.rfl' _ _ | assumption | refine Fr.updk ?_ (by omega) _)) ?_ | refine CallD.chg (enter136) (g3) ?_ (by assumption) (by repeat (first | exact Fr.rfl' _ _ | assumption | refine Fr.updk ?_ (by omega) _)) (by assumption) ?_); (focus first | ((repeat (first | exact trivial | refine ⟨(by first | exact Or.inl rfl | exact Or.inr rfl), ?_⟩)); done) | (simp only [coL, AV.dat, true_or, or_true, AV.d.injEq, go_sem]; done)); simp only [go_sem, s1', s2, s15, s16, s17, hz, e1, epl, hN1, hN2, hN3, hN4, hN5, fN, hnn, Nat.reduceBEq, ite_self, implies_true, Int.toNat_natCast]) | ((first | refine CallK.new rfl (enter156) (clone_ints pl (by omega)) ?_ ?_ ?_ | refine CallD.new rfl (enter156) (clone_ints pl (by omega)) ?_ ?_ ?_); (focus first | ((repeat (first | exact trivial | refine ⟨(by first | exact Or.inl rfl | exact Or.inr rfl), ?_⟩)); done) | (simp only [coL, AV.dat, true_or, or_true, AV.d.injEq, go_sem]; done)); (focus (simp only [go_sem, s1', s2, s15, s16, s17, hz, e1, epl, hN1, hN2, hN3, hN4, hN5, fN, hnn, Nat.reduceBEq, ite_self, implies_true, Int.toNat_natCast]; done)); simp only [go_sem, s1', s2, s15, s16, s17, hz, e1, epl, hN1, hN2, hN3, hN4, hN5, fN, hnn, Nat.reduceBEq, ite_self, implies_true, Int.toNat_natCast]) | refine And.intro (by first | ((repeat' first | omega | exact trivial | rfl | assumption | (intro a e; subst e; rfl) | exact map_sz fun a => (by simp only [go_sem]) | refine And.intro ?_ ?_); done) | fail) ?_ | fail)
            refine ret_st (by simp only [Try.results136, resOkL, resOk, Try.ntmps136, List.toList_toArray]; first | decide | (simp only [go_sem]; done) | (simp only [go_sem]; and_intros <;> first | omega | rfl | decide)) ?_ (by repeat (first | assumption | exact Ag.stN (by assumption) _ _ | refine Ag.updk ?_ (by omega) _)) (by repeat (first | exact FrN.rfl' _ _ _ | assumption | refine FrN.updk ?_ (by omega) _ | refine FrN.stH ?_ _)) (by assumption)
            simp only [resA, resV, Try.results136, go_sem]
            all_goals try (first | exact .dat rfl | exact Co.t2 (.dat rfl) (.dat rfl) | exact Co.t3 (.dat rfl) (.dat rfl) (.dat rfl))
        · have hz : ¬ ((i : Int) < (t.us.length : Int)) := by omega
          have hw' : walkL step t.us s1 = (true, si) := by rw [← hw, List.drop_eq_nil_of_le hge]; rw [walkL]
          have hcl := hN si k hlt
          repeat' (first | refine awp_seq_k fun K hK => ?_ | ((first | refine awp_region_k (by kernel_rfl) fun R hR => ?_ | refine awp_draw mixed (by kernel_rfl) (by kernel_rfl) fun R hR => ?_); simp only [go_sem, s16, s17, hz]) | ((first | (refine hR _ ?_; clear hR R) | refine awp_skip ?_ | refine awp_exit ?_ | refine awp_ret ?_); try simp only [thenA, inBlockA, reduceIte, reduceCtorEq, Nat.reduceEqDiff, if_false, if_true]) | ((first | refine hK _ ?_ | (clear hK K; first | refine hK _ ?_ | (clear hK K; first | refine hK _ ?_ | (clear hK K; first | refine hK _ ?_ | (clear hK K; refine hK _ ?_))))); clear hK K) | refine awp_true rfl rfl ?_ | refine awp_false rfl rfl ?_ | refine awp_block ?_ | refine And.intro (by first | ((repeat' first | omega | exact trivial | rfl | assumption | (intro a e; subst e; rfl) | exact map_sz fun a => (by simp only [go_sem]) | refine And.intro ?_ ?_); done) | fail) ?_ | fail)
          rw [hw']
          dsimp only
          refine ret_st (by simp only [Try.results136, resOkL, resOk, Try.ntmps136, List.toList_toArray]; first | decide | (simp only [go_sem]; done) | (simp only [go_sem]; and_intros <;> first | omega | rfl | decide)) ?_ (by repeat (first | assumption | exact Ag.stN (by assumption) _ _ | refine Ag.updk ?_ (by omega) _)) (by repeat (first | exact FrN.rfl' _ _ _ | assumption | refine FrN.updk ?_ (by omega) _ | refine FrN.stH ?_ _)) (by assumption)
          simp only [resA, resV, Try.results136, go_sem]
          all_goals try (first | exact .dat rfl | exact Co.t2 (.dat rfl) (.dat rfl) | exact Co.t3 (.dat rfl) (.dat rfl) (.dat rfl))
theorem walk_any : ∀ t : Tm, WalkSpec O N g caps step I t := Tm.ind (walk_step O N g caps step I hN hg hne)
set_option maxRecDepth 20000 in
theorem walk_tri (t : Tm) (hdo : ∀ x ∈ pre t, DoOK O N g caps step I x) (n : Nat) (s : S) (hI : I (t.size + n) s) (hsz : t.size ≤ 4000000) : Tri Try.prog 111 [.d (tmDV t), .fn (.func g) [] caps] (stE N (O s) (O (walkS step t s).2) (bA (walkS step t s).1)) := by
  have h1 := (walk_any O N g caps step I hN hg hne t hdo n s hI).2 [] (by simpa using hsz)
  refine tri_enter_st Try.func111 rfl Try.ntmps111 (by simp only [List.length_cons, List.length_nil]; omega) fun w0 h0 k hag => ?_
  have hlt : ∀ n ∈ N, n.1 < k := fun n hn => (hag.get n hn).1
  have hNk := notN hag (Nat.le_refl k)
  have hNk1 := notN hag (k' := k + 1) (by omega)
  have hcl := hN (walkS step t s).2 k hlt
  repeat' (first | refine awp_seq_k fun K hK => ?_ | ((first | refine awp_region_k (by kernel_rfl) fun R hR => ?_ | refine awp_draw mixed (by kernel_rfl) (by kernel_rfl) fun R hR => ?_); simp only [go_sem, hNk, hNk1]) | ((first | (refine hR _ ?_; clear hR R) | refine awp_skip ?_ | refine awp_exit ?_ | refine awp_ret ?_); try simp only [thenA, inBlockA, reduceIte, reduceCtorEq, Nat.reduceEqDiff, if_false, if_true]) | ((first | refine hK _ ?_ | (clear hK K; first | refine hK _ ?_ | (clear hK K; first | refine hK _ ?_ | (clear hK K; first | refine hK _ ?_ | (clear hK K; refine hK _ ?_))))); clear hK K) | refine awp_true rfl rfl ?_ | refine awp_false rfl rfl ?_ | refine awp_block ?_ | ((first | refine CallK.chg (enter136) (h1) ?_ (by assumption) (by repeat (first | exact Fr.rfl' _ _ | assumption | refine Fr.updk ?_ (by omega) _)) ?_ | refine CallD.chg (enter136) (h1) ?_ (by assumption) (by repeat (first | exact Fr.rfl' _ _ | assumption | refine Fr.updk ?_ (by omega) _)) (by assumption) ?_); (focus first | ((repeat (first | exact trivial | refine ⟨(by first | exact Or.inl rfl | exact Or.inr rfl), ?_⟩)); done) | (simp only [coL, AV.dat, true_or, or_true, AV.d.injEq, go_sem]; done)); simp only [go_sem, hNk, hNk1]) | refine And.intro (by first | ((repeat' first | omega | exact trivial | rfl | assumption | (intro a e; subst e; rfl) | exact map_sz fun a => (by simp only [go_sem]) | refine And.intro ?_ ?_); done) | fail) ?_ | fail)
  refine ret_st (by simp only [Try.results111, resOkL, resOk, Try.ntmps111, List.toList_toArray]; first | decide | (simp only [go_sem]; done) | (simp only [go_sem]; and_intros <;> first | omega | rfl | decide)) ?_ (by repeat (first | assumption | exact Ag.stN (by assumption) _ _ | refine Ag.updk ?_ (by omega) _)) (by repeat (first | exact FrN.rfl' _ _ _ | assumption | refine FrN.updk ?_ (by omega) _ | refine FrN.stH ?_ _)) (by assumption)
  simp only [resA, resV, Try.results111, go_sem]
  all_goals try (first | exact .dat rfl | exact Co.t2 (.dat rfl) (.dat rfl) | exact Co.t3 (.dat rfl) (.dat rfl) (.dat rfl))
end
end Go.Proofs.Ytmeekpinkfpnhaa
namespace Go.Proofs.Ytmeekpinkfpnhaa
open Go.RowKit
theorem co_tm {k : Nat} {ren : Ren} {v f : Int} {a : AV} {us : List Tm} (h : a.toD? = some (.sl (us.map tmDV))) : Co k ren (.st [iA v, iA f, a]) (.d (tmDV (.mk v f us))) :=
  .dat (by simp only [AV.toD?, allD, h]; rw [tmDV_eq]; rfl)
set_option maxRecDepth 20000 in
theorem small_tri : Tri Try.prog 65 [] (pure' (.d (sgDV [0, 1]))) := by
  refine tri_enter Try.func65 rfl Try.ntmps65 (by simp only [List.length_cons, List.length_nil]; omega) fun w0 h0 k hrd hwr => ?_
  repeat' (first | refine awp_seq_k fun K hK => ?_ | ((first | refine awp_region_k (by kernel_rfl) fun R hR => ?_ | refine awp_draw mixed (by kernel_rfl) (by kernel_rfl) fun R hR => ?_); simp only [go_sem]) | ((first | (refine hR _ ?_; clear hR R) | refine awp_skip ?_ | refine awp_exit ?_ | refine awp_ret ?_); try simp only [thenA, inBlockA, reduceIte, reduceCtorEq, Nat.reduceEqDiff, if_false, if_true]) | ((first | refine hK _ ?_ | (clear hK K; first | refine hK _ ?_ | (clear hK K; first | refine hK _ ?_ | (clear hK K; first | refine hK _ ?_ | (clear hK K; refine hK _ ?_))))); clear hK K) | refine awp_true rfl rfl ?_ | refine awp_false rfl rfl ?_ | refine awp_block ?_ | refine And.intro (by first | ((repeat' first | omega | exact trivial | rfl | assumption | (intro a e; subst e; rfl) | exact map_sz fun a => (by simp only [go_sem]) | refine And.intro ?_ ?_); done) | fail) ?_ | fail)
  (first | refine ret_pure ?_ ?_ ?_ | refine ret_ro ?_ ?_ ?_); focus exact (by simp only [Try.results65, resOkL, resOk, Try.ntmps65, List.toList_toArray]; first | decide | (simp only [go_sem]; done) | (simp only [go_sem]; and_intros <;> first | omega | rfl | decide))
  rotate_left; focus exact (by repeat (first | exact Fr.rfl' _ _ | assumption | refine Fr.updk ?_ (by omega) _))
  simp only [resA, resV, Try.results65, go_sem]
  all_goals try (first | exact Co.t2 (.dat rfl) (.dat rfl) | exact Co.t3 (.dat rfl) (.dat rfl) (.dat rfl))
  exact .dat rfl
set_option maxRecDepth 20000 in
theorem fn_tri (n : Int) (us : List Tm) : Tri Try.prog 66 [iA n, .d (.sl (us.map tmDV))] (pure' (.d (tmDV (.mk 0 n us)))) := by
  refine tri_enter Try.func66 rfl Try.ntmps66 (by simp only [List.length_cons, List.length_nil]; omega) fun w0 h0 k hrd hwr => ?_
  repeat' (first | refine awp_seq_k fun K hK => ?_ | ((first | refine awp_region_k (by kernel_rfl) fun R hR => ?_ | refine awp_draw mixed (by kernel_rfl) (by kernel_rfl) fun R hR => ?_); simp only [go_sem]) | ((first | (refine hR _ ?_; clear hR R) | refine awp_skip ?_ | refine awp_exit ?_ | refine awp_ret ?_); try simp only [thenA, inBlockA, reduceIte, reduceCtorEq, Nat.reduceEqDiff, if_false, if_true]) | ((first | refine hK _ ?_ | (clear hK K; first | refine hK _ ?_ | (clear hK K; first | refine hK _ ?_ | (clear hK K; first | refine hK _ ?_ | (clear hK K; refine hK _ ?_))))); clear hK K) | refine awp_true rfl rfl ?_ | refine awp_false rfl rfl ?_ | refine awp_block ?_ | refine And.intro (by first | ((repeat' first | omega | exact trivial | rfl | assumption | (intro a e; subst e; rfl) | exact map_sz fun a => (by simp only [go_sem]) | refine And.intro ?_ ?_); done) | fail) ?_ | fail)
  (first | refine ret_pure ?_ ?_ ?_ | refine ret_ro ?_ ?_ ?_); focus exact (by simp only [Try.results66, resOkL, resOk, Try.ntmps66, List.toList_toArray]; first | decide | (simp only [go_sem]; done) | (simp only [go_sem]; and_intros <;> first | omega | rfl | decide))
  rotate_left; focus exact (by repeat (first | exact Fr.rfl' _ _ | assumption | refine Fr.updk ?_ (by omega) _))
  simp only [resA, resV, Try.results66, go_sem]
  all_goals try (first | exact Co.t2 (.dat rfl) (.dat rfl) | exact Co.t3 (.dat rfl) (.dat rfl) (.dat rfl))
  exact co_tm rfl
set_option maxRecDepth 20000 in
theorem va_tri (n : Int) : Tri Try.prog 67 [iA n] (pure' (.d (tmDV (.mk n 0 [])))) := by
  refine tri_enter Try.func67 rfl Try.ntmps67 (by simp only [List.length_cons, List.length_nil]; omega) fun w0 h0 k hrd hwr => ?_
  repeat' (first | refine awp_seq_k fun K hK => ?_ | ((first | refine awp_region_k (by kernel_rfl) fun R hR => ?_ | refine awp_draw mixed (by kernel_rfl) (by kernel_rfl) fun R hR => ?_); simp only [go_sem]) | ((first | (refine hR _ ?_; clear hR R) | refine awp_skip ?_ | refine awp_exit ?_ | refine awp_ret ?_); try simp only [thenA, inBlockA, reduceIte, reduceCtorEq, Nat.reduceEqDiff, if_false, if_true]) | ((first | refine hK _ ?_ | (clear hK K; first | refine hK _ ?_ | (clear hK K; first | refine hK _ ?_ | (clear hK K; first | refine hK _ ?_ | (clear hK K; refine hK _ ?_))))); clear hK K) | refine awp_true rfl rfl ?_ | refine awp_false rfl rfl ?_ | refine awp_block ?_ | refine And.intro (by first | ((repeat' first | omega | exact trivial | rfl | assumption | (intro a e; subst e; rfl) | exact map_sz fun a => (by simp only [go_sem]) | refine And.intro ?_ ?_); done) | fail) ?_ | fail)
  (first | refine ret_pure ?_ ?_ ?_ | refine ret_ro ?_ ?_ ?_); focus exact (by simp only [Try.results67, resOkL, resOk, Try.ntmps67, List.toList_toArray]; first | decide | (simp only [go_sem]; done) | (simp only [go_sem]; and_intros <;> first | omega | rfl | decide))
  rotate_left; focus exact (by repeat (first | exact Fr.rfl' _ _ | assumption | refine Fr.updk ?_ (by omega) _))
  simp only [resA, resV, Try.results67, go_sem]
  all_goals try (first | exact Co.t2 (.dat rfl) (.dat rfl) | exact Co.t3 (.dat rfl) (.dat rfl) (.dat rfl))
  exact co_tm rfl
end Go.Proofs.Ytmeekpinkfpnhaa
namespace Go.Proofs.Ytmeekpinkfpnhaa
abbrev Bs := List (Int × Tm)
def lookB (v : Int) : Bs → Option Tm
  | [] => none
  | p :: b => if v = p.1 then some p.2 else lookB v b
mutual
def meet : Tm → Tm → Bs → Bool × Bs
  | .mk v f us, t, b =>
    if v > 0 then match lookB v b with
      | some u => (same u t, b)
      | none => (true, b ++ [(v, t)])
    else if t.v = 0 ∧ f = t.f ∧ us.length = t.us.length then meetL us t.us b else (false, b)
def meetL : List Tm → List Tm → Bs → Bool × Bs
  | x :: xs, y :: ys, b => if (meet x y b).1 = true then meetL xs ys (meet x y b).2 else (false, (meet x y b).2)
  | _, _, b => (true, b)
end
theorem meet_eq (p t : Tm) (b : Bs) : meet p t b = if p.v > 0 then (match lookB p.v b with | some u => (same u t, b) | none => (true, b ++ [(p.v, t)])) else if t.v = 0 ∧ p.f = t.f ∧ p.us.length = t.us.length then meetL p.us t.us b else (false, b) := by
  cases p; rw [meet]; rfl
end Go.Proofs.Ytmeekpinkfpnhaa
namespace Go.Proofs.Ytmeekpinkfpnhaa
def sidesB (a b : Lt) : Bool := (same a.a b.a && same a.b b.b) || (same a.a b.b && same a.b b.a)
def alwB (c : List Lt) : Bool := c.any fun l => l.y && (same l.a l.b || c.any fun x => !x.y && sidesB x l)
def dropB (o : List Lt) (l : Lt) : Bool := (!l.y && same l.a l.b) || o.any fun x => x.y == l.y && sidesB x l
theorem same_comm (a b : Tm) : same a b = same b a := by
  rw [Bool.eq_iff_iff, same_iff, same_iff]; exact eq_comm
theorem sides_comm (a b : Lt) : sidesB a b = sidesB b a := by
  unfold sidesB
  rw [same_comm a.a b.a, same_comm a.b b.b, same_comm a.a b.b, same_comm a.b b.a]
  cases same b.a a.a <;> cases same b.b a.b <;> cases same b.b a.a <;> cases same b.a a.b <;> rfl
end Go.Proofs.Ytmeekpinkfpnhaa
namespace Go.Proofs.Ytmeekpinkfpnhaa
def idxB (v : Int) : Bs → Nat → Int
  | [], _ => -1
  | p :: b, i => if p.1 = v then i else idxB v b (i + 1)
theorem idxB_at {v : Int} {b : Bs} {i : Nat} (hi : i < b.length) : idxB v (b.drop i) i = if b[i].1 = v then (i : Int) else idxB v (b.drop (i + 1)) (i + 1) := by
  rw [List.drop_eq_getElem_cons hi, idxB]
theorem idxB_look (v : Int) : ∀ (b : Bs) (i : Nat), (idxB v b i = -1 ∧ lookB v b = none) ∨ ∃ (j : Nat) (h : j < b.length), idxB v b i = ((i + j : Nat) : Int) ∧ lookB v b = some b[j].2
  | [], i => .inl ⟨rfl, rfl⟩
  | p :: b, i => by
    rw [idxB, lookB]
    by_cases h : p.1 = v
    · rw [if_pos h, if_pos h.symm]
      exact .inr ⟨0, by simp, by simp, rfl⟩
    · rw [if_neg h, if_neg (fun e => h e.symm)]
      rcases idxB_look v b (i + 1) with ⟨h1, h2⟩ | ⟨j, hj, h1, h2⟩
      · exact .inl ⟨h1, h2⟩
      · exact .inr ⟨j + 1, by simpa using hj, by rw [h1]; congr 1; omega, by simpa using h2⟩
mutual
def grow : Tm → Tm → Bs → Bool × Bs
  | .mk v f us, t, b =>
    if v > 0 then match lookB v b with
      | some u => (same u t, b)
      | none => (true, b ++ [(v, t)])
    else if t.v > 0 ∨ f ≠ t.f ∨ us.length ≠ t.us.length then (false, b) else growL us t.us b
def growL : List Tm → List Tm → Bs → Bool × Bs
  | x :: xs, y :: ys, b => if (grow x y b).1 = true then growL xs ys (grow x y b).2 else (false, b)
  | _, _, b => (true, b)
end
theorem grow_eq (p t : Tm) (b : Bs) : grow p t b = if p.v > 0 then (match lookB p.v b with | some u => (same u t, b) | none => (true, b ++ [(p.v, t)])) else if t.v > 0 ∨ p.f ≠ t.f ∨ p.us.length ≠ t.us.length then (false, b) else growL p.us t.us b := by
  cases p; rw [grow]; rfl
theorem growL_at {xs ys : List Tm} {i : Nat} (hi : i < xs.length) (hi' : i < ys.length) (b : Bs) : growL (xs.drop i) (ys.drop i) b = if (grow xs[i] ys[i] b).1 = true then growL (xs.drop (i + 1)) (ys.drop (i + 1)) (grow xs[i] ys[i] b).2 else (false, b) := by
  rw [List.drop_eq_getElem_cons hi, List.drop_eq_getElem_cons hi', growL]
mutual
theorem meet_grow : ∀ (p t : Tm) (b : Bs), (∀ x ∈ parts t, 0 ≤ x.v) → (meet p t b).1 = (grow p t b).1 ∧ ((meet p t b).1 = true → (meet p t b).2 = (grow p t b).2)
  | .mk v f us, t, b, h => by
    rw [meet, grow]
    by_cases hv : v > 0
    · rw [if_pos hv, if_pos hv]; exact ⟨rfl, fun _ => rfl⟩
    · rw [if_neg hv, if_neg hv]
      have h0 := h t (by rw [parts_eq]; simp)
      by_cases hc : t.v = 0 ∧ f = t.f ∧ us.length = t.us.length
      · rw [if_pos hc, if_neg (by omega)]
        exact meetL_growL us t.us b fun x hx => h x (by rw [parts_eq]; exact List.mem_append_left _ hx)
      · rw [if_neg hc, if_pos (by omega)]; exact ⟨rfl, fun _ => rfl⟩
theorem meetL_growL : ∀ (xs ys : List Tm) (b : Bs), (∀ x ∈ partsL ys, 0 ≤ x.v) → (meetL xs ys b).1 = (growL xs ys b).1 ∧ ((meetL xs ys b).1 = true → (meetL xs ys b).2 = (growL xs ys b).2)
  | [], ys, b, _ => by cases ys <;> exact ⟨rfl, fun _ => rfl⟩
  | x :: xs, [], b, _ => ⟨rfl, fun _ => rfl⟩
  | x :: xs, y :: ys, b, h => by
    obtain ⟨h1, h2⟩ := meet_grow x y b fun z hz => h z (by rw [partsL]; exact List.mem_append_left _ hz)
    rw [meetL, growL, ← h1]
    by_cases hc : (meet x y b).1 = true
    · rw [if_pos hc, if_pos hc, h2 hc]
      exact meetL_growL xs ys _ fun z hz => h z (by rw [partsL]; exact List.mem_append_right _ hz)
    · rw [if_neg hc, if_neg hc]; exact ⟨rfl, fun h => by cases h⟩
end
theorem grow_len : ∀ (p t : Tm) (b : Bs), (grow p t b).2.length ≤ b.length + p.size := by
  suffices h : ∀ p : Tm, ∀ (t : Tm) (b : Bs), (grow p t b).2.length ≤ b.length + p.size from h
  intro p
  refine Tm.rec (motive_1 := fun p => ∀ (t : Tm) (b : Bs), (grow p t b).2.length ≤ b.length + p.size) (motive_2 := fun us => ∀ (ys : List Tm) (b : Bs), (growL us ys b).2.length ≤ b.length + Tm.size.sizes us) ?_ ?_ ?_ p
  · intro v f us ih t b
    rw [grow, Tm.size]
    by_cases hv : v > 0
    · rw [if_pos hv]
      cases lookB v b <;> simp <;> omega
    · rw [if_neg hv]
      split
      · simp
      · have := ih t.us b; omega
  · intro ys b; cases ys <;> simp [growL]
  · intro x xs h1 h2 ys b
    cases ys with
    | nil => simp [growL]
    | cons y ys =>
      rw [growL, Tm.size.sizes]
      split
      · have := h1 y b
        have := h2 ys (grow x y b).2
        omega
      · simp
end Go.Proofs.Ytmeekpinkfpnhaa
namespace Go.Proofs.Ytmeekpinkfpnhaa
mutual
def mapM (step : Tm → Tm × Bool) : Tm → Tm
  | .mk v f us => if (step (.mk v f us)).2 = true then (step (.mk v f us)).1 else .mk v f (mapL step us)
def mapL (step : Tm → Tm × Bool) : List Tm → List Tm
  | [] => []
  | x :: xs => mapM step x :: mapL step xs
end
theorem mapM_eq (step : Tm → Tm × Bool) (t : Tm) : mapM step t = if (step t).2 = true then (step t).1 else .mk t.v t.f (mapL step t.us) := by cases t; rw [mapM]; rfl
theorem mapL_map (step : Tm → Tm × Bool) (us : List Tm) : mapL step us = us.map (mapM step) := by
  induction us with
  | nil => rfl
  | cons x xs ih => rw [mapL, ih, List.map_cons]
theorem mapL_take {step : Tm → Tm × Bool} {us : List Tm} {i : Nat} (hi : i < us.length) : mapL step (us.take (i + 1)) = mapL step (us.take i) ++ [mapM step us[i]] := by
  rw [mapL_map, mapL_map, List.take_succ_eq_append_getElem hi, List.map_append]; rfl
theorem mapL_len (step : Tm → Tm × Bool) (us : List Tm) : (mapL step us).length = us.length := by rw [mapL_map, List.length_map]
def copyS (t : Tm) : Tm × Bool := (t, false)
mutual
theorem copy_id : ∀ t : Tm, mapM copyS t = t
  | .mk v f us => by rw [mapM]; simp only [copyS, Bool.false_eq_true, if_false]; rw [copyL_id us]
theorem copyL_id : ∀ us : List Tm, mapL copyS us = us
  | [] => rfl
  | x :: xs => by rw [mapL, copy_id x, copyL_id xs]
end
def madeS (bs : Bs) (x : Tm) : Tm × Bool := match lookB x.v bs with
  | some u => if x.v > 0 then (u, true) else (x, false)
  | none => (x, false)
mutual
def applyR (bs : Bs) : Tm → Tm
  | .mk v f us => if v > 0 then (match lookB v bs with | some u => u | none => .mk v f us) else .mk 0 f (applyRL bs us)
def applyRL (bs : Bs) : List Tm → List Tm
  | [] => []
  | x :: xs => applyR bs x :: applyRL bs xs
end
theorem applyR_eq (bs : Bs) (t : Tm) : applyR bs t = if t.v > 0 then (match lookB t.v bs with | some u => u | none => t) else .mk 0 t.f (applyRL bs t.us) := by cases t; rw [applyR]; rfl
theorem applyRL_map (bs : Bs) (us : List Tm) : applyRL bs us = us.map (applyR bs) := by
  induction us with
  | nil => rfl
  | cons x xs ih => rw [applyRL, ih, List.map_cons]
def Good (t : Tm) : Prop := ∀ x ∈ parts t, 0 ≤ x.v ∧ (x.v > 0 → x.us = [])
theorem Good.at {v f : Int} {us : List Tm} (h : Good (.mk v f us)) : 0 ≤ v ∧ (v > 0 → us = []) := h (.mk v f us) (by rw [parts]; simp)
theorem Good.kid {t u : Tm} (h : Good t) (hu : u ∈ t.us) : Good u := by
  intro x hx
  refine h x ?_
  rw [parts_eq]
  refine List.mem_append_left _ ?_
  cases t with
  | mk v f us =>
    simp only [Tm.us] at hu ⊢
    clear h
    induction us with
    | nil => cases hu
    | cons y ys ih =>
      rw [partsL, List.mem_append]
      rcases List.mem_cons.1 hu with rfl | hu
      · exact .inl hx
      · exact .inr (ih hu)
theorem own_good {g : List Int} {t : Tm} (h : own g t = 0) : Good t := fun x hx => ⟨own_v h hx, own_bare h x hx⟩
mutual
theorem made_apply (bs : Bs) : ∀ t : Tm, Good t → mapM (madeS bs) t = applyR bs t
  | .mk v f us, h => by
    obtain ⟨h1, h2⟩ := h.at
    rw [mapM, applyR]
    by_cases hv : v > 0
    · rw [if_pos hv]
      have := h2 hv; subst this
      cases hl : lookB v bs with
      | some u => simp [madeS, Tm.v, hl, hv]
      | none => simp [madeS, Tm.v, hl, mapL]
    · rw [if_neg hv, if_neg (by simp only [madeS, Tm.v]; cases lookB v bs <;> simp [hv])]
      obtain rfl : v = 0 := by omega
      rw [madeL_apply bs us fun u hu => h.kid (t := .mk 0 f us) hu]
theorem madeL_apply (bs : Bs) : ∀ us : List Tm, (∀ u ∈ us, Good u) → mapL (madeS bs) us = applyRL bs us
  | [], _ => rfl
  | x :: xs, h => by rw [mapL, applyRL, made_apply bs x (h x (by simp)), madeL_apply bs xs fun u hu => h u (by simp [hu])]
end
def mapLt (f : Tm → Tm) (l : Lt) : Lt := ⟨l.y, f l.a, f l.b⟩
theorem mapLt_same {f g : Tm → Tm} {c : List Lt} (h : ∀ l ∈ c, f l.a = g l.a ∧ f l.b = g l.b) : c.map (mapLt f) = c.map (mapLt g) := by
  refine List.map_congr_left fun l hl => ?_
  unfold mapLt; rw [(h l hl).1, (h l hl).2]
def keepG : List Lt → List Lt → List Lt
  | o, [] => o
  | o, l :: c => if dropB o l = true then keepG o c else keepG (o ++ [l]) c
def keepR : List Lt → List Lt → List Lt
  | _, [] => []
  | p, l :: c => if dropB p l = true then keepR (p ++ [l]) c else l :: keepR (p ++ [l]) c
theorem sidesB_iff (a b : Lt) : sidesB a b = true ↔ (a.a = b.a ∧ a.b = b.b) ∨ (a.a = b.b ∧ a.b = b.a) := by
  unfold sidesB
  rw [Bool.or_eq_true, Bool.and_eq_true, Bool.and_eq_true, same_iff, same_iff, same_iff, same_iff]
theorem sidesB_trans {a b c : Lt} (h1 : sidesB a b = true) (h2 : sidesB b c = true) : sidesB a c = true := by
  rw [sidesB_iff] at *
  rcases h1 with ⟨h1, h3⟩ | ⟨h1, h3⟩ <;> rcases h2 with ⟨h2, h4⟩ | ⟨h2, h4⟩ <;> simp [h1, h2, h3, h4]
theorem dropB_snoc (o : List Lt) (l x : Lt) : dropB (o ++ [l]) x = (dropB o x || (l.y == x.y && sidesB l x)) := by
  unfold dropB; rw [List.any_append]; simp [Bool.or_assoc]
theorem dropB_dropped {p : List Lt} {l x : Lt} (h : dropB p l = true) : dropB (p ++ [l]) x = dropB p x := by
  rw [dropB_snoc]
  cases hq : (l.y == x.y && sidesB l x) with
  | false => rw [Bool.or_false]
  | true =>
    rw [Bool.or_true]
    rw [Bool.and_eq_true, beq_iff_eq] at hq
    obtain ⟨hy, hs⟩ := hq
    symm
    unfold dropB at h ⊢
    rw [Bool.or_eq_true] at h ⊢
    rcases h with h | h
    · left
      rw [Bool.and_eq_true, same_iff] at h ⊢
      rw [← hy]
      refine ⟨h.1, ?_⟩
      rw [sidesB_iff] at hs
      rcases hs with ⟨h1, h2⟩ | ⟨h1, h2⟩
      · rw [← h1, ← h2]; exact h.2
      · rw [← h1, ← h2]; exact h.2.symm
    · right
      rw [List.any_eq_true] at h ⊢
      obtain ⟨z, hz, h⟩ := h
      rw [Bool.and_eq_true, beq_iff_eq] at h
      refine ⟨z, hz, ?_⟩
      rw [Bool.and_eq_true, beq_iff_eq]
      exact ⟨h.1.trans hy, sidesB_trans h.2 hs⟩
theorem keep_eq : ∀ (c o p : List Lt), (∀ x, dropB o x = dropB p x) → keepG o c = o ++ keepR p c
  | [], o, p, _ => by rw [keepG, keepR, List.append_nil]
  | l :: c, o, p, h => by
    rw [keepG, keepR, h l]
    by_cases hd : dropB p l = true
    · rw [if_pos hd, if_pos hd]
      exact keep_eq c o _ fun x => by rw [h x, dropB_dropped hd]
    · rw [if_neg hd, if_neg hd, keep_eq c (o ++ [l]) (p ++ [l]) (fun x => by rw [dropB_snoc, dropB_snoc, h x])]
      simp
theorem keepR_mem : ∀ {c p : List Lt} {x : Lt}, x ∈ keepR p c → x ∈ c
  | l :: c, p, x, h => by
    rw [keepR] at h
    split at h
    · exact List.mem_cons_of_mem _ (keepR_mem h)
    · rcases List.mem_cons.1 h with rfl | h
      · exact List.mem_cons_self
      · exact List.mem_cons_of_mem _ (keepR_mem h)
theorem keepR_len : ∀ (c p : List Lt), (keepR p c).length ≤ c.length
  | [], _ => Nat.le_refl _
  | l :: c, p => by
    rw [keepR]
    split
    · have := keepR_len c (p ++ [l]); simp; omega
    · have := keepR_len c (p ++ [l]); simp; omega
def numBs : List Int → Nat → Bs
  | [], _ => []
  | v :: vs, i => (v, .mk ((i : Int) + 1) 0 []) :: numBs vs (i + 1)
theorem numBs_len : ∀ (vs : List Int) (i : Nat), (numBs vs i).length = vs.length
  | [], _ => rfl
  | v :: vs, i => by rw [numBs, List.length_cons, numBs_len vs, List.length_cons]
theorem numBs_append : ∀ (a b : List Int) (i : Nat), numBs (a ++ b) i = numBs a i ++ numBs b (i + a.length)
  | [], b, i => by simp [numBs]
  | v :: a, b, i => by rw [List.cons_append, numBs, numBs, numBs_append a b]; simp [Nat.add_assoc, Nat.add_comm 1]
theorem numBs_mem : ∀ {vs : List Int} {i : Nat} {p : Int × Tm}, p ∈ numBs vs i → p.1 ∈ vs ∧ p.2.us = [] ∧ p.2.v > 0 ∧ p.2.f = 0
  | v :: vs, i, p, h => by
    rw [numBs] at h
    rcases List.mem_cons.1 h with rfl | h
    · exact ⟨by simp, rfl, by simp only [Tm.v]; omega, rfl⟩
    · obtain ⟨h1, h2⟩ := numBs_mem h
      exact ⟨by simp [h1], h2⟩
def neatG (c : List Lt) : List Lt := (keepG [] c).map (mapLt (mapM (madeS (numBs (addVs [] ((termsOf (keepG [] c)).flatMap pre)) 0))))
def tidyR (c : List Lt) : List Lt := (keepR [] c).map (mapLt (applyR (numBs (firstVars (termsOf (keepR [] c))) 0)))
theorem keep_nil (c : List Lt) : keepG [] c = keepR [] c := by rw [keep_eq c [] [] fun _ => rfl, List.nil_append]
theorem termsOf_mem {c : List Lt} {t : Tm} (h : t ∈ termsOf c) : ∃ l ∈ c, t = l.a ∨ t = l.b := by
  obtain ⟨l, hl, h⟩ := List.mem_flatMap.1 h
  exact ⟨l, hl, by simpa using h⟩
theorem neat_tidy {c : List Lt} (h : ∀ l ∈ c, Good l.a ∧ Good l.b) : neatG c = tidyR c := by
  have hk : ∀ l ∈ keepR [] c, Good l.a ∧ Good l.b := fun l hl => h l (keepR_mem hl)
  have hb : ∀ t ∈ termsOf (keepR [] c), Bare t := fun t ht x hx => by
    obtain ⟨l, hl, rfl | rfl⟩ := termsOf_mem ht
    · exact ((hk l hl).1 x hx).2
    · exact ((hk l hl).2 x hx).2
  unfold neatG tidyR
  rw [keep_nil, stands_eq hb]
  exact mapLt_same fun l hl => ⟨made_apply _ _ (hk l hl).1, made_apply _ _ (hk l hl).2⟩
end Go.Proofs.Ytmeekpinkfpnhaa
namespace Go.Proofs.Ytmeekpinkfpnhaa
open Go.RowKit
theorem co_tm' {k : Nat} {ren : Ren} {t : Tm} {a : AV} (h : a.toD? = some (.sl (t.us.map tmDV))) : Co k ren (.st [iA t.v, iA t.f, a]) (.d (tmDV t)) :=
  .dat (by simp only [AV.toD?, allD, h]; rw [tmDV_eq]; rfl)
section
variable (g : FuncId) (caps : List AV) (ro : List (Nm × Ob)) (step : Tm → Tm × Bool) (hg : enterOk Try.prog g)
def MapSpec (t : Tm) : Prop := t.size ≤ 4000000 → (∀ x ∈ pre t, Tri Try.prog g ([.d (tmDV x)] ++ caps) (rdE ro (.tup [.d (tmDV (step x).1), bA (step x).2]))) → Tri Try.prog 128 [.d (tmDV t), .fn (.func g) [] caps] (rdE ro (.d (tmDV (mapM step t))))
include hg
set_option maxRecDepth 20000 in
theorem mapped_step (t : Tm) (ih : ∀ u ∈ t.us, MapSpec g caps ro step u) : MapSpec g caps ro step t := by
  intro hsz hdo
  have hlen := t.len_lt
  have hd0 := hdo t (by rw [pre_eq]; simp)
  rw [mapM_eq]
  refine tri_enter_ro Try.func128 rfl Try.ntmps128 (by simp only [List.length_cons, List.length_nil]; omega) fun w0 h0 k hro => ?_
  cases h1 : (step t).2 with
  | true =>
    rw [h1] at hd0
    generalize (step t).1 = u at *
    simp only [if_true]
    repeat' (first | refine awp_seq_k fun K hK => ?_ | ((first | refine awp_region_k (by kernel_rfl) fun R hR => ?_ | refine awp_draw mixed (by kernel_rfl) (by kernel_rfl) fun R hR => ?_); simp only [go_sem]) | ((first | (refine hR _ ?_; clear hR R) | refine awp_skip ?_ | refine awp_exit ?_ | refine awp_ret ?_); try simp only [thenA, inBlockA, reduceIte, reduceCtorEq, Nat.reduceEqDiff, if_false, if_true]) | ((first | refine hK _ ?_ | (clear hK K; first | refine hK _ ?_ | (clear hK K; first | refine hK _ ?_ | (clear hK K; first | refine hK _ ?_ | (clear hK K; refine hK _ ?_))))); clear hK K) | refine awp_true rfl rfl ?_ | refine awp_false rfl rfl ?_ | refine awp_block ?_ | ((first | refine CallK.vlook rfl (hg) (hd0) ?_ (by assumption) (by repeat (first | exact Fr.rfl' _ _ | assumption | refine Fr.updk ?_ (by omega) _)) ?_ | refine CallD.vlook rfl (hg) (hd0) ?_ (by assumption) (by repeat (first | exact Fr.rfl' _ _ | assumption | refine Fr.updk ?_ (by omega) _)) (by first | assumption | exact List.cons_ne_nil _ _) ?_); (focus first | ((repeat (first | exact trivial | refine ⟨(by first | exact Or.inl rfl | exact Or.inr rfl), ?_⟩)); done) | (simp only [coL, AV.dat, true_or, or_true, AV.d.injEq, go_sem]; done)); simp only [go_sem]) | refine And.intro (by first | ((repeat' first | omega | exact trivial | rfl | assumption | (intro a e; subst e; rfl) | exact map_sz fun a => (by simp only [go_sem]) | refine And.intro ?_ ?_); done) | fail) ?_ | fail)
    (first | refine ret_pure ?_ ?_ ?_ | refine ret_ro ?_ ?_ ?_); focus exact (by simp only [Try.results128, resOkL, resOk, Try.ntmps128, List.toList_toArray]; first | decide | (simp only [go_sem]; done) | (simp only [go_sem]; and_intros <;> first | omega | rfl | decide))
    rotate_left; focus exact (by repeat (first | exact Fr.rfl' _ _ | assumption | refine Fr.updk ?_ (by omega) _))
    simp only [resA, resV, Try.results128, go_sem]
    all_goals try (first | exact Co.t2 (.dat rfl) (.dat rfl) | exact Co.t3 (.dat rfl) (.dat rfl) (.dat rfl))
    exact co_tm' rfl
  | false =>
    rw [h1] at hd0
    generalize (step t).1 = u at *
    simp only [Bool.false_eq_true, if_false]
    repeat' (first | refine awp_ghost (ghost_nil (i := 7) (e := 27) rfl) ?_ | refine awp_seq_k fun K hK => ?_ | ((first | refine awp_region_k (by kernel_rfl) fun R hR => ?_ | refine awp_draw mixed (by kernel_rfl) (by kernel_rfl) fun R hR => ?_); simp only [go_sem]) | ((first | (refine hR _ ?_; clear hR R) | refine awp_skip ?_ | refine awp_exit ?_ | refine awp_ret ?_); try simp only [thenA, inBlockA, reduceIte, reduceCtorEq, Nat.reduceEqDiff, if_false, if_true]) | ((first | refine hK _ ?_ | (clear hK K; first | refine hK _ ?_ | (clear hK K; first | refine hK _ ?_ | (clear hK K; first | refine hK _ ?_ | (clear hK K; refine hK _ ?_))))); clear hK K) | refine awp_true rfl rfl ?_ | refine awp_false rfl rfl ?_ | refine awp_block ?_ | ((first | refine CallK.vlook rfl (hg) (hd0) ?_ (by assumption) (by repeat (first | exact Fr.rfl' _ _ | assumption | refine Fr.updk ?_ (by omega) _)) ?_ | refine CallD.vlook rfl (hg) (hd0) ?_ (by assumption) (by repeat (first | exact Fr.rfl' _ _ | assumption | refine Fr.updk ?_ (by omega) _)) (by first | assumption | exact List.cons_ne_nil _ _) ?_); (focus first | ((repeat (first | exact trivial | refine ⟨(by first | exact Or.inl rfl | exact Or.inr rfl), ?_⟩)); done) | (simp only [coL, AV.dat, true_or, or_true, AV.d.injEq, go_sem]; done)); simp only [go_sem]) | refine And.intro (by first | ((repeat' first | omega | exact trivial | rfl | assumption | (intro a e; subst e; rfl) | exact map_sz fun a => (by simp only [go_sem]) | refine And.intro ?_ ?_); done) | fail) ?_ | fail)
    refine awp_loop (fun σ => ∃ i : Nat, σ.t 1 = .fn (.func g) [] caps ∧ σ.t 2 = .ptr (k, 0) 0 ∧ σ.t 4 = .ptr (k, 1) 0 ∧ σ.t 7 = .own (k + 1 + 1 + 1 + 1, 0) ((mapL step (t.us.take i)).map tmDV) ∧ σ.t 19 = .d (.sl (t.us.map tmDV)) ∧ σ.t 20 = iA t.us.length ∧ σ.t 21 = iA i ∧
      σ.h (k, 0) = some (.cells 27 [iA t.v, iA t.f, .d (.sl (t.us.map tmDV))]) ∧ σ.h (k, 1) = some (.cells 27 [iA 0, iA 0, .nil]) ∧ σ.h (k + 1 + 1 + 1 + 1, 0) = some (.perm 27 (mapL step (t.us.take i)).length) ∧ Fr k h0 σ.h ∧ k + 1 + 1 + 1 + 1 < σ.k ∧ i ≤ t.us.length) (fun σ => t.us.length - (intOf' (σ.t 21)).toNat) ?_ ?_
    · refine ⟨0, ?_⟩
      simp only [go_sem, List.take_zero, mapL]
      and_intros; all_goals try (first | rfl | omega | assumption | ((repeat (first | exact Fr.rfl' _ _ | assumption | refine Fr.updk ?_ (by omega) _)); done))
    · rintro σ ⟨i, s1, s2, s4, s7, s19, s20, s21, sh, sh', sp, hF, hk, hi⟩
      have hne := ltne (show k < σ.k by omega)
      have hne2 := ltne hk
      have hml := mapL_len step (t.us.take i)
      rw [List.length_take] at hml
      rcases Nat.lt_or_ge i t.us.length with hlt | hge
      · have hz : (i : Int) < (t.us.length : Int) := by omega
        have e1 : (t.us.map tmDV).getD i default = tmDV t.us[i] := nth_map tmDV hlt _
        have hs := Tm.size_at hlt
        have h2 := ih _ (List.getElem_mem hlt) (by omega) (fun x hx => hdo x (by rw [pre_eq]; exact List.mem_cons_of_mem _ (preL_mem (List.getElem_mem hlt) hx)))
        have etk : (mapL step (t.us.take i)).map tmDV ++ [tmDV (mapM step t.us[i])] = (mapL step (t.us.take (i + 1))).map tmDV := by rw [mapL_take hlt]; simp
        repeat' (first | refine awp_seq_k fun K hK => ?_ | ((first | refine awp_region_k (by kernel_rfl) fun R hR => ?_ | refine awp_draw mixed (by kernel_rfl) (by kernel_rfl) fun R hR => ?_); simp only [go_sem, s1, s2, s4, s7, s19, s20, s21, sh, sh', sp, hz, e1, hne, hne2, List.length_map, Int.toNat_natCast]) | ((first | (refine hR _ ?_; clear hR R) | refine awp_skip ?_ | refine awp_exit ?_ | refine awp_ret ?_); try simp only [thenA, inBlockA, reduceIte, reduceCtorEq, Nat.reduceEqDiff, if_false, if_true]) | ((first | refine hK _ ?_ | (clear hK K; first | refine hK _ ?_ | (clear hK K; first | refine hK _ ?_ | (clear hK K; first | refine hK _ ?_ | (clear hK K; refine hK _ ?_))))); clear hK K) | refine awp_true rfl rfl ?_ | refine awp_false rfl rfl ?_ | refine awp_block ?_ | ((first | refine CallK.look (enter128) (h2) ?_ (by assumption) (by repeat (first | exact Fr.rfl' _ _ | assumption | refine Fr.updk ?_ (by omega) _)) ?_ | refine CallD.look (enter128) (h2) ?_ (by assumption) (by repeat (first | exact Fr.rfl' _ _ | assumption | refine Fr.updk ?_ (by omega) _)) (by first | assumption | exact List.cons_ne_nil _ _) ?_); (focus first | ((repeat (first | exact trivial | refine ⟨(by first | exact Or.inl rfl | exact Or.inr rfl), ?_⟩)); done) | (simp only [coL, AV.dat, true_or, or_true, AV.d.injEq, go_sem]; done)); simp only [go_sem, s1, s2, s4, s7, s19, s20, s21, sh, sh', sp, hz, e1, hne, hne2, List.length_map, Int.toNat_natCast]) | refine And.intro (by first | ((repeat' first | omega | exact trivial | rfl | assumption | (intro a e; subst e; rfl) | exact map_sz fun a => (by simp only [go_sem]) | refine And.intro ?_ ?_); done) | fail) ?_ | fail)
        refine ⟨⟨i + 1, ?_⟩, ?_⟩
        rotate_left
        · simp only [go_sem, s1, s2, s4, s7, s19, s20, s21, sh, sh', sp, hne, hne2, etk, List.length_map]; omega
        simp only [go_sem, s1, s2, s4, s7, s19, s20, s21, sh, sh', sp, hne, hne2, etk, List.length_map]
        and_intros; all_goals try (first | rfl | omega | assumption | ((repeat (first | exact Fr.rfl' _ _ | assumption | refine Fr.updk ?_ (by omega) _)); done))
      · have hz : ¬ ((i : Int) < (t.us.length : Int)) := by omega
        obtain rfl : i = t.us.length := by omega
        rw [List.take_length] at s7 sp
        repeat' (first | refine awp_seq_k fun K hK => ?_ | ((first | refine awp_region_k (by kernel_rfl) fun R hR => ?_ | refine awp_draw mixed (by kernel_rfl) (by kernel_rfl) fun R hR => ?_); simp only [go_sem, s1, s2, s4, s7, s20, s21, sh, sh', sp, hz, hne, hne2]) | ((first | (refine hR _ ?_; clear hR R) | refine awp_skip ?_ | refine awp_exit ?_ | refine awp_ret ?_); try simp only [thenA, inBlockA, reduceIte, reduceCtorEq, Nat.reduceEqDiff, if_false, if_true]) | ((first | refine hK _ ?_ | (clear hK K; first | refine hK _ ?_ | (clear hK K; first | refine hK _ ?_ | (clear hK K; first | refine hK _ ?_ | (clear hK K; refine hK _ ?_))))); clear hK K) | refine awp_true rfl rfl ?_ | refine awp_false rfl rfl ?_ | refine awp_block ?_ | refine And.intro (by first | ((repeat' first | omega | exact trivial | rfl | assumption | (intro a e; subst e; rfl) | exact map_sz fun a => (by simp only [go_sem]) | refine And.intro ?_ ?_); done) | fail) ?_ | fail)
        (first | refine ret_pure ?_ ?_ ?_ | refine ret_ro ?_ ?_ ?_); focus exact (by simp only [Try.results128, resOkL, resOk, Try.ntmps128, List.toList_toArray]; first | decide | (simp only [go_sem, s4, hne, hne2]; done) | (simp only [go_sem, s4, hne, hne2]; and_intros <;> first | omega | rfl | decide))
        rotate_left; focus exact (by repeat (first | exact Fr.rfl' _ _ | assumption | refine Fr.updk ?_ (by omega) _))
        simp only [resA, resV, Try.results128, go_sem, s4, hne, hne2]
        all_goals try (first | exact Co.t2 (.dat rfl) (.dat rfl) | exact Co.t3 (.dat rfl) (.dat rfl) (.dat rfl))
        exact co_tm rfl
theorem mapped_tri : ∀ t : Tm, MapSpec g caps ro step t := Tm.ind (mapped_step g caps ro step hg)
end
set_option maxRecDepth 20000 in
theorem copied1_tri (t : Tm) : Tri Try.prog 129 [.d (tmDV t)] (rdE [] (.tup [.d (tmDV t), bA false])) := by
  refine tri_enter_ro Try.func129 rfl Try.ntmps129 (by simp only [List.length_cons, List.length_nil]; omega) fun w0 h0 k hro => ?_
  repeat' (first | refine awp_seq_k fun K hK => ?_ | ((first | refine awp_region_k (by kernel_rfl) fun R hR => ?_ | refine awp_draw mixed (by kernel_rfl) (by kernel_rfl) fun R hR => ?_); simp only [go_sem]) | ((first | (refine hR _ ?_; clear hR R) | refine awp_skip ?_ | refine awp_exit ?_ | refine awp_ret ?_); try simp only [thenA, inBlockA, reduceIte, reduceCtorEq, Nat.reduceEqDiff, if_false, if_true]) | ((first | refine hK _ ?_ | (clear hK K; first | refine hK _ ?_ | (clear hK K; first | refine hK _ ?_ | (clear hK K; first | refine hK _ ?_ | (clear hK K; refine hK _ ?_))))); clear hK K) | refine awp_true rfl rfl ?_ | refine awp_false rfl rfl ?_ | refine awp_block ?_ | refine And.intro (by first | ((repeat' first | omega | exact trivial | rfl | assumption | (intro a e; subst e; rfl) | exact map_sz fun a => (by simp only [go_sem]) | refine And.intro ?_ ?_); done) | fail) ?_ | fail)
  (first | refine ret_pure ?_ ?_ ?_ | refine ret_ro ?_ ?_ ?_); focus exact (by simp only [Try.results129, resOkL, resOk, Try.ntmps129, List.toList_toArray]; first | decide | (simp only [go_sem]; done) | (simp only [go_sem]; and_intros <;> first | omega | rfl | decide))
  rotate_left; focus exact (by repeat (first | exact Fr.rfl' _ _ | assumption | refine Fr.updk ?_ (by omega) _))
  simp only [resA, resV, Try.results129, go_sem]
  all_goals try (first | exact Co.t2 (.dat rfl) (.dat rfl) | exact Co.t3 (.dat rfl) (.dat rfl) (.dat rfl))
  exact .t2 (co_tm' rfl) (.dat rfl)
set_option maxRecDepth 20000 in
theorem copied_tri (t : Tm) (ht : t.size ≤ 4000000) : Tri Try.prog 98 [.d (tmDV t)] (pure' (.d (tmDV t))) := by
  have h := mapped_tri 129 [] [] copyS (enter129) t ht (fun x _ => copied1_tri x)
  rw [copy_id, rdE_nil] at h
  refine tri_enter Try.func98 rfl Try.ntmps98 (by simp only [List.length_cons, List.length_nil]; omega) fun w0 h0 k hrd hwr => ?_
  repeat' (first | refine awp_seq_k fun K hK => ?_ | ((first | refine awp_region_k (by kernel_rfl) fun R hR => ?_ | refine awp_draw mixed (by kernel_rfl) (by kernel_rfl) fun R hR => ?_); simp only [go_sem]) | ((first | (refine hR _ ?_; clear hR R) | refine awp_skip ?_ | refine awp_exit ?_ | refine awp_ret ?_); try simp only [thenA, inBlockA, reduceIte, reduceCtorEq, Nat.reduceEqDiff, if_false, if_true]) | ((first | refine hK _ ?_ | (clear hK K; first | refine hK _ ?_ | (clear hK K; first | refine hK _ ?_ | (clear hK K; first | refine hK _ ?_ | (clear hK K; refine hK _ ?_))))); clear hK K) | refine awp_true rfl rfl ?_ | refine awp_false rfl rfl ?_ | refine awp_block ?_ | ((first | refine CallK.pure (enter128) (h) ?_ ?_ | refine CallD.pure (enter128) (h) ?_ ?_); (focus first | ((repeat (first | exact trivial | refine ⟨(by first | exact Or.inl rfl | exact Or.inr rfl), ?_⟩)); done) | (simp only [coL, AV.dat, true_or, or_true, AV.d.injEq, go_sem]; done)); simp only [go_sem]) | refine And.intro (by first | ((repeat' first | omega | exact trivial | rfl | assumption | (intro a e; subst e; rfl) | exact map_sz fun a => (by simp only [go_sem]) | refine And.intro ?_ ?_); done) | fail) ?_ | fail)
  (first | refine ret_pure ?_ ?_ ?_ | refine ret_ro ?_ ?_ ?_); focus exact (by simp only [Try.results98, resOkL, resOk, Try.ntmps98, List.toList_toArray]; first | decide | (simp only [go_sem]; done) | (simp only [go_sem]; and_intros <;> first | omega | rfl | decide))
  rotate_left; focus exact (by repeat (first | exact Fr.rfl' _ _ | assumption | refine Fr.updk ?_ (by omega) _))
  simp only [resA, resV, Try.results98, go_sem]
  all_goals try (first | exact Co.t2 (.dat rfl) (.dat rfl) | exact Co.t3 (.dat rfl) (.dat rfl) (.dat rfl))
  exact co_tm' rfl
end Go.Proofs.Ytmeekpinkfpnhaa
