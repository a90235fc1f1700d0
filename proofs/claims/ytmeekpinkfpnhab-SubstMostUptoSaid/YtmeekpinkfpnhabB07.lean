/- Functions of Go's library: slices.Index, Contains, IndexFunc, ContainsFunc, Clone. term.walk, term.Walk, with a function that changes objects; term.Stands. slices.EqualFunc of terms, with a function that changes objects. Maps: what is worked out of them. -/
import Derived.Test.YtmeekpinkfpnhabB06
set_option linter.unusedSimpArgs false
set_option linter.unusedSectionVars false
set_option linter.unusedVariables false
set_option linter.unnecessarySimpa false
set_option linter.all false
namespace Go.Proofs.Ytmeekpinkfpnhab
open Go.RowKit
def idxI (v : Int) : List Int → Nat → Int
  | [], _ => -1
  | x :: l, i => if v == x then i else idxI v l (i + 1)
theorem idxI_go {v : Int} {l : List Int} {i : Nat} (hi : i < l.length) (h : (v == l[i]) = false) : idxI v (l.drop i) i = idxI v (l.drop (i + 1)) (i + 1) := by
  rw [List.drop_eq_getElem_cons hi, idxI, h]; rfl
theorem idxI_at {v : Int} {l : List Int} {i : Nat} (hi : i < l.length) (h : (v == l[i]) = true) : idxI v (l.drop i) i = i := by
  rw [List.drop_eq_getElem_cons hi, idxI, if_pos h]
theorem idxI_nn (v : Int) : ∀ (l : List Int) (i : Nat), decide (idxI v l i ≥ 0) = l.contains v
  | [], _ => rfl
  | x :: l, i => by
    rw [idxI, List.contains_cons]
    by_cases h : v == x
    · rw [if_pos h, h]; simp
    · rw [if_neg h, idxI_nn v l (i + 1)]; simp at h; simp [h]
set_option maxRecDepth 20000 in
theorem index_tri (l : List Int) (hl : l.length ≤ 16777216) (v : Int) : Tri Try.prog 123 [.d (.sl (l.map iD)), iA v] (pure' (iA (idxI v l 0))) := by
  refine tri_enter Try.func123 rfl Try.ntmps123 (by simp only [List.length_cons, List.length_nil]; omega) fun w0 h0 k hrd hwr => ?_
  repeat' (first | refine awp_seq_k fun K hK => ?_ | ((first | refine awp_region_k (by kernel_rfl) fun R hR => ?_ | refine awp_draw mixed (by kernel_rfl) (by kernel_rfl) fun R hR => ?_); simp only [go_sem]) | ((first | (refine hR _ ?_; clear hR R) | refine awp_skip ?_ | refine awp_exit ?_ | refine awp_ret ?_); try simp only [thenA, inBlockA, reduceIte, reduceCtorEq, Nat.reduceEqDiff, if_false, if_true]) | ((first | refine hK _ ?_ | (clear hK K; first | refine hK _ ?_ | (clear hK K; first | refine hK _ ?_ | (clear hK K; first | refine hK _ ?_ | (clear hK K; refine hK _ ?_))))); clear hK K) | refine awp_true rfl rfl ?_ | refine awp_false rfl rfl ?_ | refine awp_block ?_ | refine And.intro (by first | ((repeat' first | omega | exact trivial | rfl | assumption | (intro a e; subst e; rfl) | exact map_sz fun a => (by simp only [go_sem]) | refine And.intro ?_ ?_); done) | fail) ?_ | fail)
  refine awp_loop (fun σ => ∃ i : Nat, σ.t 0 = .d (.sl (l.map iD)) ∧ σ.t 1 = iA v ∧ σ.t 7 = iA l.length ∧ σ.t 8 = iA i ∧ σ.h = h0 ∧ i ≤ l.length ∧ idxI v (l.drop i) i = idxI v l 0) (fun σ => l.length - (intOf' (σ.t 8)).toNat) ?_ ?_
  · refine ⟨0, ?_⟩
    simp only [go_sem]
    and_intros; all_goals try (first | rfl | omega | assumption | ((repeat (first | exact Fr.rfl' _ _ | assumption | refine Fr.updk ?_ (by omega) _)); done))
  · rintro σ ⟨i, s0, s1, s7, s8, sh, hi, hv⟩
    have hfr : Fr k h0 σ.h := by rw [sh]; exact Fr.rfl' _ _
    rcases Nat.lt_or_ge i l.length with hlt | hge
    · have hz : (i : Int) < (l.length : Int) := by omega
      have e1 : (l.map iD).getD i default = iD l[i] := nth_map iD hlt _
      cases hc : v == l[i] with
      | true =>
        rw [idxI_at hlt hc] at hv
        repeat' (first | refine awp_seq_k fun K hK => ?_ | ((first | refine awp_region_k (by kernel_rfl) fun R hR => ?_ | refine awp_draw mixed (by kernel_rfl) (by kernel_rfl) fun R hR => ?_); simp only [go_sem, s0, s1, s7, s8, hz, e1, hc, Int.toNat_natCast]) | ((first | (refine hR _ ?_; clear hR R) | refine awp_skip ?_ | refine awp_exit ?_ | refine awp_ret ?_); try simp only [thenA, inBlockA, reduceIte, reduceCtorEq, Nat.reduceEqDiff, if_false, if_true]) | ((first | refine hK _ ?_ | (clear hK K; first | refine hK _ ?_ | (clear hK K; first | refine hK _ ?_ | (clear hK K; first | refine hK _ ?_ | (clear hK K; refine hK _ ?_))))); clear hK K) | refine awp_true rfl rfl ?_ | refine awp_false rfl rfl ?_ | refine awp_block ?_ | refine And.intro (by first | ((repeat' first | omega | exact trivial | rfl | assumption | (intro a e; subst e; rfl) | exact map_sz fun a => (by simp only [go_sem]) | refine And.intro ?_ ?_); done) | fail) ?_ | fail)
        (first | refine ret_pure ?_ ?_ ?_ | refine ret_ro ?_ ?_ ?_); focus exact (by simp only [Try.results123, resOkL, resOk, Try.ntmps123, List.toList_toArray]; first | decide | (simp only [go_sem]; done) | (simp only [go_sem]; and_intros <;> first | omega | rfl | decide))
        rotate_left; focus exact (by repeat (first | exact Fr.rfl' _ _ | assumption | refine Fr.updk ?_ (by omega) _))
        simp only [resA, resV, Try.results123, go_sem]
        all_goals try (first | exact Co.t2 (.dat rfl) (.dat rfl) | exact Co.t3 (.dat rfl) (.dat rfl) (.dat rfl))
        exact co_i hv
      | false =>
        repeat' (first | refine awp_seq_k fun K hK => ?_ | ((first | refine awp_region_k (by kernel_rfl) fun R hR => ?_ | refine awp_draw mixed (by kernel_rfl) (by kernel_rfl) fun R hR => ?_); simp only [go_sem, s0, s1, s7, s8, hz, e1, hc, Int.toNat_natCast]) | ((first | (refine hR _ ?_; clear hR R) | refine awp_skip ?_ | refine awp_exit ?_ | refine awp_ret ?_); try simp only [thenA, inBlockA, reduceIte, reduceCtorEq, Nat.reduceEqDiff, if_false, if_true]) | ((first | refine hK _ ?_ | (clear hK K; first | refine hK _ ?_ | (clear hK K; first | refine hK _ ?_ | (clear hK K; first | refine hK _ ?_ | (clear hK K; refine hK _ ?_))))); clear hK K) | refine awp_true rfl rfl ?_ | refine awp_false rfl rfl ?_ | refine awp_block ?_ | refine And.intro (by first | ((repeat' first | omega | exact trivial | rfl | assumption | (intro a e; subst e; rfl) | exact map_sz fun a => (by simp only [go_sem]) | refine And.intro ?_ ?_); done) | fail) ?_ | fail)
        refine ⟨⟨i + 1, ?_⟩, ?_⟩
        rotate_left
        · simp only [go_sem, s0, s1, s7, s8, sh]; omega
        simp only [go_sem, s0, s1, s7, s8, sh]
        and_intros; all_goals try (first | rfl | omega | assumption | ((repeat (first | exact Fr.rfl' _ _ | assumption | refine Fr.updk ?_ (by omega) _)); done))
        rw [← hv]; exact (idxI_go hlt hc).symm
    · have hz : ¬ ((i : Int) < (l.length : Int)) := by omega
      rw [List.drop_eq_nil_of_le hge, idxI] at hv
      repeat' (first | refine awp_seq_k fun K hK => ?_ | ((first | refine awp_region_k (by kernel_rfl) fun R hR => ?_ | refine awp_draw mixed (by kernel_rfl) (by kernel_rfl) fun R hR => ?_); simp only [go_sem, s0, s1, s7, s8, hz]) | ((first | (refine hR _ ?_; clear hR R) | refine awp_skip ?_ | refine awp_exit ?_ | refine awp_ret ?_); try simp only [thenA, inBlockA, reduceIte, reduceCtorEq, Nat.reduceEqDiff, if_false, if_true]) | ((first | refine hK _ ?_ | (clear hK K; first | refine hK _ ?_ | (clear hK K; first | refine hK _ ?_ | (clear hK K; first | refine hK _ ?_ | (clear hK K; refine hK _ ?_))))); clear hK K) | refine awp_true rfl rfl ?_ | refine awp_false rfl rfl ?_ | refine awp_block ?_ | refine And.intro (by first | ((repeat' first | omega | exact trivial | rfl | assumption | (intro a e; subst e; rfl) | exact map_sz fun a => (by simp only [go_sem]) | refine And.intro ?_ ?_); done) | fail) ?_ | fail)
      (first | refine ret_pure ?_ ?_ ?_ | refine ret_ro ?_ ?_ ?_); focus exact (by simp only [Try.results123, resOkL, resOk, Try.ntmps123, List.toList_toArray]; first | decide | (simp only [go_sem]; done) | (simp only [go_sem]; and_intros <;> first | omega | rfl | decide))
      rotate_left; focus exact (by repeat (first | exact Fr.rfl' _ _ | assumption | refine Fr.updk ?_ (by omega) _))
      simp only [resA, resV, Try.results123, go_sem]
      all_goals try (first | exact Co.t2 (.dat rfl) (.dat rfl) | exact Co.t3 (.dat rfl) (.dat rfl) (.dat rfl))
      exact co_i hv
set_option maxRecDepth 20000 in
theorem contains_tri (l : List Int) (hl : l.length ≤ 16777216) (v : Int) : Tri Try.prog 98 [.d (.sl (l.map iD)), iA v] (pure' (bA (l.contains v))) := by
  refine tri_enter Try.func98 rfl Try.ntmps98 (by simp only [List.length_cons, List.length_nil]; omega) fun w0 h0 k hrd hwr => ?_
  have e := idxI_nn v l 0
  repeat' (first | refine awp_seq_k fun K hK => ?_ | ((first | refine awp_region_k (by kernel_rfl) fun R hR => ?_ | refine awp_draw mixed (by kernel_rfl) (by kernel_rfl) fun R hR => ?_); simp only [go_sem]) | ((first | (refine hR _ ?_; clear hR R) | refine awp_skip ?_ | refine awp_exit ?_ | refine awp_ret ?_); try simp only [thenA, inBlockA, reduceIte, reduceCtorEq, Nat.reduceEqDiff, if_false, if_true]) | ((first | refine hK _ ?_ | (clear hK K; first | refine hK _ ?_ | (clear hK K; first | refine hK _ ?_ | (clear hK K; first | refine hK _ ?_ | (clear hK K; refine hK _ ?_))))); clear hK K) | refine awp_true rfl rfl ?_ | refine awp_false rfl rfl ?_ | refine awp_block ?_ | ((first | refine CallK.pure (enter123) (index_tri l hl v) ?_ ?_ | refine CallD.pure (enter123) (index_tri l hl v) ?_ ?_); (focus first | ((repeat (first | exact trivial | refine ⟨(by first | exact Or.inl rfl | exact Or.inr rfl), ?_⟩)); done) | (simp only [coL, AV.dat, true_or, or_true, AV.d.injEq, go_sem]; done)); simp only [go_sem]) | refine And.intro (by first | ((repeat' first | omega | exact trivial | rfl | assumption | (intro a e; subst e; rfl) | exact map_sz fun a => (by simp only [go_sem]) | refine And.intro ?_ ?_); done) | fail) ?_ | fail)
  (first | refine ret_pure ?_ ?_ ?_ | refine ret_ro ?_ ?_ ?_); focus exact (by simp only [Try.results98, resOkL, resOk, Try.ntmps98, List.toList_toArray]; first | decide | (simp only [go_sem]; done) | (simp only [go_sem]; and_intros <;> first | omega | rfl | decide))
  rotate_left; focus exact (by repeat (first | exact Fr.rfl' _ _ | assumption | refine Fr.updk ?_ (by omega) _))
  simp only [resA, resV, Try.results98, go_sem]
  all_goals try (first | exact Co.t2 (.dat rfl) (.dat rfl) | exact Co.t3 (.dat rfl) (.dat rfl) (.dat rfl))
  exact co_b e
def idxP {α : Type} (p : α → Bool) : List α → Nat → Int
  | [], _ => -1
  | x :: l, i => if p x = true then i else idxP p l (i + 1)
theorem idxP_go {α : Type} {p : α → Bool} {l : List α} {i : Nat} (hi : i < l.length) (h : p l[i] = false) : idxP p (l.drop i) i = idxP p (l.drop (i + 1)) (i + 1) := by
  rw [List.drop_eq_getElem_cons hi, idxP, h]; rfl
theorem idxP_at {α : Type} {p : α → Bool} {l : List α} {i : Nat} (hi : i < l.length) (h : p l[i] = true) : idxP p (l.drop i) i = i := by
  rw [List.drop_eq_getElem_cons hi, idxP, if_pos h]
theorem idxP_nn {α : Type} (p : α → Bool) : ∀ (l : List α) (i : Nat), decide (idxP p l i ≥ 0) = l.any p
  | [], _ => rfl
  | x :: l, i => by
    rw [idxP, List.any_cons]
    by_cases h : p x = true
    · rw [if_pos h, h]; simp
    · rw [if_neg h, idxP_nn p l (i + 1)]; simp at h; simp [h]
set_option maxRecDepth 20000 in
theorem indexF_ints (l : List (Int)) (hl : l.length ≤ 16777216) (g : FuncId) (hg : enterOk Try.prog g) (caps : List AV) (ro : List (Nm × Ob)) (p : Int → Bool) (hp : ∀ x ∈ l, Tri Try.prog g ([.d (iD x)] ++ caps) (rdE ro (bA (p x)))) :
    Tri Try.prog 102 [.d (.sl (l.map iD)), .fn (.func g) [] caps] (rdE ro (iA (idxP p l 0))) := by
  refine tri_enter_ro Try.func102 rfl Try.ntmps102 (by simp only [List.length_cons, List.length_nil]; omega) fun w0 h0 k hro => ?_
  repeat' (first | refine awp_seq_k fun K hK => ?_ | ((first | refine awp_region_k (by kernel_rfl) fun R hR => ?_ | refine awp_draw mixed (by kernel_rfl) (by kernel_rfl) fun R hR => ?_); simp only [go_sem]) | ((first | (refine hR _ ?_; clear hR R) | refine awp_skip ?_ | refine awp_exit ?_ | refine awp_ret ?_); try simp only [thenA, inBlockA, reduceIte, reduceCtorEq, Nat.reduceEqDiff, if_false, if_true]) | ((first | refine hK _ ?_ | (clear hK K; first | refine hK _ ?_ | (clear hK K; first | refine hK _ ?_ | (clear hK K; first | refine hK _ ?_ | (clear hK K; refine hK _ ?_))))); clear hK K) | refine awp_true rfl rfl ?_ | refine awp_false rfl rfl ?_ | refine awp_block ?_ | refine And.intro (by first | ((repeat' first | omega | exact trivial | rfl | assumption | (intro a e; subst e; rfl) | exact map_sz fun a => (by simp only [go_sem]) | refine And.intro ?_ ?_); done) | fail) ?_ | fail)
  refine awp_loop (fun σ => ∃ i : Nat, σ.t 0 = .d (.sl (l.map iD)) ∧ σ.t 1 = .fn (.func g) [] caps ∧ σ.t 7 = iA l.length ∧ σ.t 8 = iA i ∧ σ.h = h0 ∧ i ≤ l.length ∧ idxP p (l.drop i) i = idxP p l 0) (fun σ => l.length - (intOf' (σ.t 8)).toNat) ?_ ?_
  · refine ⟨0, ?_⟩
    simp only [go_sem]
    and_intros; all_goals try (first | rfl | omega | assumption | ((repeat (first | exact Fr.rfl' _ _ | assumption | refine Fr.updk ?_ (by omega) _)); done))
  · rintro σ ⟨i, s0, s1, s7, s8, sh, hi, hv⟩
    have hfr : Fr k h0 σ.h := by rw [sh]; exact Fr.rfl' _ _
    rcases Nat.lt_or_ge i l.length with hlt | hge
    · have hz : (i : Int) < (l.length : Int) := by omega
      have e1 : (l.map iD).getD i default = iD l[i] := nth_map iD hlt _
      have hc1 := hp l[i] (List.getElem_mem hlt)
      cases hc : p l[i] with
      | true =>
        rw [idxP_at hlt hc] at hv
        rw [hc] at hc1
        repeat' (first | refine awp_seq_k fun K hK => ?_ | ((first | refine awp_region_k (by kernel_rfl) fun R hR => ?_ | refine awp_draw mixed (by kernel_rfl) (by kernel_rfl) fun R hR => ?_); simp only [go_sem, s0, s1, s7, s8, hz, e1, hc, Int.toNat_natCast]) | ((first | (refine hR _ ?_; clear hR R) | refine awp_skip ?_ | refine awp_exit ?_ | refine awp_ret ?_); try simp only [thenA, inBlockA, reduceIte, reduceCtorEq, Nat.reduceEqDiff, if_false, if_true]) | ((first | refine hK _ ?_ | (clear hK K; first | refine hK _ ?_ | (clear hK K; first | refine hK _ ?_ | (clear hK K; first | refine hK _ ?_ | (clear hK K; refine hK _ ?_))))); clear hK K) | refine awp_true rfl rfl ?_ | refine awp_false rfl rfl ?_ | refine awp_block ?_ | ((first | refine CallK.vlook rfl (hg) (hc1) ?_ (by assumption) (by repeat (first | exact Fr.rfl' _ _ | assumption | refine Fr.updk ?_ (by omega) _)) ?_ | refine CallD.vlook rfl (hg) (hc1) ?_ (by assumption) (by repeat (first | exact Fr.rfl' _ _ | assumption | refine Fr.updk ?_ (by omega) _)) (by first | assumption | exact List.cons_ne_nil _ _) ?_); (focus first | ((repeat (first | exact trivial | refine ⟨(by first | exact Or.inl rfl | exact Or.inr rfl), ?_⟩)); done) | (simp only [coL, AV.dat, true_or, or_true, AV.d.injEq, go_sem]; done)); simp only [go_sem, s0, s1, s7, s8, hz, e1, hc, Int.toNat_natCast]) | refine And.intro (by first | ((repeat' first | omega | exact trivial | rfl | assumption | (intro a e; subst e; rfl) | exact map_sz fun a => (by simp only [go_sem]) | refine And.intro ?_ ?_); done) | fail) ?_ | fail)
        (first | refine ret_pure ?_ ?_ ?_ | refine ret_ro ?_ ?_ ?_); focus exact (by simp only [Try.results102, resOkL, resOk, Try.ntmps102, List.toList_toArray]; first | decide | (simp only [go_sem]; done) | (simp only [go_sem]; and_intros <;> first | omega | rfl | decide))
        rotate_left; focus exact (by repeat (first | exact Fr.rfl' _ _ | assumption | refine Fr.updk ?_ (by omega) _))
        simp only [resA, resV, Try.results102, go_sem]
        all_goals try (first | exact Co.t2 (.dat rfl) (.dat rfl) | exact Co.t3 (.dat rfl) (.dat rfl) (.dat rfl))
        exact co_i hv
      | false =>
        rw [hc] at hc1
        repeat' (first | refine awp_seq_k fun K hK => ?_ | ((first | refine awp_region_k (by kernel_rfl) fun R hR => ?_ | refine awp_draw mixed (by kernel_rfl) (by kernel_rfl) fun R hR => ?_); simp only [go_sem, s0, s1, s7, s8, hz, e1, hc, Int.toNat_natCast]) | ((first | (refine hR _ ?_; clear hR R) | refine awp_skip ?_ | refine awp_exit ?_ | refine awp_ret ?_); try simp only [thenA, inBlockA, reduceIte, reduceCtorEq, Nat.reduceEqDiff, if_false, if_true]) | ((first | refine hK _ ?_ | (clear hK K; first | refine hK _ ?_ | (clear hK K; first | refine hK _ ?_ | (clear hK K; first | refine hK _ ?_ | (clear hK K; refine hK _ ?_))))); clear hK K) | refine awp_true rfl rfl ?_ | refine awp_false rfl rfl ?_ | refine awp_block ?_ | ((first | refine CallK.vlook rfl (hg) (hc1) ?_ (by assumption) (by repeat (first | exact Fr.rfl' _ _ | assumption | refine Fr.updk ?_ (by omega) _)) ?_ | refine CallD.vlook rfl (hg) (hc1) ?_ (by assumption) (by repeat (first | exact Fr.rfl' _ _ | assumption | refine Fr.updk ?_ (by omega) _)) (by first | assumption | exact List.cons_ne_nil _ _) ?_); (focus first | ((repeat (first | exact trivial | refine ⟨(by first | exact Or.inl rfl | exact Or.inr rfl), ?_⟩)); done) | (simp only [coL, AV.dat, true_or, or_true, AV.d.injEq, go_sem]; done)); simp only [go_sem, s0, s1, s7, s8, hz, e1, hc, Int.toNat_natCast]) | refine And.intro (by first | ((repeat' first | omega | exact trivial | rfl | assumption | (intro a e; subst e; rfl) | exact map_sz fun a => (by simp only [go_sem]) | refine And.intro ?_ ?_); done) | fail) ?_ | fail)
        refine ⟨⟨i + 1, ?_⟩, ?_⟩
        rotate_left
        · simp only [go_sem, s0, s1, s7, s8, sh]; omega
        simp only [go_sem, s0, s1, s7, s8, sh]
        and_intros; all_goals try (first | rfl | omega | assumption | ((repeat (first | exact Fr.rfl' _ _ | assumption | refine Fr.updk ?_ (by omega) _)); done))
        rw [← hv]; exact (idxP_go hlt hc).symm
    · have hz : ¬ ((i : Int) < (l.length : Int)) := by omega
      rw [List.drop_eq_nil_of_le hge, idxP] at hv
      repeat' (first | refine awp_seq_k fun K hK => ?_ | ((first | refine awp_region_k (by kernel_rfl) fun R hR => ?_ | refine awp_draw mixed (by kernel_rfl) (by kernel_rfl) fun R hR => ?_); simp only [go_sem, s0, s1, s7, s8, hz]) | ((first | (refine hR _ ?_; clear hR R) | refine awp_skip ?_ | refine awp_exit ?_ | refine awp_ret ?_); try simp only [thenA, inBlockA, reduceIte, reduceCtorEq, Nat.reduceEqDiff, if_false, if_true]) | ((first | refine hK _ ?_ | (clear hK K; first | refine hK _ ?_ | (clear hK K; first | refine hK _ ?_ | (clear hK K; first | refine hK _ ?_ | (clear hK K; refine hK _ ?_))))); clear hK K) | refine awp_true rfl rfl ?_ | refine awp_false rfl rfl ?_ | refine awp_block ?_ | refine And.intro (by first | ((repeat' first | omega | exact trivial | rfl | assumption | (intro a e; subst e; rfl) | exact map_sz fun a => (by simp only [go_sem]) | refine And.intro ?_ ?_); done) | fail) ?_ | fail)
      (first | refine ret_pure ?_ ?_ ?_ | refine ret_ro ?_ ?_ ?_); focus exact (by simp only [Try.results102, resOkL, resOk, Try.ntmps102, List.toList_toArray]; first | decide | (simp only [go_sem]; done) | (simp only [go_sem]; and_intros <;> first | omega | rfl | decide))
      rotate_left; focus exact (by repeat (first | exact Fr.rfl' _ _ | assumption | refine Fr.updk ?_ (by omega) _))
      simp only [resA, resV, Try.results102, go_sem]
      all_goals try (first | exact Co.t2 (.dat rfl) (.dat rfl) | exact Co.t3 (.dat rfl) (.dat rfl) (.dat rfl))
      exact co_i hv
set_option maxRecDepth 20000 in
theorem containsF_ints (l : List (Int)) (hl : l.length ≤ 16777216) (g : FuncId) (hg : enterOk Try.prog g) (caps : List AV) (ro : List (Nm × Ob)) (p : Int → Bool) (hp : ∀ x ∈ l, Tri Try.prog g ([.d (iD x)] ++ caps) (rdE ro (bA (p x)))) :
    Tri Try.prog 67 [.d (.sl (l.map iD)), .fn (.func g) [] caps] (rdE ro (bA (l.any p))) := by
  refine tri_enter_ro Try.func67 rfl Try.ntmps67 (by simp only [List.length_cons, List.length_nil]; omega) fun w0 h0 k hro => ?_
  have e := idxP_nn p l 0
  repeat' (first | refine awp_seq_k fun K hK => ?_ | ((first | refine awp_region_k (by kernel_rfl) fun R hR => ?_ | refine awp_draw mixed (by kernel_rfl) (by kernel_rfl) fun R hR => ?_); simp only [go_sem]) | ((first | (refine hR _ ?_; clear hR R) | refine awp_skip ?_ | refine awp_exit ?_ | refine awp_ret ?_); try simp only [thenA, inBlockA, reduceIte, reduceCtorEq, Nat.reduceEqDiff, if_false, if_true]) | ((first | refine hK _ ?_ | (clear hK K; first | refine hK _ ?_ | (clear hK K; first | refine hK _ ?_ | (clear hK K; first | refine hK _ ?_ | (clear hK K; refine hK _ ?_))))); clear hK K) | refine awp_true rfl rfl ?_ | refine awp_false rfl rfl ?_ | refine awp_block ?_ | ((first | refine CallK.look (enter102) (indexF_ints l hl g hg caps ro p hp) ?_ (by assumption) (by repeat (first | exact Fr.rfl' _ _ | assumption | refine Fr.updk ?_ (by omega) _)) ?_ | refine CallD.look (enter102) (indexF_ints l hl g hg caps ro p hp) ?_ (by assumption) (by repeat (first | exact Fr.rfl' _ _ | assumption | refine Fr.updk ?_ (by omega) _)) (by first | assumption | exact List.cons_ne_nil _ _) ?_); (focus first | ((repeat (first | exact trivial | refine ⟨(by first | exact Or.inl rfl | exact Or.inr rfl), ?_⟩)); done) | (simp only [coL, AV.dat, true_or, or_true, AV.d.injEq, go_sem]; done)); simp only [go_sem]) | refine And.intro (by first | ((repeat' first | omega | exact trivial | rfl | assumption | (intro a e; subst e; rfl) | exact map_sz fun a => (by simp only [go_sem]) | refine And.intro ?_ ?_); done) | fail) ?_ | fail)
  (first | refine ret_pure ?_ ?_ ?_ | refine ret_ro ?_ ?_ ?_); focus exact (by simp only [Try.results67, resOkL, resOk, Try.ntmps67, List.toList_toArray]; first | decide | (simp only [go_sem]; done) | (simp only [go_sem]; and_intros <;> first | omega | rfl | decide))
  rotate_left; focus exact (by repeat (first | exact Fr.rfl' _ _ | assumption | refine Fr.updk ?_ (by omega) _))
  simp only [resA, resV, Try.results67, go_sem]
  all_goals try (first | exact Co.t2 (.dat rfl) (.dat rfl) | exact Co.t3 (.dat rfl) (.dat rfl) (.dat rfl))
  exact co_b e
set_option maxRecDepth 20000 in
theorem indexF_lits (l : List (Lt)) (hl : l.length ≤ 16777216) (g : FuncId) (hg : enterOk Try.prog g) (caps : List AV) (ro : List (Nm × Ob)) (p : Lt → Bool) (hp : ∀ x ∈ l, Tri Try.prog g ([.d (ltDV x)] ++ caps) (rdE ro (bA (p x)))) :
    Tri Try.prog 99 [.d (.sl (l.map ltDV)), .fn (.func g) [] caps] (rdE ro (iA (idxP p l 0))) := by
  refine tri_enter_ro Try.func99 rfl Try.ntmps99 (by simp only [List.length_cons, List.length_nil]; omega) fun w0 h0 k hro => ?_
  repeat' (first | refine awp_seq_k fun K hK => ?_ | ((first | refine awp_region_k (by kernel_rfl) fun R hR => ?_ | refine awp_draw mixed (by kernel_rfl) (by kernel_rfl) fun R hR => ?_); simp only [go_sem]) | ((first | (refine hR _ ?_; clear hR R) | refine awp_skip ?_ | refine awp_exit ?_ | refine awp_ret ?_); try simp only [thenA, inBlockA, reduceIte, reduceCtorEq, Nat.reduceEqDiff, if_false, if_true]) | ((first | refine hK _ ?_ | (clear hK K; first | refine hK _ ?_ | (clear hK K; first | refine hK _ ?_ | (clear hK K; first | refine hK _ ?_ | (clear hK K; refine hK _ ?_))))); clear hK K) | refine awp_true rfl rfl ?_ | refine awp_false rfl rfl ?_ | refine awp_block ?_ | refine And.intro (by first | ((repeat' first | omega | exact trivial | rfl | assumption | (intro a e; subst e; rfl) | exact map_sz fun a => (by simp only [go_sem]) | refine And.intro ?_ ?_); done) | fail) ?_ | fail)
  refine awp_loop (fun σ => ∃ i : Nat, σ.t 0 = .d (.sl (l.map ltDV)) ∧ σ.t 1 = .fn (.func g) [] caps ∧ σ.t 7 = iA l.length ∧ σ.t 8 = iA i ∧ σ.h = h0 ∧ i ≤ l.length ∧ idxP p (l.drop i) i = idxP p l 0) (fun σ => l.length - (intOf' (σ.t 8)).toNat) ?_ ?_
  · refine ⟨0, ?_⟩
    simp only [go_sem]
    and_intros; all_goals try (first | rfl | omega | assumption | ((repeat (first | exact Fr.rfl' _ _ | assumption | refine Fr.updk ?_ (by omega) _)); done))
  · rintro σ ⟨i, s0, s1, s7, s8, sh, hi, hv⟩
    have hfr : Fr k h0 σ.h := by rw [sh]; exact Fr.rfl' _ _
    rcases Nat.lt_or_ge i l.length with hlt | hge
    · have hz : (i : Int) < (l.length : Int) := by omega
      have e1 : (l.map ltDV).getD i default = ltDV l[i] := nth_map ltDV hlt _
      have hc1 := hp l[i] (List.getElem_mem hlt)
      cases hc : p l[i] with
      | true =>
        rw [idxP_at hlt hc] at hv
        rw [hc] at hc1
        repeat' (first | refine awp_seq_k fun K hK => ?_ | ((first | refine awp_region_k (by kernel_rfl) fun R hR => ?_ | refine awp_draw mixed (by kernel_rfl) (by kernel_rfl) fun R hR => ?_); simp only [go_sem, s0, s1, s7, s8, hz, e1, hc, Int.toNat_natCast]) | ((first | (refine hR _ ?_; clear hR R) | refine awp_skip ?_ | refine awp_exit ?_ | refine awp_ret ?_); try simp only [thenA, inBlockA, reduceIte, reduceCtorEq, Nat.reduceEqDiff, if_false, if_true]) | ((first | refine hK _ ?_ | (clear hK K; first | refine hK _ ?_ | (clear hK K; first | refine hK _ ?_ | (clear hK K; first | refine hK _ ?_ | (clear hK K; refine hK _ ?_))))); clear hK K) | refine awp_true rfl rfl ?_ | refine awp_false rfl rfl ?_ | refine awp_block ?_ | ((first | refine CallK.vlook rfl (hg) (hc1) ?_ (by assumption) (by repeat (first | exact Fr.rfl' _ _ | assumption | refine Fr.updk ?_ (by omega) _)) ?_ | refine CallD.vlook rfl (hg) (hc1) ?_ (by assumption) (by repeat (first | exact Fr.rfl' _ _ | assumption | refine Fr.updk ?_ (by omega) _)) (by first | assumption | exact List.cons_ne_nil _ _) ?_); (focus first | ((repeat (first | exact trivial | refine ⟨(by first | exact Or.inl rfl | exact Or.inr rfl), ?_⟩)); done) | (simp only [coL, AV.dat, true_or, or_true, AV.d.injEq, go_sem]; done)); simp only [go_sem, s0, s1, s7, s8, hz, e1, hc, Int.toNat_natCast]) | refine And.intro (by first | ((repeat' first | omega | exact trivial | rfl | assumption | (intro a e; subst e; rfl) | exact map_sz fun a => (by simp only [go_sem]) | refine And.intro ?_ ?_); done) | fail) ?_ | fail)
        (first | refine ret_pure ?_ ?_ ?_ | refine ret_ro ?_ ?_ ?_); focus exact (by simp only [Try.results99, resOkL, resOk, Try.ntmps99, List.toList_toArray]; first | decide | (simp only [go_sem]; done) | (simp only [go_sem]; and_intros <;> first | omega | rfl | decide))
        rotate_left; focus exact (by repeat (first | exact Fr.rfl' _ _ | assumption | refine Fr.updk ?_ (by omega) _))
        simp only [resA, resV, Try.results99, go_sem]
        all_goals try (first | exact Co.t2 (.dat rfl) (.dat rfl) | exact Co.t3 (.dat rfl) (.dat rfl) (.dat rfl))
        exact co_i hv
      | false =>
        rw [hc] at hc1
        repeat' (first | refine awp_seq_k fun K hK => ?_ | ((first | refine awp_region_k (by kernel_rfl) fun R hR => ?_ | refine awp_draw mixed (by kernel_rfl) (by kernel_rfl) fun R hR => ?_); simp only [go_sem, s0, s1, s7, s8, hz, e1, hc, Int.toNat_natCast]) | ((first | (refine hR _ ?_; clear hR R) | refine awp_skip ?_ | refine awp_exit ?_ | refine awp_ret ?_); try simp only [thenA, inBlockA, reduceIte, reduceCtorEq, Nat.reduceEqDiff, if_false, if_true]) | ((first | refine hK _ ?_ | (clear hK K; first | refine hK _ ?_ | (clear hK K; first | refine hK _ ?_ | (clear hK K; first | refine hK _ ?_ | (clear hK K; refine hK _ ?_))))); clear hK K) | refine awp_true rfl rfl ?_ | refine awp_false rfl rfl ?_ | refine awp_block ?_ | ((first | refine CallK.vlook rfl (hg) (hc1) ?_ (by assumption) (by repeat (first | exact Fr.rfl' _ _ | assumption | refine Fr.updk ?_ (by omega) _)) ?_ | refine CallD.vlook rfl (hg) (hc1) ?_ (by assumption) (by repeat (first | exact Fr.rfl' _ _ | assumption | refine Fr.updk ?_ (by omega) _)) (by first | assumption | exact List.cons_ne_nil _ _) ?_); (focus first | ((repeat (first | exact trivial | refine ⟨(by first | exact Or.inl rfl | exact Or.inr rfl), ?_⟩)); done) | (simp only [coL, AV.dat, true_or, or_true, AV.d.injEq, go_sem]; done)); simp only [go_sem, s0, s1, s7, s8, hz, e1, hc, Int.toNat_natCast]) | refine And.intro (by first | ((repeat' first | omega | exact trivial | rfl | assumption | (intro a e; subst e; rfl) | exact map_sz fun a => (by simp only [go_sem]) | refine And.intro ?_ ?_); done) | fail) ?_ | fail)
        refine ⟨⟨i + 1, ?_⟩, ?_⟩
        rotate_left
        · simp only [go_sem, s0, s1, s7, s8, sh]; omega
        simp only [go_sem, s0, s1, s7, s8, sh]
        and_intros; all_goals try (first | rfl | omega | assumption | ((repeat (first | exact Fr.rfl' _ _ | assumption | refine Fr.updk ?_ (by omega) _)); done))
        rw [← hv]; exact (idxP_go hlt hc).symm
    · have hz : ¬ ((i : Int) < (l.length : Int)) := by omega
      rw [List.drop_eq_nil_of_le hge, idxP] at hv
      repeat' (first | refine awp_seq_k fun K hK => ?_ | ((first | refine awp_region_k (by kernel_rfl) fun R hR => ?_ | refine awp_draw mixed (by kernel_rfl) (by kernel_rfl) fun R hR => ?_); simp only [go_sem, s0, s1, s7, s8, hz]) | ((first | (refine hR _ ?_; clear hR R) | refine awp_skip ?_ | refine awp_exit ?_ | refine awp_ret ?_); try simp only [thenA, inBlockA, reduceIte, reduceCtorEq, Nat.reduceEqDiff, if_false, if_true]) | ((first | refine hK _ ?_ | (clear hK K; first | refine hK _ ?_ | (clear hK K; first | refine hK _ ?_ | (clear hK K; first | refine hK _ ?_ | (clear hK K; refine hK _ ?_))))); clear hK K) | refine awp_true rfl rfl ?_ | refine awp_false rfl rfl ?_ | refine awp_block ?_ | refine And.intro (by first | ((repeat' first | omega | exact trivial | rfl | assumption | (intro a e; subst e; rfl) | exact map_sz fun a => (by simp only [go_sem]) | refine And.intro ?_ ?_); done) | fail) ?_ | fail)
      (first | refine ret_pure ?_ ?_ ?_ | refine ret_ro ?_ ?_ ?_); focus exact (by simp only [Try.results99, resOkL, resOk, Try.ntmps99, List.toList_toArray]; first | decide | (simp only [go_sem]; done) | (simp only [go_sem]; and_intros <;> first | omega | rfl | decide))
      rotate_left; focus exact (by repeat (first | exact Fr.rfl' _ _ | assumption | refine Fr.updk ?_ (by omega) _))
      simp only [resA, resV, Try.results99, go_sem]
      all_goals try (first | exact Co.t2 (.dat rfl) (.dat rfl) | exact Co.t3 (.dat rfl) (.dat rfl) (.dat rfl))
      exact co_i hv
set_option maxRecDepth 20000 in
theorem containsF_lits (l : List (Lt)) (hl : l.length ≤ 16777216) (g : FuncId) (hg : enterOk Try.prog g) (caps : List AV) (ro : List (Nm × Ob)) (p : Lt → Bool) (hp : ∀ x ∈ l, Tri Try.prog g ([.d (ltDV x)] ++ caps) (rdE ro (bA (p x)))) :
    Tri Try.prog 61 [.d (.sl (l.map ltDV)), .fn (.func g) [] caps] (rdE ro (bA (l.any p))) := by
  refine tri_enter_ro Try.func61 rfl Try.ntmps61 (by simp only [List.length_cons, List.length_nil]; omega) fun w0 h0 k hro => ?_
  have e := idxP_nn p l 0
  repeat' (first | refine awp_seq_k fun K hK => ?_ | ((first | refine awp_region_k (by kernel_rfl) fun R hR => ?_ | refine awp_draw mixed (by kernel_rfl) (by kernel_rfl) fun R hR => ?_); simp only [go_sem]) | ((first | (refine hR _ ?_; clear hR R) | refine awp_skip ?_ | refine awp_exit ?_ | refine awp_ret ?_); try simp only [thenA, inBlockA, reduceIte, reduceCtorEq, Nat.reduceEqDiff, if_false, if_true]) | ((first | refine hK _ ?_ | (clear hK K; first | refine hK _ ?_ | (clear hK K; first | refine hK _ ?_ | (clear hK K; first | refine hK _ ?_ | (clear hK K; refine hK _ ?_))))); clear hK K) | refine awp_true rfl rfl ?_ | refine awp_false rfl rfl ?_ | refine awp_block ?_ | ((first | refine CallK.look (enter99) (indexF_lits l hl g hg caps ro p hp) ?_ (by assumption) (by repeat (first | exact Fr.rfl' _ _ | assumption | refine Fr.updk ?_ (by omega) _)) ?_ | refine CallD.look (enter99) (indexF_lits l hl g hg caps ro p hp) ?_ (by assumption) (by repeat (first | exact Fr.rfl' _ _ | assumption | refine Fr.updk ?_ (by omega) _)) (by first | assumption | exact List.cons_ne_nil _ _) ?_); (focus first | ((repeat (first | exact trivial | refine ⟨(by first | exact Or.inl rfl | exact Or.inr rfl), ?_⟩)); done) | (simp only [coL, AV.dat, true_or, or_true, AV.d.injEq, go_sem]; done)); simp only [go_sem]) | refine And.intro (by first | ((repeat' first | omega | exact trivial | rfl | assumption | (intro a e; subst e; rfl) | exact map_sz fun a => (by simp only [go_sem]) | refine And.intro ?_ ?_); done) | fail) ?_ | fail)
  (first | refine ret_pure ?_ ?_ ?_ | refine ret_ro ?_ ?_ ?_); focus exact (by simp only [Try.results61, resOkL, resOk, Try.ntmps61, List.toList_toArray]; first | decide | (simp only [go_sem]; done) | (simp only [go_sem]; and_intros <;> first | omega | rfl | decide))
  rotate_left; focus exact (by repeat (first | exact Fr.rfl' _ _ | assumption | refine Fr.updk ?_ (by omega) _))
  simp only [resA, resV, Try.results61, go_sem]
  all_goals try (first | exact Co.t2 (.dat rfl) (.dat rfl) | exact Co.t3 (.dat rfl) (.dat rfl) (.dat rfl))
  exact co_b e
set_option maxRecDepth 20000 in
theorem indexF_rows (l : List (List Int)) (hl : l.length ≤ 16777216) (g : FuncId) (hg : enterOk Try.prog g) (caps : List AV) (ro : List (Nm × Ob)) (p : List Int → Bool) (hp : ∀ x ∈ l, Tri Try.prog g ([.d (gI x)] ++ caps) (rdE ro (bA (p x)))) :
    Tri Try.prog 110 [.d (.sl (l.map gI)), .fn (.func g) [] caps] (rdE ro (iA (idxP p l 0))) := by
  refine tri_enter_ro Try.func110 rfl Try.ntmps110 (by simp only [List.length_cons, List.length_nil]; omega) fun w0 h0 k hro => ?_
  repeat' (first | refine awp_seq_k fun K hK => ?_ | ((first | refine awp_region_k (by kernel_rfl) fun R hR => ?_ | refine awp_draw mixed (by kernel_rfl) (by kernel_rfl) fun R hR => ?_); simp only [go_sem]) | ((first | (refine hR _ ?_; clear hR R) | refine awp_skip ?_ | refine awp_exit ?_ | refine awp_ret ?_); try simp only [thenA, inBlockA, reduceIte, reduceCtorEq, Nat.reduceEqDiff, if_false, if_true]) | ((first | refine hK _ ?_ | (clear hK K; first | refine hK _ ?_ | (clear hK K; first | refine hK _ ?_ | (clear hK K; first | refine hK _ ?_ | (clear hK K; refine hK _ ?_))))); clear hK K) | refine awp_true rfl rfl ?_ | refine awp_false rfl rfl ?_ | refine awp_block ?_ | refine And.intro (by first | ((repeat' first | omega | exact trivial | rfl | assumption | (intro a e; subst e; rfl) | exact map_sz fun a => (by simp only [go_sem]) | refine And.intro ?_ ?_); done) | fail) ?_ | fail)
  refine awp_loop (fun σ => ∃ i : Nat, σ.t 0 = .d (.sl (l.map gI)) ∧ σ.t 1 = .fn (.func g) [] caps ∧ σ.t 7 = iA l.length ∧ σ.t 8 = iA i ∧ σ.h = h0 ∧ i ≤ l.length ∧ idxP p (l.drop i) i = idxP p l 0) (fun σ => l.length - (intOf' (σ.t 8)).toNat) ?_ ?_
  · refine ⟨0, ?_⟩
    simp only [go_sem]
    and_intros; all_goals try (first | rfl | omega | assumption | ((repeat (first | exact Fr.rfl' _ _ | assumption | refine Fr.updk ?_ (by omega) _)); done))
  · rintro σ ⟨i, s0, s1, s7, s8, sh, hi, hv⟩
    have hfr : Fr k h0 σ.h := by rw [sh]; exact Fr.rfl' _ _
    rcases Nat.lt_or_ge i l.length with hlt | hge
    · have hz : (i : Int) < (l.length : Int) := by omega
      have e1 : (l.map gI).getD i default = gI l[i] := nth_map gI hlt _
      have hc1 := hp l[i] (List.getElem_mem hlt)
      cases hc : p l[i] with
      | true =>
        rw [idxP_at hlt hc] at hv
        rw [hc] at hc1
        repeat' (first | refine awp_seq_k fun K hK => ?_ | ((first | refine awp_region_k (by kernel_rfl) fun R hR => ?_ | refine awp_draw mixed (by kernel_rfl) (by kernel_rfl) fun R hR => ?_); simp only [go_sem, s0, s1, s7, s8, hz, e1, hc, Int.toNat_natCast]) | ((first | (refine hR _ ?_; clear hR R) | refine awp_skip ?_ | refine awp_exit ?_ | refine awp_ret ?_); try simp only [thenA, inBlockA, reduceIte, reduceCtorEq, Nat.reduceEqDiff, if_false, if_true]) | ((first | refine hK _ ?_ | (clear hK K; first | refine hK _ ?_ | (clear hK K; first | refine hK _ ?_ | (clear hK K; first | refine hK _ ?_ | (clear hK K; refine hK _ ?_))))); clear hK K) | refine awp_true rfl rfl ?_ | refine awp_false rfl rfl ?_ | refine awp_block ?_ | ((first | refine CallK.vlook rfl (hg) (hc1) ?_ (by assumption) (by repeat (first | exact Fr.rfl' _ _ | assumption | refine Fr.updk ?_ (by omega) _)) ?_ | refine CallD.vlook rfl (hg) (hc1) ?_ (by assumption) (by repeat (first | exact Fr.rfl' _ _ | assumption | refine Fr.updk ?_ (by omega) _)) (by first | assumption | exact List.cons_ne_nil _ _) ?_); (focus first | ((repeat (first | exact trivial | refine ⟨(by first | exact Or.inl rfl | exact Or.inr rfl), ?_⟩)); done) | (simp only [coL, AV.dat, true_or, or_true, AV.d.injEq, go_sem]; done)); simp only [go_sem, s0, s1, s7, s8, hz, e1, hc, Int.toNat_natCast]) | refine And.intro (by first | ((repeat' first | omega | exact trivial | rfl | assumption | (intro a e; subst e; rfl) | exact map_sz fun a => (by simp only [go_sem]) | refine And.intro ?_ ?_); done) | fail) ?_ | fail)
        (first | refine ret_pure ?_ ?_ ?_ | refine ret_ro ?_ ?_ ?_); focus exact (by simp only [Try.results110, resOkL, resOk, Try.ntmps110, List.toList_toArray]; first | decide | (simp only [go_sem]; done) | (simp only [go_sem]; and_intros <;> first | omega | rfl | decide))
        rotate_left; focus exact (by repeat (first | exact Fr.rfl' _ _ | assumption | refine Fr.updk ?_ (by omega) _))
        simp only [resA, resV, Try.results110, go_sem]
        all_goals try (first | exact Co.t2 (.dat rfl) (.dat rfl) | exact Co.t3 (.dat rfl) (.dat rfl) (.dat rfl))
        exact co_i hv
      | false =>
        rw [hc] at hc1
        repeat' (first | refine awp_seq_k fun K hK => ?_ | ((first | refine awp_region_k (by kernel_rfl) fun R hR => ?_ | refine awp_draw mixed (by kernel_rfl) (by kernel_rfl) fun R hR => ?_); simp only [go_sem, s0, s1, s7, s8, hz, e1, hc, Int.toNat_natCast]) | ((first | (refine hR _ ?_; clear hR R) | refine awp_skip ?_ | refine awp_exit ?_ | refine awp_ret ?_); try simp only [thenA, inBlockA, reduceIte, reduceCtorEq, Nat.reduceEqDiff, if_false, if_true]) | ((first | refine hK _ ?_ | (clear hK K; first | refine hK _ ?_ | (clear hK K; first | refine hK _ ?_ | (clear hK K; first | refine hK _ ?_ | (clear hK K; refine hK _ ?_))))); clear hK K) | refine awp_true rfl rfl ?_ | refine awp_false rfl rfl ?_ | refine awp_block ?_ | ((first | refine CallK.vlook rfl (hg) (hc1) ?_ (by assumption) (by repeat (first | exact Fr.rfl' _ _ | assumption | refine Fr.updk ?_ (by omega) _)) ?_ | refine CallD.vlook rfl (hg) (hc1) ?_ (by assumption) (by repeat (first | exact Fr.rfl' _ _ | assumption | refine Fr.updk ?_ (by omega) _)) (by first | assumption | exact List.cons_ne_nil _ _) ?_); (focus first | ((repeat (first | exact trivial | refine ⟨(by first | exact Or.inl rfl | exact Or.inr rfl), ?_⟩)); done) | (simp only [coL, AV.dat, true_or, or_true, AV.d.injEq, go_sem]; done)); simp only [go_sem, s0, s1, s7, s8, hz, e1, hc, Int.toNat_natCast]) | refine And.intro (by first | ((repeat' first | omega | exact trivial | rfl | assumption | (intro a e; subst e; rfl) | exact map_sz fun a => (by simp only [go_sem]) | refine And.intro ?_ ?_); done) | fail) ?_ | fail)
        refine ⟨⟨i + 1, ?_⟩, ?_⟩
        rotate_left
        · simp only [go_sem, s0, s1, s7, s8, sh]; omega
        simp only [go_sem, s0, s1, s7, s8, sh]
        and_intros; all_goals try (first | rfl | omega | assumption | ((repeat (first | exact Fr.rfl' _ _ | assumption | refine Fr.updk ?_ (by omega) _)); done))
        rw [← hv]; exact (idxP_go hlt hc).symm
    · have hz : ¬ ((i : Int) < (l.length : Int)) := by omega
      rw [List.drop_eq_nil_of_le hge, idxP] at hv
      repeat' (first | refine awp_seq_k fun K hK => ?_ | ((first | refine awp_region_k (by kernel_rfl) fun R hR => ?_ | refine awp_draw mixed (by kernel_rfl) (by kernel_rfl) fun R hR => ?_); simp only [go_sem, s0, s1, s7, s8, hz]) | ((first | (refine hR _ ?_; clear hR R) | refine awp_skip ?_ | refine awp_exit ?_ | refine awp_ret ?_); try simp only [thenA, inBlockA, reduceIte, reduceCtorEq, Nat.reduceEqDiff, if_false, if_true]) | ((first | refine hK _ ?_ | (clear hK K; first | refine hK _ ?_ | (clear hK K; first | refine hK _ ?_ | (clear hK K; first | refine hK _ ?_ | (clear hK K; refine hK _ ?_))))); clear hK K) | refine awp_true rfl rfl ?_ | refine awp_false rfl rfl ?_ | refine awp_block ?_ | refine And.intro (by first | ((repeat' first | omega | exact trivial | rfl | assumption | (intro a e; subst e; rfl) | exact map_sz fun a => (by simp only [go_sem]) | refine And.intro ?_ ?_); done) | fail) ?_ | fail)
      (first | refine ret_pure ?_ ?_ ?_ | refine ret_ro ?_ ?_ ?_); focus exact (by simp only [Try.results110, resOkL, resOk, Try.ntmps110, List.toList_toArray]; first | decide | (simp only [go_sem]; done) | (simp only [go_sem]; and_intros <;> first | omega | rfl | decide))
      rotate_left; focus exact (by repeat (first | exact Fr.rfl' _ _ | assumption | refine Fr.updk ?_ (by omega) _))
      simp only [resA, resV, Try.results110, go_sem]
      all_goals try (first | exact Co.t2 (.dat rfl) (.dat rfl) | exact Co.t3 (.dat rfl) (.dat rfl) (.dat rfl))
      exact co_i hv
set_option maxRecDepth 20000 in
theorem containsF_rows (l : List (List Int)) (hl : l.length ≤ 16777216) (g : FuncId) (hg : enterOk Try.prog g) (caps : List AV) (ro : List (Nm × Ob)) (p : List Int → Bool) (hp : ∀ x ∈ l, Tri Try.prog g ([.d (gI x)] ++ caps) (rdE ro (bA (p x)))) :
    Tri Try.prog 85 [.d (.sl (l.map gI)), .fn (.func g) [] caps] (rdE ro (bA (l.any p))) := by
  refine tri_enter_ro Try.func85 rfl Try.ntmps85 (by simp only [List.length_cons, List.length_nil]; omega) fun w0 h0 k hro => ?_
  have e := idxP_nn p l 0
  repeat' (first | refine awp_seq_k fun K hK => ?_ | ((first | refine awp_region_k (by kernel_rfl) fun R hR => ?_ | refine awp_draw mixed (by kernel_rfl) (by kernel_rfl) fun R hR => ?_); simp only [go_sem]) | ((first | (refine hR _ ?_; clear hR R) | refine awp_skip ?_ | refine awp_exit ?_ | refine awp_ret ?_); try simp only [thenA, inBlockA, reduceIte, reduceCtorEq, Nat.reduceEqDiff, if_false, if_true]) | ((first | refine hK _ ?_ | (clear hK K; first | refine hK _ ?_ | (clear hK K; first | refine hK _ ?_ | (clear hK K; first | refine hK _ ?_ | (clear hK K; refine hK _ ?_))))); clear hK K) | refine awp_true rfl rfl ?_ | refine awp_false rfl rfl ?_ | refine awp_block ?_ | ((first | refine CallK.look (enter110) (indexF_rows l hl g hg caps ro p hp) ?_ (by assumption) (by repeat (first | exact Fr.rfl' _ _ | assumption | refine Fr.updk ?_ (by omega) _)) ?_ | refine CallD.look (enter110) (indexF_rows l hl g hg caps ro p hp) ?_ (by assumption) (by repeat (first | exact Fr.rfl' _ _ | assumption | refine Fr.updk ?_ (by omega) _)) (by first | assumption | exact List.cons_ne_nil _ _) ?_); (focus first | ((repeat (first | exact trivial | refine ⟨(by first | exact Or.inl rfl | exact Or.inr rfl), ?_⟩)); done) | (simp only [coL, AV.dat, true_or, or_true, AV.d.injEq, go_sem]; done)); simp only [go_sem]) | refine And.intro (by first | ((repeat' first | omega | exact trivial | rfl | assumption | (intro a e; subst e; rfl) | exact map_sz fun a => (by simp only [go_sem]) | refine And.intro ?_ ?_); done) | fail) ?_ | fail)
  (first | refine ret_pure ?_ ?_ ?_ | refine ret_ro ?_ ?_ ?_); focus exact (by simp only [Try.results85, resOkL, resOk, Try.ntmps85, List.toList_toArray]; first | decide | (simp only [go_sem]; done) | (simp only [go_sem]; and_intros <;> first | omega | rfl | decide))
  rotate_left; focus exact (by repeat (first | exact Fr.rfl' _ _ | assumption | refine Fr.updk ?_ (by omega) _))
  simp only [resA, resV, Try.results85, go_sem]
  all_goals try (first | exact Co.t2 (.dat rfl) (.dat rfl) | exact Co.t3 (.dat rfl) (.dat rfl) (.dat rfl))
  exact co_b e
set_option maxRecDepth 20000 in
theorem indexF_terms (l : List (Tm)) (hl : l.length ≤ 16777216) (g : FuncId) (hg : enterOk Try.prog g) (caps : List AV) (ro : List (Nm × Ob)) (p : Tm → Bool) (hp : ∀ x ∈ l, Tri Try.prog g ([.d (tmDV x)] ++ caps) (rdE ro (bA (p x)))) :
    Tri Try.prog 158 [.d (.sl (l.map tmDV)), .fn (.func g) [] caps] (rdE ro (iA (idxP p l 0))) := by
  refine tri_enter_ro Try.func158 rfl Try.ntmps158 (by simp only [List.length_cons, List.length_nil]; omega) fun w0 h0 k hro => ?_
  repeat' (first | refine awp_seq_k fun K hK => ?_ | ((first | refine awp_region_k (by kernel_rfl) fun R hR => ?_ | refine awp_draw mixed (by kernel_rfl) (by kernel_rfl) fun R hR => ?_); simp only [go_sem]) | ((first | (refine hR _ ?_; clear hR R) | refine awp_skip ?_ | refine awp_exit ?_ | refine awp_ret ?_); try simp only [thenA, inBlockA, reduceIte, reduceCtorEq, Nat.reduceEqDiff, if_false, if_true]) | ((first | refine hK _ ?_ | (clear hK K; first | refine hK _ ?_ | (clear hK K; first | refine hK _ ?_ | (clear hK K; first | refine hK _ ?_ | (clear hK K; refine hK _ ?_))))); clear hK K) | refine awp_true rfl rfl ?_ | refine awp_false rfl rfl ?_ | refine awp_block ?_ | refine And.intro (by first | ((repeat' first | omega | exact trivial | rfl | assumption | (intro a e; subst e; rfl) | exact map_sz fun a => (by simp only [go_sem]) | refine And.intro ?_ ?_); done) | fail) ?_ | fail)
  refine awp_loop (fun σ => ∃ i : Nat, σ.t 0 = .d (.sl (l.map tmDV)) ∧ σ.t 1 = .fn (.func g) [] caps ∧ σ.t 7 = iA l.length ∧ σ.t 8 = iA i ∧ σ.h = h0 ∧ i ≤ l.length ∧ idxP p (l.drop i) i = idxP p l 0) (fun σ => l.length - (intOf' (σ.t 8)).toNat) ?_ ?_
  · refine ⟨0, ?_⟩
    simp only [go_sem]
    and_intros; all_goals try (first | rfl | omega | assumption | ((repeat (first | exact Fr.rfl' _ _ | assumption | refine Fr.updk ?_ (by omega) _)); done))
  · rintro σ ⟨i, s0, s1, s7, s8, sh, hi, hv⟩
    have hfr : Fr k h0 σ.h := by rw [sh]; exact Fr.rfl' _ _
    rcases Nat.lt_or_ge i l.length with hlt | hge
    · have hz : (i : Int) < (l.length : Int) := by omega
      have e1 : (l.map tmDV).getD i default = tmDV l[i] := nth_map tmDV hlt _
      have hc1 := hp l[i] (List.getElem_mem hlt)
      cases hc : p l[i] with
      | true =>
        rw [idxP_at hlt hc] at hv
        rw [hc] at hc1
        repeat' (first | refine awp_seq_k fun K hK => ?_ | ((first | refine awp_region_k (by kernel_rfl) fun R hR => ?_ | refine awp_draw mixed (by kernel_rfl) (by kernel_rfl) fun R hR => ?_); simp only [go_sem, s0, s1, s7, s8, hz, e1, hc, Int.toNat_natCast]) | ((first | (refine hR _ ?_; clear hR R) | refine awp_skip ?_ | refine awp_exit ?_ | refine awp_ret ?_); try simp only [thenA, inBlockA, reduceIte, reduceCtorEq, Nat.reduceEqDiff, if_false, if_true]) | ((first | refine hK _ ?_ | (clear hK K; first | refine hK _ ?_ | (clear hK K; first | refine hK _ ?_ | (clear hK K; first | refine hK _ ?_ | (clear hK K; refine hK _ ?_))))); clear hK K) | refine awp_true rfl rfl ?_ | refine awp_false rfl rfl ?_ | refine awp_block ?_ | ((first | refine CallK.vlook rfl (hg) (hc1) ?_ (by assumption) (by repeat (first | exact Fr.rfl' _ _ | assumption | refine Fr.updk ?_ (by omega) _)) ?_ | refine CallD.vlook rfl (hg) (hc1) ?_ (by assumption) (by repeat (first | exact Fr.rfl' _ _ | assumption | refine Fr.updk ?_ (by omega) _)) (by first | assumption | exact List.cons_ne_nil _ _) ?_); (focus first | ((repeat (first | exact trivial | refine ⟨(by first | exact Or.inl rfl | exact Or.inr rfl), ?_⟩)); done) | (simp only [coL, AV.dat, true_or, or_true, AV.d.injEq, go_sem]; done)); simp only [go_sem, s0, s1, s7, s8, hz, e1, hc, Int.toNat_natCast]) | refine And.intro (by first | ((repeat' first | omega | exact trivial | rfl | assumption | (intro a e; subst e; rfl) | exact map_sz fun a => (by simp only [go_sem]) | refine And.intro ?_ ?_); done) | fail) ?_ | fail)
        (first | refine ret_pure ?_ ?_ ?_ | refine ret_ro ?_ ?_ ?_); focus exact (by simp only [Try.results158, resOkL, resOk, Try.ntmps158, List.toList_toArray]; first | decide | (simp only [go_sem]; done) | (simp only [go_sem]; and_intros <;> first | omega | rfl | decide))
        rotate_left; focus exact (by repeat (first | exact Fr.rfl' _ _ | assumption | refine Fr.updk ?_ (by omega) _))
        simp only [resA, resV, Try.results158, go_sem]
        all_goals try (first | exact Co.t2 (.dat rfl) (.dat rfl) | exact Co.t3 (.dat rfl) (.dat rfl) (.dat rfl))
        exact co_i hv
      | false =>
        rw [hc] at hc1
        repeat' (first | refine awp_seq_k fun K hK => ?_ | ((first | refine awp_region_k (by kernel_rfl) fun R hR => ?_ | refine awp_draw mixed (by kernel_rfl) (by kernel_rfl) fun R hR => ?_); simp only [go_sem, s0, s1, s7, s8, hz, e1, hc, Int.toNat_natCast]) | ((first | (refine hR _ ?_; clear hR R) | refine awp_skip ?_ | refine awp_exit ?_ | refine awp_ret ?_); try simp only [thenA, inBlockA, reduceIte, reduceCtorEq, Nat.reduceEqDiff, if_false, if_true]) | ((first | refine hK _ ?_ | (clear hK K; first | refine hK _ ?_ | (clear hK K; first | refine hK _ ?_ | (clear hK K; first | refine hK _ ?_ | (clear hK K; refine hK _ ?_))))); clear hK K) | refine awp_true rfl rfl ?_ | refine awp_false rfl rfl ?_ | refine awp_block ?_ | ((first | refine CallK.vlook rfl (hg) (hc1) ?_ (by assumption) (by repeat (first | exact Fr.rfl' _ _ | assumption | refine Fr.updk ?_ (by omega) _)) ?_ | refine CallD.vlook rfl (hg) (hc1) ?_ (by assumption) (by repeat (first | exact Fr.rfl' _ _ | assumption | refine Fr.updk ?_ (by omega) _)) (by first | assumption | exact List.cons_ne_nil _ _) ?_); (focus first | ((repeat (first | exact trivial | refine ⟨(by first | exact Or.inl rfl | exact Or.inr rfl), ?_⟩)); done) | (simp only [coL, AV.dat, true_or, or_true, AV.d.injEq, go_sem]; done)); simp only [go_sem, s0, s1, s7, s8, hz, e1, hc, Int.toNat_natCast]) | refine And.intro (by first | ((repeat' first | omega | exact trivial | rfl | assumption | (intro a e; subst e; rfl) | exact map_sz fun a => (by simp only [go_sem]) | refine And.intro ?_ ?_); done) | fail) ?_ | fail)
        refine ⟨⟨i + 1, ?_⟩, ?_⟩
        rotate_left
        · simp only [go_sem, s0, s1, s7, s8, sh]; omega
        simp only [go_sem, s0, s1, s7, s8, sh]
        and_intros; all_goals try (first | rfl | omega | assumption | ((repeat (first | exact Fr.rfl' _ _ | assumption | refine Fr.updk ?_ (by omega) _)); done))
        rw [← hv]; exact (idxP_go hlt hc).symm
    · have hz : ¬ ((i : Int) < (l.length : Int)) := by omega
      rw [List.drop_eq_nil_of_le hge, idxP] at hv
      repeat' (first | refine awp_seq_k fun K hK => ?_ | ((first | refine awp_region_k (by kernel_rfl) fun R hR => ?_ | refine awp_draw mixed (by kernel_rfl) (by kernel_rfl) fun R hR => ?_); simp only [go_sem, s0, s1, s7, s8, hz]) | ((first | (refine hR _ ?_; clear hR R) | refine awp_skip ?_ | refine awp_exit ?_ | refine awp_ret ?_); try simp only [thenA, inBlockA, reduceIte, reduceCtorEq, Nat.reduceEqDiff, if_false, if_true]) | ((first | refine hK _ ?_ | (clear hK K; first | refine hK _ ?_ | (clear hK K; first | refine hK _ ?_ | (clear hK K; first | refine hK _ ?_ | (clear hK K; refine hK _ ?_))))); clear hK K) | refine awp_true rfl rfl ?_ | refine awp_false rfl rfl ?_ | refine awp_block ?_ | refine And.intro (by first | ((repeat' first | omega | exact trivial | rfl | assumption | (intro a e; subst e; rfl) | exact map_sz fun a => (by simp only [go_sem]) | refine And.intro ?_ ?_); done) | fail) ?_ | fail)
      (first | refine ret_pure ?_ ?_ ?_ | refine ret_ro ?_ ?_ ?_); focus exact (by simp only [Try.results158, resOkL, resOk, Try.ntmps158, List.toList_toArray]; first | decide | (simp only [go_sem]; done) | (simp only [go_sem]; and_intros <;> first | omega | rfl | decide))
      rotate_left; focus exact (by repeat (first | exact Fr.rfl' _ _ | assumption | refine Fr.updk ?_ (by omega) _))
      simp only [resA, resV, Try.results158, go_sem]
      all_goals try (first | exact Co.t2 (.dat rfl) (.dat rfl) | exact Co.t3 (.dat rfl) (.dat rfl) (.dat rfl))
      exact co_i hv
set_option maxRecDepth 20000 in
theorem containsF_terms (l : List (Tm)) (hl : l.length ≤ 16777216) (g : FuncId) (hg : enterOk Try.prog g) (caps : List AV) (ro : List (Nm × Ob)) (p : Tm → Bool) (hp : ∀ x ∈ l, Tri Try.prog g ([.d (tmDV x)] ++ caps) (rdE ro (bA (p x)))) :
    Tri Try.prog 152 [.d (.sl (l.map tmDV)), .fn (.func g) [] caps] (rdE ro (bA (l.any p))) := by
  refine tri_enter_ro Try.func152 rfl Try.ntmps152 (by simp only [List.length_cons, List.length_nil]; omega) fun w0 h0 k hro => ?_
  have e := idxP_nn p l 0
  repeat' (first | refine awp_seq_k fun K hK => ?_ | ((first | refine awp_region_k (by kernel_rfl) fun R hR => ?_ | refine awp_draw mixed (by kernel_rfl) (by kernel_rfl) fun R hR => ?_); simp only [go_sem]) | ((first | (refine hR _ ?_; clear hR R) | refine awp_skip ?_ | refine awp_exit ?_ | refine awp_ret ?_); try simp only [thenA, inBlockA, reduceIte, reduceCtorEq, Nat.reduceEqDiff, if_false, if_true]) | ((first | refine hK _ ?_ | (clear hK K; first | refine hK _ ?_ | (clear hK K; first | refine hK _ ?_ | (clear hK K; first | refine hK _ ?_ | (clear hK K; refine hK _ ?_))))); clear hK K) | refine awp_true rfl rfl ?_ | refine awp_false rfl rfl ?_ | refine awp_block ?_ | ((first | refine CallK.look (enter158) (indexF_terms l hl g hg caps ro p hp) ?_ (by assumption) (by repeat (first | exact Fr.rfl' _ _ | assumption | refine Fr.updk ?_ (by omega) _)) ?_ | refine CallD.look (enter158) (indexF_terms l hl g hg caps ro p hp) ?_ (by assumption) (by repeat (first | exact Fr.rfl' _ _ | assumption | refine Fr.updk ?_ (by omega) _)) (by first | assumption | exact List.cons_ne_nil _ _) ?_); (focus first | ((repeat (first | exact trivial | refine ⟨(by first | exact Or.inl rfl | exact Or.inr rfl), ?_⟩)); done) | (simp only [coL, AV.dat, true_or, or_true, AV.d.injEq, go_sem]; done)); simp only [go_sem]) | refine And.intro (by first | ((repeat' first | omega | exact trivial | rfl | assumption | (intro a e; subst e; rfl) | exact map_sz fun a => (by simp only [go_sem]) | refine And.intro ?_ ?_); done) | fail) ?_ | fail)
  (first | refine ret_pure ?_ ?_ ?_ | refine ret_ro ?_ ?_ ?_); focus exact (by simp only [Try.results152, resOkL, resOk, Try.ntmps152, List.toList_toArray]; first | decide | (simp only [go_sem]; done) | (simp only [go_sem]; and_intros <;> first | omega | rfl | decide))
  rotate_left; focus exact (by repeat (first | exact Fr.rfl' _ _ | assumption | refine Fr.updk ?_ (by omega) _))
  simp only [resA, resV, Try.results152, go_sem]
  all_goals try (first | exact Co.t2 (.dat rfl) (.dat rfl) | exact Co.t3 (.dat rfl) (.dat rfl) (.dat rfl))
  exact co_b e
/-! ### copies -/
set_option maxRecDepth 20000 in
theorem clone_ints (l : List (Int)) (hl : l.length ≤ 4000000) (n' : Nm) : Tri Try.prog 144 [.d (.sl (l.map iD))] (newEff 3 n' (l.map iD)) := by
  refine Tri.nils (fun h => ?_) ?_
  · obtain rfl : l = [] := by simpa using h
    refine tri_enter Try.func144 rfl Try.ntmps144 (by simp only [List.length_cons, List.length_nil]; omega) fun w0 h0 k hrd hwr => ?_
    have hn' : n'.1 < k := hwr _ (List.mem_cons_self ..)
    have h0' : h0 n' = none := hrd _ (List.mem_cons_self ..)
    repeat' (first | refine awp_ghost (ghost_nil (i := 2) (e := 3) rfl) ?_ | refine awp_seq_k fun K hK => ?_ | ((first | refine awp_region_k (by kernel_rfl) fun R hR => ?_ | refine awp_draw mixed (by kernel_rfl) (by kernel_rfl) fun R hR => ?_); simp only [go_sem]) | ((first | (refine hR _ ?_; clear hR R) | refine awp_skip ?_ | refine awp_exit ?_ | refine awp_ret ?_); try simp only [thenA, inBlockA, reduceIte, reduceCtorEq, Nat.reduceEqDiff, if_false, if_true]) | ((first | refine hK _ ?_ | (clear hK K; first | refine hK _ ?_ | (clear hK K; first | refine hK _ ?_ | (clear hK K; first | refine hK _ ?_ | (clear hK K; refine hK _ ?_))))); clear hK K) | refine awp_true rfl rfl ?_ | refine awp_false rfl rfl ?_ | refine awp_block ?_ | refine And.intro (by first | ((repeat' first | omega | exact trivial | rfl | assumption | (intro a e; subst e; rfl) | exact map_sz fun a => (by simp only [go_sem]) | refine And.intro ?_ ?_); done) | fail) ?_ | fail)
    refine ret_new (by simp only [Try.results144, resOkL, resOk, Try.ntmps144, List.toList_toArray]; first | decide | (simp only [go_sem]; done) | (simp only [go_sem]; and_intros <;> first | omega | rfl | decide)) (by simp only [resA, resV, Try.results144, go_sem]; try rfl) ?_ hn' h0' ?_ (by repeat (first | exact Fr.rfl' _ _ | assumption | refine Fr.updk ?_ (by omega) _)) <;> simp only [go_sem, List.length_map] <;> first | rfl | omega
  · refine tri_enter Try.func144 rfl Try.ntmps144 (by simp only [List.length_cons, List.length_nil]; omega) fun w0 h0 k hrd hwr => ?_
    have hn' : n'.1 < k := hwr _ (List.mem_cons_self ..)
    have h0' : h0 n' = none := hrd _ (List.mem_cons_self ..)
    repeat' (first | refine awp_nn (i := 0) 4 rfl rfl ?_ | refine awp_seq_k fun K hK => ?_ | ((first | refine awp_region_k (by kernel_rfl) fun R hR => ?_ | refine awp_draw mixed (by kernel_rfl) (by kernel_rfl) fun R hR => ?_); simp only [go_sem]) | ((first | (refine hR _ ?_; clear hR R) | refine awp_skip ?_ | refine awp_exit ?_ | refine awp_ret ?_); try simp only [thenA, inBlockA, reduceIte, reduceCtorEq, Nat.reduceEqDiff, if_false, if_true]) | ((first | refine hK _ ?_ | (clear hK K; first | refine hK _ ?_ | (clear hK K; first | refine hK _ ?_ | (clear hK K; first | refine hK _ ?_ | (clear hK K; refine hK _ ?_))))); clear hK K) | refine awp_true rfl rfl ?_ | refine awp_false rfl rfl ?_ | refine awp_block ?_ | refine And.intro (by first | ((repeat' first | omega | exact trivial | rfl | assumption | (intro a e; subst e; rfl) | exact map_sz fun a => (by simp only [go_sem]) | refine And.intro ?_ ?_); done) | fail) ?_ | fail)
    refine ret_new (by simp only [Try.results144, resOkL, resOk, Try.ntmps144, List.toList_toArray]; first | decide | (simp only [go_sem]; done) | (simp only [go_sem]; and_intros <;> first | omega | rfl | decide)) (by simp only [resA, resV, Try.results144, go_sem]; try rfl) ?_ hn' h0' ?_ (by repeat (first | exact Fr.rfl' _ _ | assumption | refine Fr.updk ?_ (by omega) _)) <;> simp only [go_sem, List.length_map] <;> first | rfl | omega
set_option maxRecDepth 20000 in
theorem clone_terms (l : List (Tm)) (hl : l.length ≤ 4000000) (n' : Nm) : Tri Try.prog 143 [.d (.sl (l.map tmDV))] (newEff 28 n' (l.map tmDV)) := by
  refine Tri.nils (fun h => ?_) ?_
  · obtain rfl : l = [] := by simpa using h
    refine tri_enter Try.func143 rfl Try.ntmps143 (by simp only [List.length_cons, List.length_nil]; omega) fun w0 h0 k hrd hwr => ?_
    have hn' : n'.1 < k := hwr _ (List.mem_cons_self ..)
    have h0' : h0 n' = none := hrd _ (List.mem_cons_self ..)
    repeat' (first | refine awp_ghost (ghost_nil (i := 2) (e := 28) rfl) ?_ | refine awp_seq_k fun K hK => ?_ | ((first | refine awp_region_k (by kernel_rfl) fun R hR => ?_ | refine awp_draw mixed (by kernel_rfl) (by kernel_rfl) fun R hR => ?_); simp only [go_sem]) | ((first | (refine hR _ ?_; clear hR R) | refine awp_skip ?_ | refine awp_exit ?_ | refine awp_ret ?_); try simp only [thenA, inBlockA, reduceIte, reduceCtorEq, Nat.reduceEqDiff, if_false, if_true]) | ((first | refine hK _ ?_ | (clear hK K; first | refine hK _ ?_ | (clear hK K; first | refine hK _ ?_ | (clear hK K; first | refine hK _ ?_ | (clear hK K; refine hK _ ?_))))); clear hK K) | refine awp_true rfl rfl ?_ | refine awp_false rfl rfl ?_ | refine awp_block ?_ | refine And.intro (by first | ((repeat' first | omega | exact trivial | rfl | assumption | (intro a e; subst e; rfl) | exact map_sz fun a => (by simp only [go_sem]) | refine And.intro ?_ ?_); done) | fail) ?_ | fail)
    refine ret_new (by simp only [Try.results143, resOkL, resOk, Try.ntmps143, List.toList_toArray]; first | decide | (simp only [go_sem]; done) | (simp only [go_sem]; and_intros <;> first | omega | rfl | decide)) (by simp only [resA, resV, Try.results143, go_sem]; try rfl) ?_ hn' h0' ?_ (by repeat (first | exact Fr.rfl' _ _ | assumption | refine Fr.updk ?_ (by omega) _)) <;> simp only [go_sem, List.length_map] <;> first | rfl | omega
  · refine tri_enter Try.func143 rfl Try.ntmps143 (by simp only [List.length_cons, List.length_nil]; omega) fun w0 h0 k hrd hwr => ?_
    have hn' : n'.1 < k := hwr _ (List.mem_cons_self ..)
    have h0' : h0 n' = none := hrd _ (List.mem_cons_self ..)
    repeat' (first | refine awp_nn (i := 0) 4 rfl rfl ?_ | refine awp_seq_k fun K hK => ?_ | ((first | refine awp_region_k (by kernel_rfl) fun R hR => ?_ | refine awp_draw mixed (by kernel_rfl) (by kernel_rfl) fun R hR => ?_); simp only [go_sem]) | ((first | (refine hR _ ?_; clear hR R) | refine awp_skip ?_ | refine awp_exit ?_ | refine awp_ret ?_); try simp only [thenA, inBlockA, reduceIte, reduceCtorEq, Nat.reduceEqDiff, if_false, if_true]) | ((first | refine hK _ ?_ | (clear hK K; first | refine hK _ ?_ | (clear hK K; first | refine hK _ ?_ | (clear hK K; first | refine hK _ ?_ | (clear hK K; refine hK _ ?_))))); clear hK K) | refine awp_true rfl rfl ?_ | refine awp_false rfl rfl ?_ | refine awp_block ?_ | refine And.intro (by first | ((repeat' first | omega | exact trivial | rfl | assumption | (intro a e; subst e; rfl) | exact map_sz fun a => (by simp only [go_sem]) | refine And.intro ?_ ?_); done) | fail) ?_ | fail)
    refine ret_new (by simp only [Try.results143, resOkL, resOk, Try.ntmps143, List.toList_toArray]; first | decide | (simp only [go_sem]; done) | (simp only [go_sem]; and_intros <;> first | omega | rfl | decide)) (by simp only [resA, resV, Try.results143, go_sem]; try rfl) ?_ hn' h0' ?_ (by repeat (first | exact Fr.rfl' _ _ | assumption | refine Fr.updk ?_ (by omega) _)) <;> simp only [go_sem, List.length_map] <;> first | rfl | omega
end Go.Proofs.Ytmeekpinkfpnhab
namespace Go.Proofs.Ytmeekpinkfpnhab
open Go.RowKit
attribute [local irreducible] CallK CallD
mutual
def walkS {S : Type} (step : Tm → S → Bool × S) : Tm → S → Bool × S
  | .mk v f us, s => if (step (.mk v f us) s).1 = true then walkL step us (step (.mk v f us) s).2 else (false, (step (.mk v f us) s).2)
def walkL {S : Type} (step : Tm → S → Bool × S) : List Tm → S → Bool × S
  | [], s => (true, s)
  | x :: xs, s => if (walkS step x s).1 = true then walkL step xs (walkS step x s).2 else (false, (walkS step x s).2)
end
theorem walkS_eq {S : Type} (step : Tm → S → Bool × S) (t : Tm) (s : S) : walkS step t s = if (step t s).1 = true then walkL step t.us (step t s).2 else (false, (step t s).2) := by cases t; rw [walkS]; rfl
theorem walkL_go {S : Type} {step : Tm → S → Bool × S} {us : List Tm} {i : Nat} (hi : i < us.length) {s : S} (h : (walkS step us[i] s).1 = true) : walkL step (us.drop i) s = walkL step (us.drop (i + 1)) (walkS step us[i] s).2 := by
  rw [List.drop_eq_getElem_cons hi, walkL, if_pos h]
theorem walkL_stop {S : Type} {step : Tm → S → Bool × S} {us : List Tm} {i : Nat} (hi : i < us.length) {s : S} (h : (walkS step us[i] s).1 = false) : walkL step (us.drop i) s = (false, (walkS step us[i] s).2) := by
  rw [List.drop_eq_getElem_cons hi, walkL, if_neg (by rw [h]; simp)]
mutual
theorem pre_len : ∀ t : Tm, (pre t).length = t.size
  | .mk v f us => by rw [pre, List.length_cons, preL_len us, Tm.size]; omega
theorem preL_len : ∀ us : List Tm, (preL us).length = Tm.size.sizes us
  | [] => rfl
  | x :: xs => by rw [preL, List.length_append, pre_len x, preL_len xs, Tm.size.sizes]
end
theorem sizes_append (a b : List Tm) : Tm.size.sizes (a ++ b) = Tm.size.sizes a + Tm.size.sizes b := by
  induction a with
  | nil => simp [Tm.size.sizes]
  | cons x xs ih => simp [Tm.size.sizes, ih, Nat.add_assoc]
theorem sizes_take (l : List Tm) (i : Nat) : Tm.size.sizes (l.take i) ≤ Tm.size.sizes l := by
  have h := sizes_append (l.take i) (l.drop i)
  rw [List.take_append_drop] at h
  omega
theorem preL_mem {us : List Tm} {u x : Tm} (hu : u ∈ us) (hx : x ∈ pre u) : x ∈ preL us := by
  induction us with
  | nil => cases hu
  | cons y ys ih =>
    rw [preL, List.mem_append]
    rcases List.mem_cons.1 hu with rfl | hu
    · exact .inl hx
    · exact .inr (ih hu)
theorem notN {k : Nat} {N : List Nm} {O : Nm → Ob} {h : Heap} (ha : Ag k N O h) {k' : Nat} (hk : k ≤ k') : ∀ j, ((k', j) ∈ N) = False := fun j => by
  apply eq_false; intro hm
  have := (ha.get _ hm).1
  simp only at this; omega
theorem notN' {k : Nat} {N : List Nm} {O : Nm → Ob} {h : Heap} (ha : Ag k N O h) {k' : Nat} (hk : k ≤ k') : ∀ j, (∀ x, x ∈ N → ¬ x = (k', j)) = True := fun j => by
  apply eq_true; intro x hx e
  have := (ha.get _ hx).1
  rw [e] at this; simp only at this; omega
theorem farN {N : List Nm} (r w : List Nm) : Far r w N N = ((∀ x ∈ w, ¬ x ∈ N) ∧ ∀ x ∈ r, ¬ x ∈ N) := by
  apply propext
  unfold Far
  exact ⟨fun ⟨h1, h2⟩ => ⟨fun x hx => (h1 x hx).1, fun x hx hx' => h2 x hx' hx⟩, fun ⟨h1, h2⟩ => ⟨fun x hx => ⟨h1 x hx, h1 x hx⟩, fun x hx hx' => h2 x hx' hx⟩⟩
section
variable {S : Type} (O : S → Nm → Ob) (N : List Nm) (g : FuncId) (caps : List AV) (step : Tm → S → Bool × S) (I : Nat → S → Prop) (hN : ∀ s (k : Nat), (∀ n ∈ N, n.1 < k) → Cl k N (O s)) (hg : enterOk Try.prog g) (hne : N ≠ [])
def DoOK (x : Tm) : Prop := ∀ (n : Nat) (s : S), I (n + 1) s → I n (step x s).2 ∧ ∀ pl : List Int, Tri Try.prog g ([.d (.sl (pl.map iD)), .d (tmDV x)] ++ caps) (stE N (O s) (O (step x s).2) (bA (step x s).1))
def WalkSpec (t : Tm) : Prop := (∀ x ∈ pre t, DoOK O N g caps step I x) → ∀ (n : Nat) (s : S), I (t.size + n) s → ((walkS step t s).1 = true → I n (walkS step t s).2) ∧
  ∀ pl : List Int, pl.length + t.size ≤ 4000000 → Tri Try.prog 122 [.d (tmDV t), .d (.sl (pl.map iD)), .fn (.func g) [] caps] (stE N (O s) (O (walkS step t s).2) (bA (walkS step t s).1))
include hN hg hne
set_option maxRecDepth 20000 in
theorem walk_step (t : Tm) (ih : ∀ u ∈ t.us, WalkSpec O N g caps step I u) : WalkSpec O N g caps step I t := by
  intro hdo n s hI
  have hsz := t.size_eq
  have hlen := t.len_lt
  have hd0 := hdo t (by rw [pre_eq]; simp)
  obtain ⟨hI1, hT1⟩ := hd0 (Tm.size.sizes t.us + n) s (by rw [hsz] at hI; rw [show Tm.size.sizes t.us + n + 1 = 1 + Tm.size.sizes t.us + n by omega]; exact hI)
  have hdoU : ∀ u ∈ t.us, ∀ x ∈ pre u, DoOK O N g caps step I x := fun u hu x hx => hdo x (by rw [pre_eq]; exact List.mem_cons_of_mem _ (preL_mem hu hx))
  refine ⟨?_, fun pl hpl => ?_⟩
  · intro hw
    rw [walkS_eq] at hw ⊢
    by_cases h1 : (step t s).1 = true
    · rw [if_pos h1] at hw ⊢
      clear hT1 hI h1 hd0 hdo
      generalize (step t s).2 = s1 at *
      have ih' : ∀ u ∈ t.us, ∀ (n : Nat) (s : S), I (u.size + n) s → (walkS step u s).1 = true → I n (walkS step u s).2 := fun u hu n s hs => ((ih u hu) (hdoU u hu) n s hs).1
      clear ih hdoU hsz hlen
      generalize t.us = us at *
      clear t
      induction us generalizing s1 with
      | nil => rw [walkL]; simpa [Tm.size.sizes] using hI1
      | cons x xs ihx =>
        rw [walkL] at hw ⊢
        by_cases h2 : (walkS step x s1).1 = true
        · rw [if_pos h2] at hw ⊢
          refine ihx _ ?_ hw (fun u hu => ih' u (List.mem_cons_of_mem _ hu))
          refine ih' x (by simp) _ s1 ?_ h2
          rw [Tm.size.sizes, Nat.add_assoc] at hI1; exact hI1
        · rw [if_neg h2] at hw; cases hw
    · rw [if_neg h1] at hw; cases hw
  · rw [walkS_eq]
    refine tri_enter_st Try.func122 rfl Try.ntmps122 (by simp only [List.length_cons, List.length_nil]; omega) fun w0 h0 k hag => ?_
    have hlt : ∀ n ∈ N, n.1 < k := fun n hn => (hag.get n hn).1
    have hNk := notN hag (Nat.le_refl k)
    have hNk1 := notN hag (k' := k + 1) (by omega)
    have hT := hT1 pl
    cases h1 : (step t s).1 with
    | false =>
      rw [h1] at hT
      have hcl := hN (step t s).2 k hlt
      simp only [Bool.false_eq_true, if_false]
      repeat' (first | refine awp_seq_k fun K hK => ?_ | ((first | refine awp_region_k (by kernel_rfl) fun R hR => ?_ | refine awp_draw mixed (by kernel_rfl) (by kernel_rfl) fun R hR => ?_); simp only [go_sem, h1, hNk]) | ((first | (refine hR _ ?_; clear hR R) | refine awp_skip ?_ | refine awp_exit ?_ | refine awp_ret ?_); try simp only [thenA, inBlockA, reduceIte, reduceCtorEq, Nat.reduceEqDiff, if_false, if_true]) | ((first | refine hK _ ?_ | (clear hK K; first | refine hK _ ?_ | (clear hK K; first | refine hK _ ?_ | (clear hK K; first | refine hK _ ?_ | (clear hK K; refine hK _ ?_))))); clear hK K) | refine awp_true rfl rfl ?_ | refine awp_false rfl rfl ?_ | refine awp_block ?_ | ((first | refine CallK.vchg rfl (hg) (hT) ?_ (by assumption) (by repeat (first | exact Fr.rfl' _ _ | assumption | refine Fr.updk ?_ (by omega) _)) ?_ | refine CallD.vchg rfl (hg) (hT) ?_ (by assumption) (by repeat (first | exact Fr.rfl' _ _ | assumption | refine Fr.updk ?_ (by omega) _)) (by assumption) ?_); (focus first | ((repeat (first | exact trivial | refine ⟨(by first | exact Or.inl rfl | exact Or.inr rfl), ?_⟩)); done) | (simp only [coL, AV.dat, true_or, or_true, AV.d.injEq, go_sem]; done)); simp only [go_sem, h1, hNk]) | refine And.intro (by first | ((repeat' first | omega | exact trivial | rfl | assumption | (intro a e; subst e; rfl) | exact map_sz fun a => (by simp only [go_sem]) | refine And.intro ?_ ?_); done) | fail) ?_ | fail)
      refine ret_st (by simp only [Try.results122, resOkL, resOk, Try.ntmps122, List.toList_toArray]; first | decide | (simp only [go_sem]; done) | (simp only [go_sem]; and_intros <;> first | omega | rfl | decide)) ?_ (by repeat (first | assumption | exact Ag.stN (by assumption) _ _ | refine Ag.updk ?_ (by omega) _)) (by repeat (first | exact FrN.rfl' _ _ _ | assumption | refine FrN.updk ?_ (by omega) _ | refine FrN.stH ?_ _)) (by assumption)
      simp only [resA, resV, Try.results122, go_sem]
      all_goals try (first | exact .dat rfl | exact Co.t2 (.dat rfl) (.dat rfl) | exact Co.t3 (.dat rfl) (.dat rfl) (.dat rfl))
    | true =>
      rw [h1] at hT
      simp only [if_true]
      repeat' (first | refine awp_seq_k fun K hK => ?_ | ((first | refine awp_region_k (by kernel_rfl) fun R hR => ?_ | refine awp_draw mixed (by kernel_rfl) (by kernel_rfl) fun R hR => ?_); simp only [go_sem, h1, hNk, hNk1]) | ((first | (refine hR _ ?_; clear hR R) | refine awp_skip ?_ | refine awp_exit ?_ | refine awp_ret ?_); try simp only [thenA, inBlockA, reduceIte, reduceCtorEq, Nat.reduceEqDiff, if_false, if_true]) | ((first | refine hK _ ?_ | (clear hK K; first | refine hK _ ?_ | (clear hK K; first | refine hK _ ?_ | (clear hK K; first | refine hK _ ?_ | (clear hK K; refine hK _ ?_))))); clear hK K) | refine awp_true rfl rfl ?_ | refine awp_false rfl rfl ?_ | refine awp_block ?_ | ((first | refine CallK.vchg rfl (hg) (hT) ?_ (by assumption) (by repeat (first | exact Fr.rfl' _ _ | assumption | refine Fr.updk ?_ (by omega) _)) ?_ | refine CallD.vchg rfl (hg) (hT) ?_ (by assumption) (by repeat (first | exact Fr.rfl' _ _ | assumption | refine Fr.updk ?_ (by omega) _)) (by assumption) ?_); (focus first | ((repeat (first | exact trivial | refine ⟨(by first | exact Or.inl rfl | exact Or.inr rfl), ?_⟩)); done) | (simp only [coL, AV.dat, true_or, or_true, AV.d.injEq, go_sem]; done)); simp only [go_sem, h1, hNk, hNk1]) | refine And.intro (by first | ((repeat' first | omega | exact trivial | rfl | assumption | (intro a e; subst e; rfl) | exact map_sz fun a => (by simp only [go_sem]) | refine And.intro ?_ ?_); done) | fail) ?_ | fail)
      generalize hs1 : (step t s).2 = s1 at *
      refine awp_loop (fun σ => ∃ (i : Nat) (si : S), σ.t 1 = .d (.sl (pl.map iD)) ∧ σ.t 2 = .fn (.func g) [] caps ∧ σ.t 15 = .d (.sl (t.us.map tmDV)) ∧ σ.t 16 = iA t.us.length ∧ σ.t 17 = iA i ∧ Ag k N (O si) σ.h ∧ FrN k N h0 σ.h ∧ k < σ.k ∧ i ≤ t.us.length ∧ I (Tm.size.sizes (t.us.drop i) + n) si ∧ walkL step (t.us.drop i) si = walkL step t.us s1) (fun σ => t.us.length - (intOf' (σ.t 17)).toNat) ?_ ?_
      · refine ⟨0, s1, ?_⟩
        simp only [go_sem, List.drop_zero]
        and_intros; all_goals try (first | rfl | omega | assumption | ((repeat (first | exact Fr.rfl' _ _ | assumption | refine Fr.updk ?_ (by omega) _)); done))
        · exact (by repeat (first | assumption | exact Ag.stN (by assumption) _ _ | refine Ag.updk ?_ (by omega) _))
        · exact (by repeat (first | exact FrN.rfl' _ _ _ | assumption | refine FrN.updk ?_ (by omega) _ | refine FrN.stH ?_ _))
      · rintro σ ⟨i, si, s1', s2, s15, s16, s17, hA, hF, hk, hi, hIi, hw⟩
        rcases Nat.lt_or_ge i t.us.length with hi' | hge
        · have hz : (i : Int) < (t.us.length : Int) := by omega
          have e1 : (t.us.map tmDV).getD i default = tmDV t.us[i] := nth_map tmDV hi' _
          have hss := Tm.size_at hi'
          have hIi2 : I (t.us[i].size + (Tm.size.sizes (t.us.drop (i + 1)) + n)) si := by
            rw [List.drop_eq_getElem_cons hi', Tm.size.sizes, Nat.add_assoc] at hIi; exact hIi
          obtain ⟨g1, g2⟩ := ih _ (List.getElem_mem hi') (hdoU _ (List.getElem_mem hi')) _ si hIi2
          have g3 := g2 (pl ++ [(i : Int)]) (by rw [List.length_append, List.length_singleton]; omega)
          have epl : (pl ++ [(i : Int)]).map iD = pl.map iD ++ [iD i] := by simp
          have hN1 := notN hag (k' := σ.k) (by omega)
          have hN2 := notN hag (k' := σ.k + 1) (by omega)
          have hN3 := notN hag (k' := σ.k + 1 + 1) (by omega)
          have hN4 := notN' hag (k' := σ.k + 1) (by omega)
          have hN5 := notN' hag (k' := σ.k + 1 + 1) (by omega)
          have fN := fun r w => farN (N := N) r w
          refine awp_new fun hnew => ?_
          have hnn := hnew.at
          have hcl := hN (walkS step t.us[i] si).2 k hlt
          cases h2 : (walkS step t.us[i] si).1 with
          | true =>
            rw [h2, epl] at g3
            repeat' (first | refine awp_seq_k fun K hK => ?_ | ((first | refine awp_region_k (by kernel_rfl) fun R hR => ?_ | refine awp_draw mixed (by kernel_rfl) (by kernel_rfl) fun R hR => ?_); simp only [go_sem, s1', s2, s15, s16, s17, hz, e1, epl, hN1, hN2, hN3, hN4, hN5, fN, hnn, Nat.reduceBEq, ite_self, implies_true, Int.toNat_natCast]) | ((first | (refine hR _ ?_; clear hR R) | refine awp_skip ?_ | refine awp_exit ?_ | refine awp_ret ?_); try simp only [thenA, inBlockA, reduceIte, reduceCtorEq, Nat.reduceEqDiff, if_false, if_true]) | ((first | refine hK _ ?_ | (clear hK K; first | refine hK _ ?_ | (clear hK K; first | refine hK _ ?_ | (clear hK K; first | refine hK _ ?_ | (clear hK K; refine hK _ ?_))))); clear hK K) | refine awp_true rfl rfl ?_ | refine awp_false rfl rfl ?_ | refine awp_block ?_ | ((first | refine CallK.chg (enter122) (g3) ?_ (by assumption) (by repeat (first | exact Fr.rfl' _ _ | assumption | refine Fr.updk ?_ (by omega) _)) ?_ | refine CallD.chg (enter122) (g3) ?_ (by assumption) (by repeat (first | exact Fr.rfl' _ _ | assumption | refine Fr.updk ?_ (by omega) _)) (by assumption) ?_); (focus first | ((repeat (first | exact trivial | refine ⟨(by first | exact Or.inl rfl | exact Or.inr rfl), ?_⟩)); done) | (simp only [coL, AV.dat, true_or, or_true, AV.d.injEq, go_sem]; done)); simp only [go_sem, s1', s2, s15, s16, s17, hz, e1, epl, hN1, hN2, hN3, hN4, hN5, fN, hnn, Nat.reduceBEq, ite_self, implies_true, Int.toNat_natCast]) | ((first | refine CallK.new rfl (enter144) (clone_ints pl (by omega)) ?_ ?_ ?_ | refine CallD.new rfl (enter144) (clone_ints pl (by omega)) ?_ ?_ ?_); (focus first | ((repeat (first | exact trivial | refine ⟨(by first | exact Or.inl rfl | exact Or.inr rfl), ?_⟩)); done) | (simp only [coL, AV.dat, true_or, or_true, AV.d.injEq, go_sem]; done)); (focus (simp only [go_sem, s1', s2, s15, s16, s17, hz, e1, epl, hN1, hN2, hN3, hN4, hN5, fN, hnn, Nat.reduceBEq, ite_self, implies_true, Int.toNat_natCast]; done)); simp only [go_sem, s1', s2, s15, s16, s17, hz, e1, epl, hN1, hN2, hN3, hN4, hN5, fN, hnn, Nat.reduceBEq, ite_self, implies_true, Int.toNat_natCast]) | refine And.intro (by first | ((repeat' first | omega | exact trivial | rfl | assumption | (intro a e; subst e; rfl) | exact map_sz fun a => (by simp only [go_sem]) | refine And.intro ?_ ?_); done) | fail) ?_ | fail)
            refine ⟨⟨i + 1, (walkS step t.us[i] si).2, ?_⟩, ?_⟩
            · simp only [go_sem, s1', s2, s15, s16, s17]
              and_intros; all_goals try (first | rfl | omega | assumption | ((repeat (first | exact Fr.rfl' _ _ | assumption | refine Fr.updk ?_ (by omega) _)); done))
              · exact (by repeat (first | assumption | exact Ag.stN (by assumption) _ _ | refine Ag.updk ?_ (by omega) _))
              · exact (by repeat (first | exact FrN.rfl' _ _ _ | assumption | refine FrN.updk ?_ (by omega) _ | refine FrN.stH ?_ _))
              · exact g1 h2
              · rw [← hw]; exact (walkL_go hi' h2).symm
            · simp only [go_sem, s17]; omega
          | false =>
            rw [h2, epl] at g3
            rw [walkL_stop hi' h2] at hw
            rw [← hw]
            dsimp only
            repeat' (first | refine awp_seq_k fun K hK => ?_ | ((first | refine awp_region_k (by kernel_rfl) fun R hR => ?_ | refine awp_draw mixed (by kernel_rfl) (by kernel_rfl) fun R hR => ?_); simp only [go_sem, s1', s2, s15, s16, s17, hz, e1, epl, hN1, hN2, hN3, hN4, hN5, fN, hnn, Nat.reduceBEq, ite_self, implies_true, Int.toNat_natCast]) | ((first | (refine hR _ ?_; clear hR R) | refine awp_skip ?_ | refine awp_exit ?_ | refine awp_ret ?_); try simp only [thenA, inBlockA, reduceIte, reduceCtorEq, Nat.reduceEqDiff, if_false, if_true]) | ((first | refine hK _ ?_ | (clear hK K; first | refine hK _ ?_ | (clear hK K; first | refine hK _ ?_ | (clear hK K; first | refine hK _ ?_ | (clear hK K; refine hK _ ?_))))); clear hK K) | refine awp_true rfl rfl ?_ | refine awp_false rfl rfl ?_ | refine awp_block ?_ | ((first | refine CallK.chg (enter122) (g3) ?_ (by assumption) (by repeat (first | exact Fr.rfl' _ _ | assumption | refine Fr.updk ?_ (by omega) _)) ?_ | refine CallD.chg (enter122) (g3) ?_ (by assumption) (by repeat (first | exact Fr.rfl' _ _ | assumption | refine Fr.updk ?_ (by omega) _)) (by assumption) ?_); (focus first | ((repeat (first | exact trivial | refine ⟨(by first | exact Or.inl rfl | exact Or.inr rfl), ?_⟩)); done) | (simp only [coL, AV.dat, true_or, or_true, AV.d.injEq, go_sem]; done)); simp only [go_sem, s1', s2, s15, s16, s17, hz, e1, epl, hN1, hN2, hN3, hN4, hN5, fN, hnn, Nat.reduceBEq, ite_self, implies_true, Int.toNat_natCast]) | ((first | refine CallK.new rfl (enter144) (clone_ints pl (by omega)) ?_ ?_ ?_ | refine CallD.new rfl (enter144) (clone_ints pl (by omega)) ?_ ?_ ?_); (focus first | ((repeat (first | exact trivial | refine ⟨(by first | exact Or.inl rfl | exact Or.inr rfl), ?_⟩)); done) | (simp only [coL, AV.dat, true_or, or_true, AV.d.injEq, go_sem]; done)); (focus (simp only [go_sem, s1', s2, s15, s16, s17, hz, e1, epl, hN1, hN2, hN3, hN4, hN5, fN, hnn, Nat.reduceBEq, ite_self, implies_true, Int.toNat_natCast]; done)); simp only [go_sem, s1', s2, s15, s16, s17, hz, e1, epl, hN1, hN2, hN3, hN4, hN5, fN, hnn, Nat.reduceBEq, ite_self, implies_true, Int.toNat_natCast]) | refine And.intro (by first | ((repeat' first | omega | exact trivial | rfl | assumption | (intro a e; subst e; rfl) | exact map_sz fun a => (by simp only [go_sem]) | refine And.intro ?_ ?_); done) | fail) ?_ | fail)
            refine ret_st (by simp only [Try.results122, resOkL, resOk, Try.ntmps122, List.toList_toArray]; first | decide | (simp only [go_sem]; done) | (simp only [go_sem]; and_intros <;> first | omega | rfl | decide)) ?_ (by repeat (first | assumption | exact Ag.stN (by assumption) _ _ | refine Ag.updk ?_ (by omega) _)) (by repeat (first | exact FrN.rfl' _ _ _ | assumption | refine FrN.updk ?_ (by omega) _ | refine FrN.stH ?_ _)) (by assumption)
            simp only [resA, resV, Try.results122, go_sem]
            all_goals try (first | exact .dat rfl | exact Co.t2 (.dat rfl) (.dat rfl) | exact Co.t3 (.dat rfl) (.dat rfl) (.dat rfl))
        · have hz : ¬ ((i : Int) < (t.us.length : Int)) := by omega
          have hw' : walkL step t.us s1 = (true, si) := by rw [← hw, List.drop_eq_nil_of_le hge]; rw [walkL]
          have hcl := hN si k hlt
          repeat' (first | refine awp_seq_k fun K hK => ?_ | ((first | refine awp_region_k (by kernel_rfl) fun R hR => ?_ | refine awp_draw mixed (by kernel_rfl) (by kernel_rfl) fun R hR => ?_); simp only [go_sem, s16, s17, hz]) | ((first | (refine hR _ ?_; clear hR R) | refine awp_skip ?_ | refine awp_exit ?_ | refine awp_ret ?_); try simp only [thenA, inBlockA, reduceIte, reduceCtorEq, Nat.reduceEqDiff, if_false, if_true]) | ((first | refine hK _ ?_ | (clear hK K; first | refine hK _ ?_ | (clear hK K; first | refine hK _ ?_ | (clear hK K; first | refine hK _ ?_ | (clear hK K; refine hK _ ?_))))); clear hK K) | refine awp_true rfl rfl ?_ | refine awp_false rfl rfl ?_ | refine awp_block ?_ | refine And.intro (by first | ((repeat' first | omega | exact trivial | rfl | assumption | (intro a e; subst e; rfl) | exact map_sz fun a => (by simp only [go_sem]) | refine And.intro ?_ ?_); done) | fail) ?_ | fail)
          rw [hw']
          dsimp only
          refine ret_st (by simp only [Try.results122, resOkL, resOk, Try.ntmps122, List.toList_toArray]; first | decide | (simp only [go_sem]; done) | (simp only [go_sem]; and_intros <;> first | omega | rfl | decide)) ?_ (by repeat (first | assumption | exact Ag.stN (by assumption) _ _ | refine Ag.updk ?_ (by omega) _)) (by repeat (first | exact FrN.rfl' _ _ _ | assumption | refine FrN.updk ?_ (by omega) _ | refine FrN.stH ?_ _)) (by assumption)
          simp only [resA, resV, Try.results122, go_sem]
          all_goals try (first | exact .dat rfl | exact Co.t2 (.dat rfl) (.dat rfl) | exact Co.t3 (.dat rfl) (.dat rfl) (.dat rfl))
theorem walk_any : ∀ t : Tm, WalkSpec O N g caps step I t := Tm.ind (walk_step O N g caps step I hN hg hne)
set_option maxRecDepth 20000 in
theorem walk_tri (t : Tm) (hdo : ∀ x ∈ pre t, DoOK O N g caps step I x) (n : Nat) (s : S) (hI : I (t.size + n) s) (hsz : t.size ≤ 4000000) : Tri Try.prog 96 [.d (tmDV t), .fn (.func g) [] caps] (stE N (O s) (O (walkS step t s).2) (bA (walkS step t s).1)) := by
  have h1 := (walk_any O N g caps step I hN hg hne t hdo n s hI).2 [] (by simpa using hsz)
  refine tri_enter_st Try.func96 rfl Try.ntmps96 (by simp only [List.length_cons, List.length_nil]; omega) fun w0 h0 k hag => ?_
  have hlt : ∀ n ∈ N, n.1 < k := fun n hn => (hag.get n hn).1
  have hNk := notN hag (Nat.le_refl k)
  have hNk1 := notN hag (k' := k + 1) (by omega)
  have hcl := hN (walkS step t s).2 k hlt
  repeat' (first | refine awp_seq_k fun K hK => ?_ | ((first | refine awp_region_k (by kernel_rfl) fun R hR => ?_ | refine awp_draw mixed (by kernel_rfl) (by kernel_rfl) fun R hR => ?_); simp only [go_sem, hNk, hNk1]) | ((first | (refine hR _ ?_; clear hR R) | refine awp_skip ?_ | refine awp_exit ?_ | refine awp_ret ?_); try simp only [thenA, inBlockA, reduceIte, reduceCtorEq, Nat.reduceEqDiff, if_false, if_true]) | ((first | refine hK _ ?_ | (clear hK K; first | refine hK _ ?_ | (clear hK K; first | refine hK _ ?_ | (clear hK K; first | refine hK _ ?_ | (clear hK K; refine hK _ ?_))))); clear hK K) | refine awp_true rfl rfl ?_ | refine awp_false rfl rfl ?_ | refine awp_block ?_ | ((first | refine CallK.chg (enter122) (h1) ?_ (by assumption) (by repeat (first | exact Fr.rfl' _ _ | assumption | refine Fr.updk ?_ (by omega) _)) ?_ | refine CallD.chg (enter122) (h1) ?_ (by assumption) (by repeat (first | exact Fr.rfl' _ _ | assumption | refine Fr.updk ?_ (by omega) _)) (by assumption) ?_); (focus first | ((repeat (first | exact trivial | refine ⟨(by first | exact Or.inl rfl | exact Or.inr rfl), ?_⟩)); done) | (simp only [coL, AV.dat, true_or, or_true, AV.d.injEq, go_sem]; done)); simp only [go_sem, hNk, hNk1]) | refine And.intro (by first | ((repeat' first | omega | exact trivial | rfl | assumption | (intro a e; subst e; rfl) | exact map_sz fun a => (by simp only [go_sem]) | refine And.intro ?_ ?_); done) | fail) ?_ | fail)
  refine ret_st (by simp only [Try.results96, resOkL, resOk, Try.ntmps96, List.toList_toArray]; first | decide | (simp only [go_sem]; done) | (simp only [go_sem]; and_intros <;> first | omega | rfl | decide)) ?_ (by repeat (first | assumption | exact Ag.stN (by assumption) _ _ | refine Ag.updk ?_ (by omega) _)) (by repeat (first | exact FrN.rfl' _ _ _ | assumption | refine FrN.updk ?_ (by omega) _ | refine FrN.stH ?_ _)) (by assumption)
  simp only [resA, resV, Try.results96, go_sem]
  all_goals try (first | exact .dat rfl | exact Co.t2 (.dat rfl) (.dat rfl) | exact Co.t3 (.dat rfl) (.dat rfl) (.dat rfl))
end
end Go.Proofs.Ytmeekpinkfpnhab
namespace Go.Proofs.Ytmeekpinkfpnhab
open Go.RowKit
def eqS {S : Type} (step : Tm → Tm → S → Bool × S) : List Tm → List Tm → S → Bool × S
  | x :: xs, y :: ys, s => if (step x y s).1 = true then eqS step xs ys (step x y s).2 else (false, (step x y s).2)
  | _, _, s => (true, s)
theorem eqS_go {S : Type} {step : Tm → Tm → S → Bool × S} {xs ys : List Tm} {i : Nat} (hi : i < xs.length) (hi' : i < ys.length) {s : S} (h : (step xs[i] ys[i] s).1 = true) : eqS step (xs.drop i) (ys.drop i) s = eqS step (xs.drop (i + 1)) (ys.drop (i + 1)) (step xs[i] ys[i] s).2 := by
  rw [List.drop_eq_getElem_cons hi, List.drop_eq_getElem_cons hi', eqS, if_pos h]
theorem eqS_stop {S : Type} {step : Tm → Tm → S → Bool × S} {xs ys : List Tm} {i : Nat} (hi : i < xs.length) (hi' : i < ys.length) {s : S} (h : (step xs[i] ys[i] s).1 = false) : eqS step (xs.drop i) (ys.drop i) s = (false, (step xs[i] ys[i] s).2) := by
  rw [List.drop_eq_getElem_cons hi, List.drop_eq_getElem_cons hi', eqS, if_neg (by rw [h]; simp)]
section
variable {S : Type} (O : S → Nm → Ob) (N : List Nm) (g : FuncId) (caps : List AV) (step : Tm → Tm → S → Bool × S) (hN : ∀ s (k : Nat), (∀ n ∈ N, n.1 < k) → Cl k N (O s)) (hg : enterOk Try.prog g)
include hN hg
set_option maxHeartbeats 1000000 in
set_option maxRecDepth 20000 in
theorem equalF_tri (xs ys : List Tm) (hl : xs.length ≤ 4000000) (hdo : ∀ x ∈ xs, ∀ y ∈ ys, ∀ s, Tri Try.prog g ([.d (tmDV x), .d (tmDV y)] ++ caps) (stE N (O s) (O (step x y s).2) (bA (step x y s).1))) (s : S) (r : Bool × S) (hr : r = if xs.length = ys.length then eqS step xs ys s else (false, s)) :
    Tri Try.prog 74 [.d (.sl (xs.map tmDV)), .d (.sl (ys.map tmDV)), .fn (.func g) [] caps] (stE N (O s) (O r.2) (bA r.1)) := by
  refine tri_enter_st Try.func74 rfl Try.ntmps74 (by simp only [List.length_cons, List.length_nil]; omega) fun w0 h0 k hag => ?_
  have hlt0 : ∀ n ∈ N, n.1 < k := fun n hn => (hag.get n hn).1
  cases h1 : ((xs.length : Int) != (ys.length : Int)) with
  | true =>
    rw [if_neg (by simp at h1; omega)] at hr
    subst hr
    have hcl := hN s k hlt0
    repeat' (first | refine awp_seq_k fun K hK => ?_ | ((first | refine awp_region_k (by kernel_rfl) fun R hR => ?_ | refine awp_draw mixed (by kernel_rfl) (by kernel_rfl) fun R hR => ?_); simp only [go_sem, h1]) | ((first | (refine hR _ ?_; clear hR R) | refine awp_skip ?_ | refine awp_exit ?_ | refine awp_ret ?_); try simp only [thenA, inBlockA, reduceIte, reduceCtorEq, Nat.reduceEqDiff, if_false, if_true]) | ((first | refine hK _ ?_ | (clear hK K; first | refine hK _ ?_ | (clear hK K; first | refine hK _ ?_ | (clear hK K; first | refine hK _ ?_ | (clear hK K; refine hK _ ?_))))); clear hK K) | refine awp_true rfl rfl ?_ | refine awp_false rfl rfl ?_ | refine awp_block ?_ | refine And.intro (by first | ((repeat' first | omega | exact trivial | rfl | assumption | (intro a e; subst e; rfl) | exact map_sz fun a => (by simp only [go_sem]) | refine And.intro ?_ ?_); done) | fail) ?_ | fail)
    refine ret_st (by simp only [Try.results74, resOkL, resOk, Try.ntmps74, List.toList_toArray]; first | decide | (simp only [go_sem]; done) | (simp only [go_sem]; and_intros <;> first | omega | rfl | decide)) ?_ (by repeat (first | assumption | exact Ag.stN (by assumption) _ _ | refine Ag.updk ?_ (by omega) _)) (by repeat (first | exact FrN.rfl' _ _ _ | assumption | refine FrN.updk ?_ (by omega) _ | refine FrN.stH ?_ _)) (by assumption)
    simp only [resA, resV, Try.results74, go_sem]
    all_goals try (first | exact .dat rfl | exact Co.t2 (.dat rfl) (.dat rfl) | exact Co.t3 (.dat rfl) (.dat rfl) (.dat rfl))
  | false =>
    have hll : xs.length = ys.length := by simp at h1; omega
    rw [if_pos hll] at hr
    repeat' (first | refine awp_seq_k fun K hK => ?_ | ((first | refine awp_region_k (by kernel_rfl) fun R hR => ?_ | refine awp_draw mixed (by kernel_rfl) (by kernel_rfl) fun R hR => ?_); simp only [go_sem, h1]) | ((first | (refine hR _ ?_; clear hR R) | refine awp_skip ?_ | refine awp_exit ?_ | refine awp_ret ?_); try simp only [thenA, inBlockA, reduceIte, reduceCtorEq, Nat.reduceEqDiff, if_false, if_true]) | ((first | refine hK _ ?_ | (clear hK K; first | refine hK _ ?_ | (clear hK K; first | refine hK _ ?_ | (clear hK K; first | refine hK _ ?_ | (clear hK K; refine hK _ ?_))))); clear hK K) | refine awp_true rfl rfl ?_ | refine awp_false rfl rfl ?_ | refine awp_block ?_ | refine And.intro (by first | ((repeat' first | omega | exact trivial | rfl | assumption | (intro a e; subst e; rfl) | exact map_sz fun a => (by simp only [go_sem]) | refine And.intro ?_ ?_); done) | fail) ?_ | fail)
    refine awp_loop (fun σ => ∃ (i : Nat) (si : S), σ.t 1 = .d (.sl (ys.map tmDV)) ∧ σ.t 2 = .fn (.func g) [] caps ∧ σ.t 15 = .d (.sl (xs.map tmDV)) ∧ σ.t 16 = iA xs.length ∧ σ.t 17 = iA i ∧ Ag k N (O si) σ.h ∧ FrN k N h0 σ.h ∧ k < σ.k ∧ i ≤ xs.length ∧ eqS step (xs.drop i) (ys.drop i) si = r) (fun σ => xs.length - (intOf' (σ.t 17)).toNat) ?_ ?_
    · refine ⟨0, s, ?_⟩
      simp only [go_sem, List.drop_zero]
      and_intros; all_goals try (first | rfl | omega | assumption | ((repeat (first | exact Fr.rfl' _ _ | assumption | refine Fr.updk ?_ (by omega) _)); done))
      all_goals first | exact hr.symm | exact FrN.rfl' _ _ _
    · rintro σ ⟨i, si, s1, s2, s15, s16, s17, hA, hF, hk, hi, hv⟩
      rcases Nat.lt_or_ge i xs.length with hlt | hge
      · have hlt' : i < ys.length := by omega
        have hz : (i : Int) < (xs.length : Int) := by omega
        have hz' : (i : Int) < (ys.length : Int) := by omega
        have e1 : (xs.map tmDV).getD i default = tmDV xs[i] := nth_map tmDV hlt _
        have e2 : (ys.map tmDV).getD i default = tmDV ys[i] := nth_map tmDV hlt' _
        have hN1 := notN hag (k' := σ.k + 1) (by omega)
        have hN2 := notN hag (k' := σ.k + 1 + 1) (by omega)
        have hT := hdo _ (List.getElem_mem hlt) _ (List.getElem_mem hlt') si
        have hcl := hN (step xs[i] ys[i] si).2 k hlt0
        cases h2 : (step xs[i] ys[i] si).1 with
        | true =>
          rw [h2] at hT
          rw [eqS_go hlt hlt' h2] at hv
          repeat' (first | refine awp_seq_k fun K hK => ?_ | ((first | refine awp_region_k (by kernel_rfl) fun R hR => ?_ | refine awp_draw mixed (by kernel_rfl) (by kernel_rfl) fun R hR => ?_); simp only [go_sem, s1, s2, s15, s16, s17, hz, hz', e1, e2, hN1, hN2, Int.toNat_natCast]) | ((first | (refine hR _ ?_; clear hR R) | refine awp_skip ?_ | refine awp_exit ?_ | refine awp_ret ?_); try simp only [thenA, inBlockA, reduceIte, reduceCtorEq, Nat.reduceEqDiff, if_false, if_true]) | ((first | refine hK _ ?_ | (clear hK K; first | refine hK _ ?_ | (clear hK K; first | refine hK _ ?_ | (clear hK K; first | refine hK _ ?_ | (clear hK K; refine hK _ ?_))))); clear hK K) | refine awp_true rfl rfl ?_ | refine awp_false rfl rfl ?_ | refine awp_block ?_ | ((first | refine CallK.vchg rfl (hg) (hT) ?_ (by assumption) (by repeat (first | exact Fr.rfl' _ _ | assumption | refine Fr.updk ?_ (by omega) _)) ?_ | refine CallD.vchg rfl (hg) (hT) ?_ (by assumption) (by repeat (first | exact Fr.rfl' _ _ | assumption | refine Fr.updk ?_ (by omega) _)) (by assumption) ?_); (focus first | ((repeat (first | exact trivial | refine ⟨(by first | exact Or.inl rfl | exact Or.inr rfl), ?_⟩)); done) | (simp only [coL, AV.dat, true_or, or_true, AV.d.injEq, go_sem]; done)); simp only [go_sem, s1, s2, s15, s16, s17, hz, hz', e1, e2, hN1, hN2, Int.toNat_natCast]) | refine And.intro (by first | ((repeat' first | omega | exact trivial | rfl | assumption | (intro a e; subst e; rfl) | exact map_sz fun a => (by simp only [go_sem]) | refine And.intro ?_ ?_); done) | fail) ?_ | fail)
          refine ⟨⟨i + 1, (step xs[i] ys[i] si).2, ?_⟩, ?_⟩
          · simp only [go_sem, s1, s2, s15, s16, s17]
            and_intros; all_goals try (first | rfl | omega | assumption | ((repeat (first | exact Fr.rfl' _ _ | assumption | refine Fr.updk ?_ (by omega) _)); done))
            · exact (by repeat (first | assumption | exact Ag.stN (by assumption) _ _ | refine Ag.updk ?_ (by omega) _))
            · exact (by repeat (first | exact FrN.rfl' _ _ _ | assumption | refine FrN.updk ?_ (by omega) _ | refine FrN.stH ?_ _))
          · simp only [go_sem, s17]; omega
        | false =>
          rw [h2] at hT
          rw [eqS_stop hlt hlt' h2] at hv
          subst hv
          dsimp only
          repeat' (first | refine awp_seq_k fun K hK => ?_ | ((first | refine awp_region_k (by kernel_rfl) fun R hR => ?_ | refine awp_draw mixed (by kernel_rfl) (by kernel_rfl) fun R hR => ?_); simp only [go_sem, s1, s2, s15, s16, s17, hz, hz', e1, e2, hN1, hN2, Int.toNat_natCast]) | ((first | (refine hR _ ?_; clear hR R) | refine awp_skip ?_ | refine awp_exit ?_ | refine awp_ret ?_); try simp only [thenA, inBlockA, reduceIte, reduceCtorEq, Nat.reduceEqDiff, if_false, if_true]) | ((first | refine hK _ ?_ | (clear hK K; first | refine hK _ ?_ | (clear hK K; first | refine hK _ ?_ | (clear hK K; first | refine hK _ ?_ | (clear hK K; refine hK _ ?_))))); clear hK K) | refine awp_true rfl rfl ?_ | refine awp_false rfl rfl ?_ | refine awp_block ?_ | ((first | refine CallK.vchg rfl (hg) (hT) ?_ (by assumption) (by repeat (first | exact Fr.rfl' _ _ | assumption | refine Fr.updk ?_ (by omega) _)) ?_ | refine CallD.vchg rfl (hg) (hT) ?_ (by assumption) (by repeat (first | exact Fr.rfl' _ _ | assumption | refine Fr.updk ?_ (by omega) _)) (by assumption) ?_); (focus first | ((repeat (first | exact trivial | refine ⟨(by first | exact Or.inl rfl | exact Or.inr rfl), ?_⟩)); done) | (simp only [coL, AV.dat, true_or, or_true, AV.d.injEq, go_sem]; done)); simp only [go_sem, s1, s2, s15, s16, s17, hz, hz', e1, e2, hN1, hN2, Int.toNat_natCast]) | refine And.intro (by first | ((repeat' first | omega | exact trivial | rfl | assumption | (intro a e; subst e; rfl) | exact map_sz fun a => (by simp only [go_sem]) | refine And.intro ?_ ?_); done) | fail) ?_ | fail)
          refine ret_st (by simp only [Try.results74, resOkL, resOk, Try.ntmps74, List.toList_toArray]; first | decide | (simp only [go_sem]; done) | (simp only [go_sem]; and_intros <;> first | omega | rfl | decide)) ?_ (by repeat (first | assumption | exact Ag.stN (by assumption) _ _ | refine Ag.updk ?_ (by omega) _)) (by repeat (first | exact FrN.rfl' _ _ _ | assumption | refine FrN.updk ?_ (by omega) _ | refine FrN.stH ?_ _)) (by assumption)
          simp only [resA, resV, Try.results74, go_sem]
          all_goals try (first | exact .dat rfl | exact Co.t2 (.dat rfl) (.dat rfl) | exact Co.t3 (.dat rfl) (.dat rfl) (.dat rfl))
      · have hz : ¬ ((i : Int) < (xs.length : Int)) := by omega
        have hv' : r = (true, si) := by rw [← hv, List.drop_eq_nil_of_le hge]; rfl
        have hcl := hN si k hlt0
        repeat' (first | refine awp_seq_k fun K hK => ?_ | ((first | refine awp_region_k (by kernel_rfl) fun R hR => ?_ | refine awp_draw mixed (by kernel_rfl) (by kernel_rfl) fun R hR => ?_); simp only [go_sem, s16, s17, hz]) | ((first | (refine hR _ ?_; clear hR R) | refine awp_skip ?_ | refine awp_exit ?_ | refine awp_ret ?_); try simp only [thenA, inBlockA, reduceIte, reduceCtorEq, Nat.reduceEqDiff, if_false, if_true]) | ((first | refine hK _ ?_ | (clear hK K; first | refine hK _ ?_ | (clear hK K; first | refine hK _ ?_ | (clear hK K; first | refine hK _ ?_ | (clear hK K; refine hK _ ?_))))); clear hK K) | refine awp_true rfl rfl ?_ | refine awp_false rfl rfl ?_ | refine awp_block ?_ | refine And.intro (by first | ((repeat' first | omega | exact trivial | rfl | assumption | (intro a e; subst e; rfl) | exact map_sz fun a => (by simp only [go_sem]) | refine And.intro ?_ ?_); done) | fail) ?_ | fail)
        rw [hv']
        dsimp only
        refine ret_st (by simp only [Try.results74, resOkL, resOk, Try.ntmps74, List.toList_toArray]; first | decide | (simp only [go_sem]; done) | (simp only [go_sem]; and_intros <;> first | omega | rfl | decide)) ?_ (by repeat (first | assumption | exact Ag.stN (by assumption) _ _ | refine Ag.updk ?_ (by omega) _)) (by repeat (first | exact FrN.rfl' _ _ _ | assumption | refine FrN.updk ?_ (by omega) _ | refine FrN.stH ?_ _)) (by assumption)
        simp only [resA, resV, Try.results74, go_sem]
        all_goals try (first | exact .dat rfl | exact Co.t2 (.dat rfl) (.dat rfl) | exact Co.t3 (.dat rfl) (.dat rfl) (.dat rfl))
end
theorem meetL_eqS (xs ys : List Tm) (b : Bs) : meetL xs ys b = eqS meet xs ys b := by
  induction xs generalizing ys b with
  | nil => cases ys <;> rfl
  | cons x xs ih =>
    cases ys with
    | nil => rfl
    | cons y ys => rw [meetL, eqS, ih]
end Go.Proofs.Ytmeekpinkfpnhab
namespace Go.Proofs.Ytmeekpinkfpnhab
open Go.RowKit
attribute [go_sem] effLook okLook effPut okPut askM mapEs isMapO isNilM isI64
@[go_sem] theorem mapTii : mapT Try.prog 105 = some 3 := by kernel_rfl
@[go_sem] theorem zeroDi : zeroD Try.prog 3 = .d (.v (.int .i64 0)) := by kernel_rfl
theorem getM_put (k k' : Int) (x : DV) : ∀ es : List (Int × DV), getM k' (putM k x es) = if k' = k then some x else getM k' es
  | [] => by
    unfold putM
    simp only [getM]
  | p :: m => by
    unfold putM
    by_cases h : k = p.1
    · rw [if_pos h]
      simp only [getM]
      by_cases h2 : k' = k
      · rw [if_pos h2, if_pos h2]
      · rw [if_neg h2, if_neg h2, if_neg (by rw [← h]; exact h2)]
    · rw [if_neg h]
      simp only [getM]
      rw [getM_put k k' x m]
      by_cases h2 : k' = p.1
      · rw [if_pos h2, if_pos h2, if_neg (by rintro rfl; exact h h2)]
      · rw [if_neg h2, if_neg h2]
end Go.Proofs.Ytmeekpinkfpnhab
