/- Texts: clauses checked, clauses compared (as elsewhere, for a seat that has little else). -/
import Derived.Test.YtmeekpinkfpnhabDoorP07
import Derived.Test.YtmeekpinkfpnhabDoorP09
set_option linter.all false
namespace Go.Proofs.YtmeekpinkfpnhabDoor
open Go.RowKit
theorem litL_at {g : List Int} {c : List Lt} {i : Nat} (hi : i < c.length) : litL g (c.drop i) = if own g c[i].a ≠ 0 then own g c[i].a else if own g c[i].b ≠ 0 then own g c[i].b else litL g (c.drop (i + 1)) := by
 rw [List.drop_eq_getElem_cons hi, litL]
set_option maxRecDepth 20000 in
theorem right_tri (g : List Int) (c : List Lt) (hc : c.length ≤ 4000000) : Tri Tryd.prog 23 [.d (sgDV g), .d (clDV c)] (pure' (iA (clOk g c))) := by
 refine tri_enter Tryd.func23 rfl Tryd.ntmps23 (by simp only [List.length_cons, List.length_nil]; omega) fun w0 h0 k hrd hwr => ?_
 unfold clOk
 cases h8 : decide ((c.length : Int) > 8) with
 | true =>
  have h8' : c.length > 8 := by simp at h8; omega
  rw [if_pos h8']
  repeat' (first | refine awp_seq_k fun K hK => ?_ | ((first | refine awp_region_k (by kernel_rfl) fun R hR => ?_ | refine awp_draw mixed (by kernel_rfl) (by kernel_rfl) fun R hR => ?_); simp only [go_sem, h8]) | ((first | (refine hR _ ?_; clear hR R) | refine awp_skip ?_ | refine awp_exit ?_ | refine awp_ret ?_); try simp only [thenA, inBlockA, reduceIte, reduceCtorEq, Nat.reduceEqDiff, if_false, if_true]) | ((first | refine hK _ ?_ | (clear hK K; first | refine hK _ ?_ | (clear hK K; first | refine hK _ ?_ | (clear hK K; first | refine hK _ ?_ | (clear hK K; refine hK _ ?_))))); clear hK K) | refine awp_true rfl rfl ?_ | refine awp_false rfl rfl ?_ | refine awp_block ?_ | refine And.intro (by first | ((repeat' first | omega | exact trivial | rfl | assumption | (intro a e; subst e; rfl) | exact map_sz fun a => (by simp only [go_sem]) | refine And.intro ?_ ?_); done) | fail) ?_ | fail)
  (first | refine ret_pure ?_ ?_ ?_ | refine ret_ro ?_ ?_ ?_); focus exact (by simp only [Tryd.results23, resOkL, resOk, Tryd.ntmps23, List.toList_toArray]; first | decide | (simp only [go_sem]; done) | (simp only [go_sem]; and_intros <;> first | omega | rfl | decide))
  rotate_left; focus exact (by repeat (first | exact Fr.rfl' _ _ | assumption | refine Fr.updk ?_ (by omega) _))
  simp only [resA, resV, Tryd.results23, go_sem]
  all_goals try (first | exact Co.t2 (.dat rfl) (.dat rfl) | exact Co.t3 (.dat rfl) (.dat rfl) (.dat rfl))
  exact .dat rfl
 | false =>
  have h8' : ¬ c.length > 8 := by simp at h8; omega
  rw [if_neg h8']
  repeat' (first | refine awp_seq_k fun K hK => ?_ | ((first | refine awp_region_k (by kernel_rfl) fun R hR => ?_ | refine awp_draw mixed (by kernel_rfl) (by kernel_rfl) fun R hR => ?_); simp only [go_sem, h8]) | ((first | (refine hR _ ?_; clear hR R) | refine awp_skip ?_ | refine awp_exit ?_ | refine awp_ret ?_); try simp only [thenA, inBlockA, reduceIte, reduceCtorEq, Nat.reduceEqDiff, if_false, if_true]) | ((first | refine hK _ ?_ | (clear hK K; first | refine hK _ ?_ | (clear hK K; first | refine hK _ ?_ | (clear hK K; first | refine hK _ ?_ | (clear hK K; refine hK _ ?_))))); clear hK K) | refine awp_true rfl rfl ?_ | refine awp_false rfl rfl ?_ | refine awp_block ?_ | refine And.intro (by first | ((repeat' first | omega | exact trivial | rfl | assumption | (intro a e; subst e; rfl) | exact map_sz fun a => (by simp only [go_sem]) | refine And.intro ?_ ?_); done) | fail) ?_ | fail)
  refine awp_loop (fun σ => ∃ i : Nat, σ.t 2 = .ptr (k, 0) 0 ∧ σ.t 13 = .d (clDV c) ∧ σ.t 14 = iA c.length ∧ σ.t 15 = iA i ∧ σ.h (k, 0) = some (.cells 24 [.d (.sl (g.map iD))]) ∧ Fr k h0 σ.h ∧ k < σ.k ∧ i ≤ c.length ∧ litL g (c.drop i) = litL g c) (fun σ => c.length - (intOf' (σ.t 15)).toNat) ?_ ?_
  ·refine ⟨0, ?_⟩
   simp only [go_sem, List.drop_zero]
   and_intros; all_goals try (first | rfl | omega | assumption | ((repeat (first | exact Fr.rfl' _ _ | assumption | refine Fr.updk ?_ (by omega) _)); done))
  ·rintro σ ⟨i, s2, s13, s14, s15, sh, hF, hk, hi, hv⟩
   have hne := ltne hk
   rcases Nat.lt_or_ge i c.length with hlt | hge
   ·have hz : (i : Int) < (c.length : Int) := by omega
    have e1 : (c.map ltDV).getD i default = ltDV c[i] := nth_map ltDV hlt _
    rw [litL_at hlt] at hv
    repeat' (first | refine awp_seq_k fun K hK => ?_ | ((first | refine awp_region_k (by kernel_rfl) fun R hR => ?_ | refine awp_draw mixed (by kernel_rfl) (by kernel_rfl) fun R hR => ?_); simp only [go_sem, s2, s13, s14, s15, sh, hz, e1, hne, Int.toNat_natCast]) | ((first | (refine hR _ ?_; clear hR R) | refine awp_skip ?_ | refine awp_exit ?_ | refine awp_ret ?_); try simp only [thenA, inBlockA, reduceIte, reduceCtorEq, Nat.reduceEqDiff, if_false, if_true]) | ((first | refine hK _ ?_ | (clear hK K; first | refine hK _ ?_ | (clear hK K; first | refine hK _ ?_ | (clear hK K; first | refine hK _ ?_ | (clear hK K; refine hK _ ?_))))); clear hK K) | refine awp_true rfl rfl ?_ | refine awp_false rfl rfl ?_ | refine awp_block ?_ | refine And.intro (by first | ((repeat' first | omega | exact trivial | rfl | assumption | (intro a e; subst e; rfl) | exact map_sz fun a => (by simp only [go_sem]) | refine And.intro ?_ ?_); done) | fail) ?_ | fail)
    refine awp_loop (fun τ => ∃ j : Nat, τ.t 2 = .ptr (k, 0) 0 ∧ τ.t 13 = .d (clDV c) ∧ τ.t 14 = iA c.length ∧ τ.t 15 = iA i ∧ τ.t 23 = .own (σ.k + 1 + 1, 4) ([c[i].a, c[i].b].map tmDV) ∧ τ.t 24 = iA 2 ∧ τ.t 25 = iA j ∧ τ.h (k, 0) = some (.cells 24 [.d (.sl (g.map iD))]) ∧ Fr k h0 τ.h ∧ k < τ.k ∧ j ≤ 2 ∧ ownL g ([c[i].a, c[i].b].drop j) = ownL g [c[i].a, c[i].b]) (fun τ => 2 - (intOf' (τ.t 25)).toNat) ?_ ?_
    ·refine ⟨0, ?_⟩
     simp only [go_sem, List.drop_zero, s2, s13, s14, s15, sh, hne]
     and_intros; all_goals try (first | rfl | omega | assumption | ((repeat (first | exact Fr.rfl' _ _ | assumption | refine Fr.updk ?_ (by omega) _)); done))
    ·rintro τ ⟨j, u2, u13, u14, u15, u23, u24, u25, uh, uF, uk, uj, uv⟩
     have hne' := ltne uk
     rcases Nat.lt_or_ge j 2 with hlt' | hge'
     ·have hz' : (j : Int) < 2 := by omega
      have hj : j < [c[i].a, c[i].b].length := hlt'
      have e2 : ([c[i].a, c[i].b].map tmDV).getD j default = tmDV [c[i].a, c[i].b][j] := nth_map tmDV hj _
      have e3 : ([c[i].a, c[i].b].map tmDV).length = 2 := rfl
      rw [List.drop_eq_getElem_cons hj, ownL] at uv
      generalize hel : [c[i].a, c[i].b].map tmDV = el at *
      cases ha : own g [c[i].a, c[i].b][j] == 0 with
      | true =>
       have ha' : own g [c[i].a, c[i].b][j] = 0 := by simpa using ha
       rw [if_neg (by simp [ha'])] at uv
       repeat' (first | refine awp_seq_k fun K hK => ?_ | ((first | refine awp_region_k (by kernel_rfl) fun R hR => ?_ | refine awp_draw mixed (by kernel_rfl) (by kernel_rfl) fun R hR => ?_); simp only [go_sem, u2, u23, u24, u25, uh, hz', e2, e3, hne', ha', bne_self_eq_false, Int.toNat_natCast]) | ((first | (refine hR _ ?_; clear hR R) | refine awp_skip ?_ | refine awp_exit ?_ | refine awp_ret ?_); try simp only [thenA, inBlockA, reduceIte, reduceCtorEq, Nat.reduceEqDiff, if_false, if_true]) | ((first | refine hK _ ?_ | (clear hK K; first | refine hK _ ?_ | (clear hK K; first | refine hK _ ?_ | (clear hK K; first | refine hK _ ?_ | (clear hK K; refine hK _ ?_))))); clear hK K) | refine awp_true rfl rfl ?_ | refine awp_false rfl rfl ?_ | refine awp_block ?_ | ((first | refine CallK.pure (enter34) (own_tri g [c[i].a, c[i].b][j]) ?_ ?_ | refine CallD.pure (enter34) (own_tri g [c[i].a, c[i].b][j]) ?_ ?_); (focus first | ((repeat (first | exact trivial | refine ⟨(by first | exact Or.inl rfl | exact Or.inr rfl), ?_⟩)); done) | (simp only [coL, AV.dat, true_or, or_true, AV.d.injEq, go_sem]; done)); simp only [go_sem, u2, u23, u24, u25, uh, hz', e2, e3, hne', ha', bne_self_eq_false, Int.toNat_natCast]) | refine And.intro (by first | ((repeat' first | omega | exact trivial | rfl | assumption | (intro a e; subst e; rfl) | exact map_sz fun a => (by simp only [go_sem]) | refine And.intro ?_ ?_); done) | fail) ?_ | fail)
       refine ⟨⟨j + 1, ?_⟩, ?_⟩
       rotate_left
       ·simp only [go_sem, u2, u13, u14, u15, u23, u24, u25, uh, hne']; omega
       simp only [go_sem, u2, u13, u14, u15, u23, u24, u25, uh, hne']
       and_intros; all_goals try (first | rfl | omega | assumption | ((repeat (first | exact Fr.rfl' _ _ | assumption | refine Fr.updk ?_ (by omega) _)); done))
      | false =>
       have ha' : (own g [c[i].a, c[i].b][j] != 0) = true := by simpa using ha
       have ha2 : own g [c[i].a, c[i].b][j] ≠ 0 := by simpa using ha
       rw [if_pos ha2] at uv
       have hv' : own g [c[i].a, c[i].b][j] = litL g c := by
        rw [uv, ← hv, ownL, ownL, ownL]
        by_cases h1 : own g c[i].a = 0
        ·by_cases h2 : own g c[i].b = 0
         ·rw [ownL, ownL, ownL] at uv
          simp [h1, h2] at uv
          exact absurd uv ha2
         ·simp [h1, h2]
        ·simp [h1]
       repeat' (first | refine awp_seq_k fun K hK => ?_ | ((first | refine awp_region_k (by kernel_rfl) fun R hR => ?_ | refine awp_draw mixed (by kernel_rfl) (by kernel_rfl) fun R hR => ?_); simp only [go_sem, u2, u23, u24, u25, uh, hz', e2, e3, hne', ha', Int.toNat_natCast]) | ((first | (refine hR _ ?_; clear hR R) | refine awp_skip ?_ | refine awp_exit ?_ | refine awp_ret ?_); try simp only [thenA, inBlockA, reduceIte, reduceCtorEq, Nat.reduceEqDiff, if_false, if_true]) | ((first | refine hK _ ?_ | (clear hK K; first | refine hK _ ?_ | (clear hK K; first | refine hK _ ?_ | (clear hK K; first | refine hK _ ?_ | (clear hK K; refine hK _ ?_))))); clear hK K) | refine awp_true rfl rfl ?_ | refine awp_false rfl rfl ?_ | refine awp_block ?_ | ((first | refine CallK.pure (enter34) (own_tri g [c[i].a, c[i].b][j]) ?_ ?_ | refine CallD.pure (enter34) (own_tri g [c[i].a, c[i].b][j]) ?_ ?_); (focus first | ((repeat (first | exact trivial | refine ⟨(by first | exact Or.inl rfl | exact Or.inr rfl), ?_⟩)); done) | (simp only [coL, AV.dat, true_or, or_true, AV.d.injEq, go_sem]; done)); simp only [go_sem, u2, u23, u24, u25, uh, hz', e2, e3, hne', ha', Int.toNat_natCast]) | refine And.intro (by first | ((repeat' first | omega | exact trivial | rfl | assumption | (intro a e; subst e; rfl) | exact map_sz fun a => (by simp only [go_sem]) | refine And.intro ?_ ?_); done) | fail) ?_ | fail)
       (first | refine ret_pure ?_ ?_ ?_ | refine ret_ro ?_ ?_ ?_); focus exact (by simp only [Tryd.results23, resOkL, resOk, Tryd.ntmps23, List.toList_toArray]; first | decide | (simp only [go_sem]; done) | (simp only [go_sem]; and_intros <;> first | omega | rfl | decide))
       rotate_left; focus exact (by repeat (first | exact Fr.rfl' _ _ | assumption | refine Fr.updk ?_ (by omega) _))
       simp only [resA, resV, Tryd.results23, go_sem]
       all_goals try (first | exact Co.t2 (.dat rfl) (.dat rfl) | exact Co.t3 (.dat rfl) (.dat rfl) (.dat rfl))
       exact co_i hv'
     ·have hz' : ¬ ((j : Int) < 2) := by omega
      obtain rfl : j = 2 := by omega
      have hv' : litL g (c.drop (i + 1)) = litL g c := by
       rw [← hv]
       simp only [ownL, List.drop] at uv
       by_cases h1 : own g c[i].a = 0
       ·by_cases h2 : own g c[i].b = 0
        ·simp [h1, h2]
        ·simp [h1, h2] at uv
         exact absurd uv.symm h2
       ·simp [h1] at uv
        exact absurd uv.symm h1
      repeat' (first | refine awp_seq_k fun K hK => ?_ | ((first | refine awp_region_k (by kernel_rfl) fun R hR => ?_ | refine awp_draw mixed (by kernel_rfl) (by kernel_rfl) fun R hR => ?_); simp only [go_sem, u13, u14, u15, u24, u25, hz']) | ((first | (refine hR _ ?_; clear hR R) | refine awp_skip ?_ | refine awp_exit ?_ | refine awp_ret ?_); try simp only [thenA, inBlockA, reduceIte, reduceCtorEq, Nat.reduceEqDiff, if_false, if_true]) | ((first | refine hK _ ?_ | (clear hK K; first | refine hK _ ?_ | (clear hK K; first | refine hK _ ?_ | (clear hK K; first | refine hK _ ?_ | (clear hK K; refine hK _ ?_))))); clear hK K) | refine awp_true rfl rfl ?_ | refine awp_false rfl rfl ?_ | refine awp_block ?_ | refine And.intro (by first | ((repeat' first | omega | exact trivial | rfl | assumption | (intro a e; subst e; rfl) | exact map_sz fun a => (by simp only [go_sem]) | refine And.intro ?_ ?_); done) | fail) ?_ | fail)
      refine ⟨⟨i + 1, ?_⟩, ?_⟩
      rotate_left
      ·simp only [go_sem, u2, u13, u14, u15, uh, s15]; omega
      simp only [go_sem, u2, u13, u14, u15, uh, s15]
      and_intros; all_goals try (first | rfl | omega | assumption | ((repeat (first | exact Fr.rfl' _ _ | assumption | refine Fr.updk ?_ (by omega) _)); done))
   ·have hz : ¬ ((i : Int) < (c.length : Int)) := by omega
    rw [List.drop_eq_nil_of_le hge, litL] at hv
    repeat' (first | refine awp_seq_k fun K hK => ?_ | ((first | refine awp_region_k (by kernel_rfl) fun R hR => ?_ | refine awp_draw mixed (by kernel_rfl) (by kernel_rfl) fun R hR => ?_); simp only [go_sem, s13, s14, s15, hz]) | ((first | (refine hR _ ?_; clear hR R) | refine awp_skip ?_ | refine awp_exit ?_ | refine awp_ret ?_); try simp only [thenA, inBlockA, reduceIte, reduceCtorEq, Nat.reduceEqDiff, if_false, if_true]) | ((first | refine hK _ ?_ | (clear hK K; first | refine hK _ ?_ | (clear hK K; first | refine hK _ ?_ | (clear hK K; first | refine hK _ ?_ | (clear hK K; refine hK _ ?_))))); clear hK K) | refine awp_true rfl rfl ?_ | refine awp_false rfl rfl ?_ | refine awp_block ?_ | refine And.intro (by first | ((repeat' first | omega | exact trivial | rfl | assumption | (intro a e; subst e; rfl) | exact map_sz fun a => (by simp only [go_sem]) | refine And.intro ?_ ?_); done) | fail) ?_ | fail)
    (first | refine ret_pure ?_ ?_ ?_ | refine ret_ro ?_ ?_ ?_); focus exact (by simp only [Tryd.results23, resOkL, resOk, Tryd.ntmps23, List.toList_toArray]; first | decide | (simp only [go_sem]; done) | (simp only [go_sem]; and_intros <;> first | omega | rfl | decide))
    rotate_left; focus exact (by repeat (first | exact Fr.rfl' _ _ | assumption | refine Fr.updk ?_ (by omega) _))
    simp only [resA, resV, Tryd.results23, go_sem]
    all_goals try (first | exact Co.t2 (.dat rfl) (.dat rfl) | exact Co.t3 (.dat rfl) (.dat rfl) (.dat rfl))
    exact co_i hv
set_option maxRecDepth 20000 in
theorem checkClause_tri (g : List Int) (c : List Lt) (hc : c.length ≤ 4000000) : Tri Tryd.prog 10 [.d (sgDV g), .d (clDV c)] (pure' (iA (clOk g c))) := by
 refine tri_enter Tryd.func10 rfl Tryd.ntmps10 (by simp only [List.length_cons, List.length_nil]; omega) fun w0 h0 k hrd hwr => ?_
 unfold clOk
 cases h8 : decide ((c.length : Int) > 8) with
 | true =>
  have h8' : c.length > 8 := by simp at h8; omega
  rw [if_pos h8']
  repeat' (first | refine awp_seq_k fun K hK => ?_ | ((first | refine awp_region_k (by kernel_rfl) fun R hR => ?_ | refine awp_draw mixed (by kernel_rfl) (by kernel_rfl) fun R hR => ?_); simp only [go_sem, h8]) | ((first | (refine hR _ ?_; clear hR R) | refine awp_skip ?_ | refine awp_exit ?_ | refine awp_ret ?_); try simp only [thenA, inBlockA, reduceIte, reduceCtorEq, Nat.reduceEqDiff, if_false, if_true]) | ((first | refine hK _ ?_ | (clear hK K; first | refine hK _ ?_ | (clear hK K; first | refine hK _ ?_ | (clear hK K; first | refine hK _ ?_ | (clear hK K; refine hK _ ?_))))); clear hK K) | refine awp_true rfl rfl ?_ | refine awp_false rfl rfl ?_ | refine awp_block ?_ | refine And.intro (by first | ((repeat' first | omega | exact trivial | rfl | assumption | (intro a e; subst e; rfl) | exact map_sz fun a => (by simp only [go_sem]) | refine And.intro ?_ ?_); done) | fail) ?_ | fail)
  (first | refine ret_pure ?_ ?_ ?_ | refine ret_ro ?_ ?_ ?_); focus exact (by simp only [Tryd.results10, resOkL, resOk, Tryd.ntmps10, List.toList_toArray]; first | decide | (simp only [go_sem]; done) | (simp only [go_sem]; and_intros <;> first | omega | rfl | decide))
  rotate_left; focus exact (by repeat (first | exact Fr.rfl' _ _ | assumption | refine Fr.updk ?_ (by omega) _))
  simp only [resA, resV, Tryd.results10, go_sem]
  all_goals try (first | exact Co.t2 (.dat rfl) (.dat rfl) | exact Co.t3 (.dat rfl) (.dat rfl) (.dat rfl))
  exact .dat rfl
 | false =>
  have h8' : ¬ c.length > 8 := by simp at h8; omega
  rw [if_neg h8']
  repeat' (first | refine awp_seq_k fun K hK => ?_ | ((first | refine awp_region_k (by kernel_rfl) fun R hR => ?_ | refine awp_draw mixed (by kernel_rfl) (by kernel_rfl) fun R hR => ?_); simp only [go_sem, h8]) | ((first | (refine hR _ ?_; clear hR R) | refine awp_skip ?_ | refine awp_exit ?_ | refine awp_ret ?_); try simp only [thenA, inBlockA, reduceIte, reduceCtorEq, Nat.reduceEqDiff, if_false, if_true]) | ((first | refine hK _ ?_ | (clear hK K; first | refine hK _ ?_ | (clear hK K; first | refine hK _ ?_ | (clear hK K; first | refine hK _ ?_ | (clear hK K; refine hK _ ?_))))); clear hK K) | refine awp_true rfl rfl ?_ | refine awp_false rfl rfl ?_ | refine awp_block ?_ | refine And.intro (by first | ((repeat' first | omega | exact trivial | rfl | assumption | (intro a e; subst e; rfl) | exact map_sz fun a => (by simp only [go_sem]) | refine And.intro ?_ ?_); done) | fail) ?_ | fail)
  refine awp_loop (fun σ => ∃ i : Nat, σ.t 2 = .ptr (k, 0) 0 ∧ σ.t 1 = .d (clDV c) ∧ σ.t 5 = iA i ∧ σ.h (k, 0) = some (.cells 24 [.d (.sl (g.map iD))]) ∧ Fr k h0 σ.h ∧ k < σ.k ∧ i ≤ c.length ∧ litL g (c.drop i) = litL g c) (fun σ => c.length - (intOf' (σ.t 5)).toNat) ?_ ?_
  ·refine ⟨0, ?_⟩
   simp only [go_sem, List.drop_zero]
   and_intros; all_goals try (first | rfl | omega | assumption | ((repeat (first | exact Fr.rfl' _ _ | assumption | refine Fr.updk ?_ (by omega) _)); done))
  ·rintro σ ⟨i, s2, s1, s5, sh, hF, hk, hi, hv⟩
   have hne := ltne hk
   rcases Nat.lt_or_ge i c.length with hlt | hge
   ·have hz : (i : Int) < (c.length : Int) := by omega
    have e1 : (c.map ltDV).getD i default = ltDV c[i] := nth_map ltDV hlt _
    rw [litL_at hlt] at hv
    cases ha : own g c[i].a == 0 with
    | true =>
     have ha' : own g c[i].a = 0 := by simpa using ha
     rw [if_neg (by simp [ha'])] at hv
     cases hb : own g c[i].b == 0 with
     | true =>
      have hb' : own g c[i].b = 0 := by simpa using hb
      rw [if_neg (by simp [hb'])] at hv
      repeat' (first | refine awp_seq_k fun K hK => ?_ | ((first | refine awp_region_k (by kernel_rfl) fun R hR => ?_ | refine awp_draw mixed (by kernel_rfl) (by kernel_rfl) fun R hR => ?_); simp only [go_sem, s2, s1, s5, sh, hz, e1, hne, ha', hb', bne_self_eq_false, beq_self_eq_true, Int.toNat_natCast]) | ((first | (refine hR _ ?_; clear hR R) | refine awp_skip ?_ | refine awp_exit ?_ | refine awp_ret ?_); try simp only [thenA, inBlockA, reduceIte, reduceCtorEq, Nat.reduceEqDiff, if_false, if_true]) | ((first | refine hK _ ?_ | (clear hK K; first | refine hK _ ?_ | (clear hK K; first | refine hK _ ?_ | (clear hK K; first | refine hK _ ?_ | (clear hK K; refine hK _ ?_))))); clear hK K) | refine awp_true rfl rfl ?_ | refine awp_false rfl rfl ?_ | refine awp_block ?_ | ((first | refine CallK.pure (enter25) (checkTerm_tri g c[i].a) ?_ ?_ | refine CallD.pure (enter25) (checkTerm_tri g c[i].a) ?_ ?_); (focus first | ((repeat (first | exact trivial | refine ⟨(by first | exact Or.inl rfl | exact Or.inr rfl), ?_⟩)); done) | (simp only [coL, AV.dat, true_or, or_true, AV.d.injEq, go_sem]; done)); simp only [go_sem, s2, s1, s5, sh, hz, e1, hne, ha', hb', bne_self_eq_false, beq_self_eq_true, Int.toNat_natCast]) | ((first | refine CallK.pure (enter25) (checkTerm_tri g c[i].b) ?_ ?_ | refine CallD.pure (enter25) (checkTerm_tri g c[i].b) ?_ ?_); (focus first | ((repeat (first | exact trivial | refine ⟨(by first | exact Or.inl rfl | exact Or.inr rfl), ?_⟩)); done) | (simp only [coL, AV.dat, true_or, or_true, AV.d.injEq, go_sem]; done)); simp only [go_sem, s2, s1, s5, sh, hz, e1, hne, ha', hb', bne_self_eq_false, beq_self_eq_true, Int.toNat_natCast]) | refine And.intro (by first | ((repeat' first | omega | exact trivial | rfl | assumption | (intro a e; subst e; rfl) | exact map_sz fun a => (by simp only [go_sem]) | refine And.intro ?_ ?_); done) | fail) ?_ | fail)
      refine ⟨⟨i + 1, ?_⟩, ?_⟩
      rotate_left
      ·simp only [go_sem, s2, s1, s5, sh]; omega
      simp only [go_sem, s2, s1, s5, sh]
      and_intros; all_goals try (first | rfl | omega | assumption | ((repeat (first | exact Fr.rfl' _ _ | assumption | refine Fr.updk ?_ (by omega) _)); done))
     | false =>
      have hb' : (own g c[i].b != 0) = true := by simpa using hb
      have hb2 : own g c[i].b ≠ 0 := by simpa using hb
      rw [if_pos hb2] at hv
      repeat' (first | refine awp_seq_k fun K hK => ?_ | ((first | refine awp_region_k (by kernel_rfl) fun R hR => ?_ | refine awp_draw mixed (by kernel_rfl) (by kernel_rfl) fun R hR => ?_); simp only [go_sem, s2, s1, s5, sh, hz, e1, hne, ha', hb', bne_self_eq_false, beq_self_eq_true, Int.toNat_natCast]) | ((first | (refine hR _ ?_; clear hR R) | refine awp_skip ?_ | refine awp_exit ?_ | refine awp_ret ?_); try simp only [thenA, inBlockA, reduceIte, reduceCtorEq, Nat.reduceEqDiff, if_false, if_true]) | ((first | refine hK _ ?_ | (clear hK K; first | refine hK _ ?_ | (clear hK K; first | refine hK _ ?_ | (clear hK K; first | refine hK _ ?_ | (clear hK K; refine hK _ ?_))))); clear hK K) | refine awp_true rfl rfl ?_ | refine awp_false rfl rfl ?_ | refine awp_block ?_ | ((first | refine CallK.pure (enter25) (checkTerm_tri g c[i].a) ?_ ?_ | refine CallD.pure (enter25) (checkTerm_tri g c[i].a) ?_ ?_); (focus first | ((repeat (first | exact trivial | refine ⟨(by first | exact Or.inl rfl | exact Or.inr rfl), ?_⟩)); done) | (simp only [coL, AV.dat, true_or, or_true, AV.d.injEq, go_sem]; done)); simp only [go_sem, s2, s1, s5, sh, hz, e1, hne, ha', hb', bne_self_eq_false, beq_self_eq_true, Int.toNat_natCast]) | ((first | refine CallK.pure (enter25) (checkTerm_tri g c[i].b) ?_ ?_ | refine CallD.pure (enter25) (checkTerm_tri g c[i].b) ?_ ?_); (focus first | ((repeat (first | exact trivial | refine ⟨(by first | exact Or.inl rfl | exact Or.inr rfl), ?_⟩)); done) | (simp only [coL, AV.dat, true_or, or_true, AV.d.injEq, go_sem]; done)); simp only [go_sem, s2, s1, s5, sh, hz, e1, hne, ha', hb', bne_self_eq_false, beq_self_eq_true, Int.toNat_natCast]) | refine And.intro (by first | ((repeat' first | omega | exact trivial | rfl | assumption | (intro a e; subst e; rfl) | exact map_sz fun a => (by simp only [go_sem]) | refine And.intro ?_ ?_); done) | fail) ?_ | fail)
      (first | refine ret_pure ?_ ?_ ?_ | refine ret_ro ?_ ?_ ?_); focus exact (by simp only [Tryd.results10, resOkL, resOk, Tryd.ntmps10, List.toList_toArray]; first | decide | (simp only [go_sem]; done) | (simp only [go_sem]; and_intros <;> first | omega | rfl | decide))
      rotate_left; focus exact (by repeat (first | exact Fr.rfl' _ _ | assumption | refine Fr.updk ?_ (by omega) _))
      simp only [resA, resV, Tryd.results10, go_sem]
      all_goals try (first | exact Co.t2 (.dat rfl) (.dat rfl) | exact Co.t3 (.dat rfl) (.dat rfl) (.dat rfl))
      exact co_i hv
    | false =>
     have ha' : (own g c[i].a != 0) = true := by simpa using ha
     have ha2 : own g c[i].a ≠ 0 := by simpa using ha
     rw [if_pos ha2] at hv
     repeat' (first | refine awp_seq_k fun K hK => ?_ | ((first | refine awp_region_k (by kernel_rfl) fun R hR => ?_ | refine awp_draw mixed (by kernel_rfl) (by kernel_rfl) fun R hR => ?_); simp only [go_sem, s2, s1, s5, sh, hz, e1, hne, ha, ha', Int.toNat_natCast]) | ((first | (refine hR _ ?_; clear hR R) | refine awp_skip ?_ | refine awp_exit ?_ | refine awp_ret ?_); try simp only [thenA, inBlockA, reduceIte, reduceCtorEq, Nat.reduceEqDiff, if_false, if_true]) | ((first | refine hK _ ?_ | (clear hK K; first | refine hK _ ?_ | (clear hK K; first | refine hK _ ?_ | (clear hK K; first | refine hK _ ?_ | (clear hK K; refine hK _ ?_))))); clear hK K) | refine awp_true rfl rfl ?_ | refine awp_false rfl rfl ?_ | refine awp_block ?_ | ((first | refine CallK.pure (enter25) (checkTerm_tri g c[i].a) ?_ ?_ | refine CallD.pure (enter25) (checkTerm_tri g c[i].a) ?_ ?_); (focus first | ((repeat (first | exact trivial | refine ⟨(by first | exact Or.inl rfl | exact Or.inr rfl), ?_⟩)); done) | (simp only [coL, AV.dat, true_or, or_true, AV.d.injEq, go_sem]; done)); simp only [go_sem, s2, s1, s5, sh, hz, e1, hne, ha, ha', Int.toNat_natCast]) | refine And.intro (by first | ((repeat' first | omega | exact trivial | rfl | assumption | (intro a e; subst e; rfl) | exact map_sz fun a => (by simp only [go_sem]) | refine And.intro ?_ ?_); done) | fail) ?_ | fail)
     (first | refine ret_pure ?_ ?_ ?_ | refine ret_ro ?_ ?_ ?_); focus exact (by simp only [Tryd.results10, resOkL, resOk, Tryd.ntmps10, List.toList_toArray]; first | decide | (simp only [go_sem]; done) | (simp only [go_sem]; and_intros <;> first | omega | rfl | decide))
     rotate_left; focus exact (by repeat (first | exact Fr.rfl' _ _ | assumption | refine Fr.updk ?_ (by omega) _))
     simp only [resA, resV, Tryd.results10, go_sem]
     all_goals try (first | exact Co.t2 (.dat rfl) (.dat rfl) | exact Co.t3 (.dat rfl) (.dat rfl) (.dat rfl))
     exact co_i hv
   ·have hz : ¬ ((i : Int) < (c.length : Int)) := by omega
    rw [List.drop_eq_nil_of_le hge, litL] at hv
    repeat' (first | refine awp_seq_k fun K hK => ?_ | ((first | refine awp_region_k (by kernel_rfl) fun R hR => ?_ | refine awp_draw mixed (by kernel_rfl) (by kernel_rfl) fun R hR => ?_); simp only [go_sem, s1, s5, hz]) | ((first | (refine hR _ ?_; clear hR R) | refine awp_skip ?_ | refine awp_exit ?_ | refine awp_ret ?_); try simp only [thenA, inBlockA, reduceIte, reduceCtorEq, Nat.reduceEqDiff, if_false, if_true]) | ((first | refine hK _ ?_ | (clear hK K; first | refine hK _ ?_ | (clear hK K; first | refine hK _ ?_ | (clear hK K; first | refine hK _ ?_ | (clear hK K; refine hK _ ?_))))); clear hK K) | refine awp_true rfl rfl ?_ | refine awp_false rfl rfl ?_ | refine awp_block ?_ | refine And.intro (by first | ((repeat' first | omega | exact trivial | rfl | assumption | (intro a e; subst e; rfl) | exact map_sz fun a => (by simp only [go_sem]) | refine And.intro ?_ ?_); done) | fail) ?_ | fail)
    (first | refine ret_pure ?_ ?_ ?_ | refine ret_ro ?_ ?_ ?_); focus exact (by simp only [Tryd.results10, resOkL, resOk, Tryd.ntmps10, List.toList_toArray]; first | decide | (simp only [go_sem]; done) | (simp only [go_sem]; and_intros <;> first | omega | rfl | decide))
    rotate_left; focus exact (by repeat (first | exact Fr.rfl' _ _ | assumption | refine Fr.updk ?_ (by omega) _))
    simp only [resA, resV, Tryd.results10, go_sem]
    all_goals try (first | exact Co.t2 (.dat rfl) (.dat rfl) | exact Co.t3 (.dat rfl) (.dat rfl) (.dat rfl))
    exact co_i hv
def sameC : List Lt → List Lt → Bool
 | [], [] => true
 | x :: xs, y :: ys => x.y == y.y && same x.a y.a && same x.b y.b && sameC xs ys
 | _, _ => false
theorem sameC_iff : ∀ a b : List Lt, sameC a b = true ↔ a = b
 | [], [] => by simp [sameC]
 | [], _ :: _ => by simp [sameC]
 | _ :: _, [] => by simp [sameC]
 | x :: xs, y :: ys => by
  rw [sameC, Bool.and_eq_true, Bool.and_eq_true, Bool.and_eq_true, beq_iff_eq, same_iff, same_iff, sameC_iff xs ys]
  obtain ⟨x1, x2, x3⟩ := x
  obtain ⟨y1, y2, y3⟩ := y
  simp only [List.cons.injEq, Lt.mk.injEq]
  constructor
  ·rintro ⟨⟨⟨h1, h2⟩, h3⟩, h4⟩; exact ⟨⟨h1, h2, h3⟩, h4⟩
  ·rintro ⟨⟨h1, h2, h3⟩, h4⟩; exact ⟨⟨⟨h1, h2⟩, h3⟩, h4⟩
theorem sameC_rfl (a : List Lt) : sameC a a = true := (sameC_iff a a).2 rfl
theorem sameC_len {a b : List Lt} (h : a.length ≠ b.length) : sameC a b = false := by
 rw [← Bool.not_eq_true, sameC_iff]; rintro rfl; exact h rfl
theorem sameC_at {a b : List Lt} {i : Nat} (hi : i < a.length) (hi' : i < b.length) : sameC (a.drop i) (b.drop i) = (a[i].y == b[i].y && same a[i].a b[i].a && same a[i].b b[i].b && sameC (a.drop (i + 1)) (b.drop (i + 1))) := by
 rw [List.drop_eq_getElem_cons hi, List.drop_eq_getElem_cons hi', sameC]
set_option maxHeartbeats 1000000 in
set_option maxRecDepth 20000 in
theorem sameClause_tri (a b : List Lt) (ha : a.length ≤ 4000000) : Tri Tryd.prog 19 [.d (clDV a), .d (clDV b)] (pure' (bA (sameC a b))) := by
 refine tri_enter Tryd.func19 rfl Tryd.ntmps19 (by simp only [List.length_cons, List.length_nil]; omega) fun w0 h0 k hrd hwr => ?_
 cases h1 : ((a.length : Int) != (b.length : Int)) with
 | true =>
  rw [sameC_len (by simp at h1; omega)]
  repeat' (first | refine awp_seq_k fun K hK => ?_ | ((first | refine awp_region_k (by kernel_rfl) fun R hR => ?_ | refine awp_draw mixed (by kernel_rfl) (by kernel_rfl) fun R hR => ?_); simp only [go_sem, h1]) | ((first | (refine hR _ ?_; clear hR R) | refine awp_skip ?_ | refine awp_exit ?_ | refine awp_ret ?_); try simp only [thenA, inBlockA, reduceIte, reduceCtorEq, Nat.reduceEqDiff, if_false, if_true]) | ((first | refine hK _ ?_ | (clear hK K; first | refine hK _ ?_ | (clear hK K; first | refine hK _ ?_ | (clear hK K; first | refine hK _ ?_ | (clear hK K; refine hK _ ?_))))); clear hK K) | refine awp_true rfl rfl ?_ | refine awp_false rfl rfl ?_ | refine awp_block ?_ | refine And.intro (by first | ((repeat' first | omega | exact trivial | rfl | assumption | (intro a e; subst e; rfl) | exact map_sz fun a => (by simp only [go_sem]) | refine And.intro ?_ ?_); done) | fail) ?_ | fail)
  (first | refine ret_pure ?_ ?_ ?_ | refine ret_ro ?_ ?_ ?_); focus exact (by simp only [Tryd.results19, resOkL, resOk, Tryd.ntmps19, List.toList_toArray]; first | decide | (simp only [go_sem]; done) | (simp only [go_sem]; and_intros <;> first | omega | rfl | decide))
  rotate_left; focus exact (by repeat (first | exact Fr.rfl' _ _ | assumption | refine Fr.updk ?_ (by omega) _))
  simp only [resA, resV, Tryd.results19, go_sem]
  all_goals try (first | exact Co.t2 (.dat rfl) (.dat rfl) | exact Co.t3 (.dat rfl) (.dat rfl) (.dat rfl))
  all_goals exact .dat rfl
 | false =>
  have hll : a.length = b.length := by simp at h1; omega
  repeat' (first | refine awp_seq_k fun K hK => ?_ | ((first | refine awp_region_k (by kernel_rfl) fun R hR => ?_ | refine awp_draw mixed (by kernel_rfl) (by kernel_rfl) fun R hR => ?_); simp only [go_sem, h1]) | ((first | (refine hR _ ?_; clear hR R) | refine awp_skip ?_ | refine awp_exit ?_ | refine awp_ret ?_); try simp only [thenA, inBlockA, reduceIte, reduceCtorEq, Nat.reduceEqDiff, if_false, if_true]) | ((first | refine hK _ ?_ | (clear hK K; first | refine hK _ ?_ | (clear hK K; first | refine hK _ ?_ | (clear hK K; first | refine hK _ ?_ | (clear hK K; refine hK _ ?_))))); clear hK K) | refine awp_true rfl rfl ?_ | refine awp_false rfl rfl ?_ | refine awp_block ?_ | refine And.intro (by first | ((repeat' first | omega | exact trivial | rfl | assumption | (intro a e; subst e; rfl) | exact map_sz fun a => (by simp only [go_sem]) | refine And.intro ?_ ?_); done) | fail) ?_ | fail)
  refine awp_loop (fun σ => ∃ i : Nat, σ.t 0 = .d (clDV a) ∧ σ.t 1 = .d (clDV b) ∧ σ.t 5 = iA i ∧ σ.h = h0 ∧ i ≤ a.length ∧ sameC (a.drop i) (b.drop i) = sameC a b) (fun σ => a.length - (intOf' (σ.t 5)).toNat) ?_ ?_
  ·refine ⟨0, ?_⟩
   simp only [go_sem, List.drop_zero]
   and_intros; all_goals try (first | rfl | omega | assumption | ((repeat (first | exact Fr.rfl' _ _ | assumption | refine Fr.updk ?_ (by omega) _)); done))
  ·rintro σ ⟨i, s0, s1, s5, sh, hi, hv⟩
   have hfr : Fr k h0 σ.h := by rw [sh]; exact Fr.rfl' _ _
   rcases Nat.lt_or_ge i a.length with hlt | hge
   ·have hlt' : i < b.length := by omega
    have hz : (i : Int) < (a.length : Int) := by omega
    have hz' : (i : Int) < (b.length : Int) := by omega
    have e1 : (a.map ltDV).getD i default = ltDV a[i] := nth_map ltDV hlt _
    have e2 : (b.map ltDV).getD i default = ltDV b[i] := nth_map ltDV hlt' _
    rw [sameC_at hlt hlt'] at hv
    cases hy : (a[i].y == b[i].y) with
    | false =>
     rw [hy, Bool.false_and, Bool.false_and, Bool.false_and] at hv
     repeat' (first | refine awp_seq_k fun K hK => ?_ | ((first | refine awp_region_k (by kernel_rfl) fun R hR => ?_ | refine awp_draw mixed (by kernel_rfl) (by kernel_rfl) fun R hR => ?_); simp only [go_sem, s0, s1, s5, hz, hz', e1, e2, hy, Int.toNat_natCast]) | ((first | (refine hR _ ?_; clear hR R) | refine awp_skip ?_ | refine awp_exit ?_ | refine awp_ret ?_); try simp only [thenA, inBlockA, reduceIte, reduceCtorEq, Nat.reduceEqDiff, if_false, if_true]) | ((first | refine hK _ ?_ | (clear hK K; first | refine hK _ ?_ | (clear hK K; first | refine hK _ ?_ | (clear hK K; first | refine hK _ ?_ | (clear hK K; refine hK _ ?_))))); clear hK K) | refine awp_true rfl rfl ?_ | refine awp_false rfl rfl ?_ | refine awp_block ?_ | refine And.intro (by first | ((repeat' first | omega | exact trivial | rfl | assumption | (intro a e; subst e; rfl) | exact map_sz fun a => (by simp only [go_sem]) | refine And.intro ?_ ?_); done) | fail) ?_ | fail)
     (first | refine ret_pure ?_ ?_ ?_ | refine ret_ro ?_ ?_ ?_); focus exact (by simp only [Tryd.results19, resOkL, resOk, Tryd.ntmps19, List.toList_toArray]; first | decide | (simp only [go_sem]; done) | (simp only [go_sem]; and_intros <;> first | omega | rfl | decide))
     rotate_left; focus exact (by repeat (first | exact Fr.rfl' _ _ | assumption | refine Fr.updk ?_ (by omega) _))
     simp only [resA, resV, Tryd.results19, go_sem]
     all_goals try (first | exact Co.t2 (.dat rfl) (.dat rfl) | exact Co.t3 (.dat rfl) (.dat rfl) (.dat rfl))
     all_goals exact co_b hv
    | true =>
     cases h2 : same a[i].a b[i].a with
     | false =>
      rw [hy, h2, Bool.true_and, Bool.false_and, Bool.false_and] at hv
      repeat' (first | refine awp_seq_k fun K hK => ?_ | ((first | refine awp_region_k (by kernel_rfl) fun R hR => ?_ | refine awp_draw mixed (by kernel_rfl) (by kernel_rfl) fun R hR => ?_); simp only [go_sem, s0, s1, s5, hz, hz', e1, e2, hy, h2, Int.toNat_natCast]) | ((first | (refine hR _ ?_; clear hR R) | refine awp_skip ?_ | refine awp_exit ?_ | refine awp_ret ?_); try simp only [thenA, inBlockA, reduceIte, reduceCtorEq, Nat.reduceEqDiff, if_false, if_true]) | ((first | refine hK _ ?_ | (clear hK K; first | refine hK _ ?_ | (clear hK K; first | refine hK _ ?_ | (clear hK K; first | refine hK _ ?_ | (clear hK K; refine hK _ ?_))))); clear hK K) | refine awp_true rfl rfl ?_ | refine awp_false rfl rfl ?_ | refine awp_block ?_ | ((first | refine CallK.pure (enter18) (sameR_tri a[i].a b[i].a) ?_ ?_ | refine CallD.pure (enter18) (sameR_tri a[i].a b[i].a) ?_ ?_); (focus first | ((repeat (first | exact trivial | refine ⟨(by first | exact Or.inl rfl | exact Or.inr rfl), ?_⟩)); done) | (simp only [coL, AV.dat, true_or, or_true, AV.d.injEq, go_sem]; done)); simp only [go_sem, s0, s1, s5, hz, hz', e1, e2, hy, h2, Int.toNat_natCast]) | refine And.intro (by first | ((repeat' first | omega | exact trivial | rfl | assumption | (intro a e; subst e; rfl) | exact map_sz fun a => (by simp only [go_sem]) | refine And.intro ?_ ?_); done) | fail) ?_ | fail)
      (first | refine ret_pure ?_ ?_ ?_ | refine ret_ro ?_ ?_ ?_); focus exact (by simp only [Tryd.results19, resOkL, resOk, Tryd.ntmps19, List.toList_toArray]; first | decide | (simp only [go_sem]; done) | (simp only [go_sem]; and_intros <;> first | omega | rfl | decide))
      rotate_left; focus exact (by repeat (first | exact Fr.rfl' _ _ | assumption | refine Fr.updk ?_ (by omega) _))
      simp only [resA, resV, Tryd.results19, go_sem]
      all_goals try (first | exact Co.t2 (.dat rfl) (.dat rfl) | exact Co.t3 (.dat rfl) (.dat rfl) (.dat rfl))
      all_goals exact co_b hv
     | true =>
      cases h3 : same a[i].b b[i].b with
      | false =>
       rw [hy, h2, h3, Bool.true_and, Bool.true_and, Bool.false_and] at hv
       repeat' (first | refine awp_seq_k fun K hK => ?_ | ((first | refine awp_region_k (by kernel_rfl) fun R hR => ?_ | refine awp_draw mixed (by kernel_rfl) (by kernel_rfl) fun R hR => ?_); simp only [go_sem, s0, s1, s5, hz, hz', e1, e2, hy, h2, h3, Int.toNat_natCast]) | ((first | (refine hR _ ?_; clear hR R) | refine awp_skip ?_ | refine awp_exit ?_ | refine awp_ret ?_); try simp only [thenA, inBlockA, reduceIte, reduceCtorEq, Nat.reduceEqDiff, if_false, if_true]) | ((first | refine hK _ ?_ | (clear hK K; first | refine hK _ ?_ | (clear hK K; first | refine hK _ ?_ | (clear hK K; first | refine hK _ ?_ | (clear hK K; refine hK _ ?_))))); clear hK K) | refine awp_true rfl rfl ?_ | refine awp_false rfl rfl ?_ | refine awp_block ?_ | ((first | refine CallK.pure (enter18) (sameR_tri a[i].a b[i].a) ?_ ?_ | refine CallD.pure (enter18) (sameR_tri a[i].a b[i].a) ?_ ?_); (focus first | ((repeat (first | exact trivial | refine ⟨(by first | exact Or.inl rfl | exact Or.inr rfl), ?_⟩)); done) | (simp only [coL, AV.dat, true_or, or_true, AV.d.injEq, go_sem]; done)); simp only [go_sem, s0, s1, s5, hz, hz', e1, e2, hy, h2, h3, Int.toNat_natCast]) | ((first | refine CallK.pure (enter18) (sameR_tri a[i].b b[i].b) ?_ ?_ | refine CallD.pure (enter18) (sameR_tri a[i].b b[i].b) ?_ ?_); (focus first | ((repeat (first | exact trivial | refine ⟨(by first | exact Or.inl rfl | exact Or.inr rfl), ?_⟩)); done) | (simp only [coL, AV.dat, true_or, or_true, AV.d.injEq, go_sem]; done)); simp only [go_sem, s0, s1, s5, hz, hz', e1, e2, hy, h2, h3, Int.toNat_natCast]) | refine And.intro (by first | ((repeat' first | omega | exact trivial | rfl | assumption | (intro a e; subst e; rfl) | exact map_sz fun a => (by simp only [go_sem]) | refine And.intro ?_ ?_); done) | fail) ?_ | fail)
       (first | refine ret_pure ?_ ?_ ?_ | refine ret_ro ?_ ?_ ?_); focus exact (by simp only [Tryd.results19, resOkL, resOk, Tryd.ntmps19, List.toList_toArray]; first | decide | (simp only [go_sem]; done) | (simp only [go_sem]; and_intros <;> first | omega | rfl | decide))
       rotate_left; focus exact (by repeat (first | exact Fr.rfl' _ _ | assumption | refine Fr.updk ?_ (by omega) _))
       simp only [resA, resV, Tryd.results19, go_sem]
       all_goals try (first | exact Co.t2 (.dat rfl) (.dat rfl) | exact Co.t3 (.dat rfl) (.dat rfl) (.dat rfl))
       all_goals exact co_b hv
      | true =>
       rw [hy, h2, h3, Bool.true_and, Bool.true_and, Bool.true_and] at hv
       repeat' (first | refine awp_seq_k fun K hK => ?_ | ((first | refine awp_region_k (by kernel_rfl) fun R hR => ?_ | refine awp_draw mixed (by kernel_rfl) (by kernel_rfl) fun R hR => ?_); simp only [go_sem, s0, s1, s5, hz, hz', e1, e2, hy, h2, h3, Int.toNat_natCast]) | ((first | (refine hR _ ?_; clear hR R) | refine awp_skip ?_ | refine awp_exit ?_ | refine awp_ret ?_); try simp only [thenA, inBlockA, reduceIte, reduceCtorEq, Nat.reduceEqDiff, if_false, if_true]) | ((first | refine hK _ ?_ | (clear hK K; first | refine hK _ ?_ | (clear hK K; first | refine hK _ ?_ | (clear hK K; first | refine hK _ ?_ | (clear hK K; refine hK _ ?_))))); clear hK K) | refine awp_true rfl rfl ?_ | refine awp_false rfl rfl ?_ | refine awp_block ?_ | ((first | refine CallK.pure (enter18) (sameR_tri a[i].a b[i].a) ?_ ?_ | refine CallD.pure (enter18) (sameR_tri a[i].a b[i].a) ?_ ?_); (focus first | ((repeat (first | exact trivial | refine ⟨(by first | exact Or.inl rfl | exact Or.inr rfl), ?_⟩)); done) | (simp only [coL, AV.dat, true_or, or_true, AV.d.injEq, go_sem]; done)); simp only [go_sem, s0, s1, s5, hz, hz', e1, e2, hy, h2, h3, Int.toNat_natCast]) | ((first | refine CallK.pure (enter18) (sameR_tri a[i].b b[i].b) ?_ ?_ | refine CallD.pure (enter18) (sameR_tri a[i].b b[i].b) ?_ ?_); (focus first | ((repeat (first | exact trivial | refine ⟨(by first | exact Or.inl rfl | exact Or.inr rfl), ?_⟩)); done) | (simp only [coL, AV.dat, true_or, or_true, AV.d.injEq, go_sem]; done)); simp only [go_sem, s0, s1, s5, hz, hz', e1, e2, hy, h2, h3, Int.toNat_natCast]) | refine And.intro (by first | ((repeat' first | omega | exact trivial | rfl | assumption | (intro a e; subst e; rfl) | exact map_sz fun a => (by simp only [go_sem]) | refine And.intro ?_ ?_); done) | fail) ?_ | fail)
       refine ⟨⟨i + 1, ?_⟩, ?_⟩
       rotate_left
       ·simp only [go_sem, s0, s1, s5, sh]; omega
       simp only [go_sem, s0, s1, s5, sh]
       and_intros; all_goals try (first | rfl | omega | assumption | ((repeat (first | exact Fr.rfl' _ _ | assumption | refine Fr.updk ?_ (by omega) _)); done))
   ·have hz : ¬ ((i : Int) < (a.length : Int)) := by omega
    rw [List.drop_eq_nil_of_le hge, List.drop_eq_nil_of_le (by omega), sameC] at hv
    repeat' (first | refine awp_seq_k fun K hK => ?_ | ((first | refine awp_region_k (by kernel_rfl) fun R hR => ?_ | refine awp_draw mixed (by kernel_rfl) (by kernel_rfl) fun R hR => ?_); simp only [go_sem, s0, s1, s5, hz]) | ((first | (refine hR _ ?_; clear hR R) | refine awp_skip ?_ | refine awp_exit ?_ | refine awp_ret ?_); try simp only [thenA, inBlockA, reduceIte, reduceCtorEq, Nat.reduceEqDiff, if_false, if_true]) | ((first | refine hK _ ?_ | (clear hK K; first | refine hK _ ?_ | (clear hK K; first | refine hK _ ?_ | (clear hK K; first | refine hK _ ?_ | (clear hK K; refine hK _ ?_))))); clear hK K) | refine awp_true rfl rfl ?_ | refine awp_false rfl rfl ?_ | refine awp_block ?_ | refine And.intro (by first | ((repeat' first | omega | exact trivial | rfl | assumption | (intro a e; subst e; rfl) | exact map_sz fun a => (by simp only [go_sem]) | refine And.intro ?_ ?_); done) | fail) ?_ | fail)
    (first | refine ret_pure ?_ ?_ ?_ | refine ret_ro ?_ ?_ ?_); focus exact (by simp only [Tryd.results19, resOkL, resOk, Tryd.ntmps19, List.toList_toArray]; first | decide | (simp only [go_sem]; done) | (simp only [go_sem]; and_intros <;> first | omega | rfl | decide))
    rotate_left; focus exact (by repeat (first | exact Fr.rfl' _ _ | assumption | refine Fr.updk ?_ (by omega) _))
    simp only [resA, resV, Tryd.results19, go_sem]
    all_goals try (first | exact Co.t2 (.dat rfl) (.dat rfl) | exact Co.t3 (.dat rfl) (.dat rfl) (.dat rfl))
    all_goals exact co_b hv
end Go.Proofs.YtmeekpinkfpnhabDoor
