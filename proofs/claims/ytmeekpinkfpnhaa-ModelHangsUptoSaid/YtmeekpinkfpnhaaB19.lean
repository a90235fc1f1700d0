/- clause.covers, clause.Covers. FRSTH clause.Covers, clause.Subsumes. superposeref.CoversOf. superposeref.AlwaysOf. -/
import Derived.Test.YtmeekpinkfpnhaaB07
import Derived.Test.YtmeekpinkfpnhaaB08
import Derived.Test.YtmeekpinkfpnhaaB17
import Derived.Test.YtmeekpinkfpnhaaB18
set_option linter.unusedSimpArgs false
set_option linter.unusedSectionVars false
set_option linter.unusedVariables false
set_option linter.unnecessarySimpa false
set_option linter.all false
namespace Go.Proofs.Ytmeekpinkfpnhaa
open Go.RowKit
set_option maxHeartbeats 2000000 in
set_option maxRecDepth 20000 in
theorem covers_tri (d : List Lt) (hd : d.length ≤ 4000000) : ∀ (c : List Lt), c.length ≤ 4000000 → (∀ l ∈ c, l.a.size ≤ 4000000 ∧ l.b.size ≤ 4000000) → ∀ (mm : Nm) (b : Bs),
    Tri Try.prog 124 [.map mm, .d (clDV c), .d (clDV d)] (rdE [(mm, .map (bsE b))] (bA (covG meet c d b)))
  | [], _, _, mm, b => by
    refine tri_enter_ro Try.func124 rfl Try.ntmps124 (by simp only [List.length_cons, List.length_nil]; omega) fun w0 h0 k hro => ?_
    repeat' (first | refine awp_seq_k fun K hK => ?_ | ((first | refine awp_region_k (by kernel_rfl) fun R hR => ?_ | refine awp_draw mixed (by kernel_rfl) (by kernel_rfl) fun R hR => ?_); simp only [go_sem]) | ((first | (refine hR _ ?_; clear hR R) | refine awp_skip ?_ | refine awp_exit ?_ | refine awp_ret ?_); try simp only [thenA, inBlockA, reduceIte, reduceCtorEq, Nat.reduceEqDiff, if_false, if_true]) | ((first | refine hK _ ?_ | (clear hK K; first | refine hK _ ?_ | (clear hK K; first | refine hK _ ?_ | (clear hK K; first | refine hK _ ?_ | (clear hK K; refine hK _ ?_))))); clear hK K) | refine awp_true rfl rfl ?_ | refine awp_false rfl rfl ?_ | refine awp_block ?_ | refine And.intro (by first | ((repeat' first | omega | exact trivial | rfl | assumption | (intro a e; subst e; rfl) | exact map_sz fun a => (by simp only [go_sem]) | refine And.intro ?_ ?_); done) | fail) ?_ | fail)
    (first | refine ret_pure ?_ ?_ ?_ | refine ret_ro ?_ ?_ ?_); focus exact (by simp only [Try.results124, resOkL, resOk, Try.ntmps124, List.toList_toArray]; first | decide | (simp only [go_sem]; done) | (simp only [go_sem]; and_intros <;> first | omega | rfl | decide))
    rotate_left; focus exact (by repeat (first | exact Fr.rfl' _ _ | assumption | refine Fr.updk ?_ (by omega) _ | refine Fr.stH ?_ _ (by intro n hn; simp only [List.mem_cons, List.not_mem_nil, or_false] at hn; subst hn; simp only; omega)))
    simp only [resA, resV, Try.results124, go_sem]
    all_goals try (first | exact Co.t2 (.dat rfl) (.dat rfl) | exact Co.t3 (.dat rfl) (.dat rfl) (.dat rfl))
    exact .dat rfl
  | l :: c, hcl, hsz, mm, b => by
    have ih := covers_tri d hd c (by simp at hcl; omega) (fun x hx => hsz x (by simp [hx]))
    obtain ⟨G, hG⟩ : ∃ G : Lt → Bool, ∀ x, G x = ((tryG meet l x b).1 && covG meet c d (tryG meet l x b).2) := ⟨_, fun _ => rfl⟩
    obtain ⟨F, hFd⟩ : ∃ F : Lt → Bool, ∀ x, F x = ((x.y == l.y) && (G x || G (turnL x))) := ⟨_, fun _ => rfl⟩
    have hF0 : covG meet (l :: c) d b = d.any F := by
      rw [covG]; exact any_same fun x _ => by rw [hFd, hG, hG]
    refine tri_enter_ro Try.func124 rfl Try.ntmps124 (by simp only [List.length_cons, List.length_nil]; omega) fun w0 h0 k hro => ?_
    obtain ⟨n2, em⟩ := hro.get _ (List.mem_cons_self ..)
    have q2 := nmne n2
    dsimp only at n2 em q2
    have htk : (c.map ltDV).take c.length = c.map ltDV := List.take_of_length_le (by simp)
    have ht1 : Int.toNat 1 = 1 := rfl
    have e0 : (ltDV l :: List.map ltDV c).getD (Int.toNat 0) default = ltDV l := rfl
    repeat' (first | refine awp_seq_k fun K hK => ?_ | ((first | refine awp_region_k (by kernel_rfl) fun R hR => ?_ | refine awp_draw mixed (by kernel_rfl) (by kernel_rfl) fun R hR => ?_); simp only [go_sem, em, q2, e0]) | ((first | (refine hR _ ?_; clear hR R) | refine awp_skip ?_ | refine awp_exit ?_ | refine awp_ret ?_); try simp only [thenA, inBlockA, reduceIte, reduceCtorEq, Nat.reduceEqDiff, if_false, if_true]) | ((first | refine hK _ ?_ | (clear hK K; first | refine hK _ ?_ | (clear hK K; first | refine hK _ ?_ | (clear hK K; first | refine hK _ ?_ | (clear hK K; refine hK _ ?_))))); clear hK K) | refine awp_true rfl rfl ?_ | refine awp_false rfl rfl ?_ | refine awp_block ?_ | refine And.intro (by first | ((repeat' first | omega | exact trivial | rfl | assumption | (intro a e; subst e; rfl) | exact map_sz fun a => (by simp only [go_sem]) | refine And.intro ?_ ?_); done) | fail) ?_ | fail)
    refine awp_loop (fun σ => ∃ i : Nat, σ.t 0 = .map mm ∧ σ.t 1 = .d (clDV (l :: c)) ∧ σ.t 2 = .d (clDV d) ∧ σ.t 6 = bA false ∧ σ.t 7 = .ptr (k + 1 + 1, 3) 0 ∧ σ.t 19 = .d (clDV d) ∧ σ.t 20 = iA d.length ∧ σ.t 21 = iA i ∧
      σ.h (k + 1 + 1, 3) = some (.cells 107 (ltC l)) ∧ Fr k h0 σ.h ∧ k + 1 + 1 < σ.k ∧ i ≤ d.length ∧ (d.drop i).any F = covG meet (l :: c) d b) (fun σ => d.length - (intOf' (σ.t 21)).toNat) ?_ ?_
    · refine ⟨0, ?_⟩
      simp only [go_sem, List.drop_zero]
      and_intros; all_goals try (first | rfl | omega | assumption | ((repeat (first | exact Fr.rfl' _ _ | assumption | refine Fr.updk ?_ (by omega) _)); done))
      rw [hF0]
    · rintro σ ⟨i, s0, s1, s2, s6, s7, s19, s20, s21, sh, hF, hk, hi, hv⟩
      have emσ : σ.h mm = some (.map (bsE b)) := (hF mm n2).trans em
      have p1 := nmne (show mm.1 < σ.k by omega)
      have p2 := nmne (show ((k + 1 + 1, 3) : Nm).1 < σ.k from hk)
      rcases Nat.lt_or_ge i d.length with hlt | hge
      · have hz : (i : Int) < (d.length : Int) := by omega
        have e1 : (d.map ltDV).getD i default = ltDV d[i] := nth_map ltDV hlt _
        rw [List.drop_eq_getElem_cons hlt, List.any_cons] at hv
        cases hy : (d[i].y == l.y) with
        | false =>
          have hFi : F d[i] = false := by
            rw [hFd, hy, Bool.false_and]
          rw [hFi, Bool.false_or] at hv
          repeat' (first | refine awp_seq_k fun K hK => ?_ | ((first | refine awp_region_k (by kernel_rfl) fun R hR => ?_ | refine awp_draw mixed (by kernel_rfl) (by kernel_rfl) fun R hR => ?_); simp only [go_sem, s0, s1, s2, s6, s7, s19, s20, s21, sh, p1, p2, e1, hz, hy, emσ, Int.toNat_natCast]) | ((first | (refine hR _ ?_; clear hR R) | refine awp_skip ?_ | refine awp_exit ?_ | refine awp_ret ?_); try simp only [thenA, inBlockA, reduceIte, reduceCtorEq, Nat.reduceEqDiff, if_false, if_true]) | ((first | refine hK _ ?_ | (clear hK K; first | refine hK _ ?_ | (clear hK K; first | refine hK _ ?_ | (clear hK K; first | refine hK _ ?_ | (clear hK K; refine hK _ ?_))))); clear hK K) | refine awp_true rfl rfl ?_ | refine awp_false rfl rfl ?_ | refine awp_block ?_ | refine And.intro (by first | ((repeat' first | omega | exact trivial | rfl | assumption | (intro a e; subst e; rfl) | exact map_sz fun a => (by simp only [go_sem]) | refine And.intro ?_ ?_); done) | fail) ?_ | fail)
          refine ⟨⟨i + 1, ?_⟩, ?_⟩
          rotate_left
          · simp only [go_sem, s0, s1, s2, s6, s7, s19, s20, s21, sh, p1, p2]; omega
          simp only [go_sem, s0, s1, s2, s6, s7, s19, s20, s21, sh, p1, p2]
          and_intros; all_goals try (first | rfl | omega | assumption | ((repeat (first | exact Fr.rfl' _ _ | assumption | refine Fr.updk ?_ (by omega) _)); done))
        | true =>
          have hFi : F d[i] = (G d[i] || G (turnL d[i])) := by
            rw [hFd, hy, Bool.true_and]
          rw [hFi] at hv
          obtain ⟨L, hL⟩ : ∃ L, L = [d[i], turnL d[i]] := ⟨_, rfl⟩
          have hL2 : L.length = 2 := by rw [hL]; rfl
          have hLv : ((L.drop 0).any G || (d.drop (i + 1)).any F) = covG meet (l :: c) d b := by rw [hL, ← hv]; simp
          repeat' (first | refine awp_seq_k fun K hK => ?_ | ((first | refine awp_region_k (by kernel_rfl) fun R hR => ?_ | refine awp_draw mixed (by kernel_rfl) (by kernel_rfl) fun R hR => ?_); simp only [go_sem, s0, s1, s2, s6, s7, s19, s20, s21, sh, p1, p2, e1, hz, hy, emσ, Int.toNat_natCast]) | ((first | (refine hR _ ?_; clear hR R) | refine awp_skip ?_ | refine awp_exit ?_ | refine awp_ret ?_); try simp only [thenA, inBlockA, reduceIte, reduceCtorEq, Nat.reduceEqDiff, if_false, if_true]) | ((first | refine hK _ ?_ | (clear hK K; first | refine hK _ ?_ | (clear hK K; first | refine hK _ ?_ | (clear hK K; first | refine hK _ ?_ | (clear hK K; refine hK _ ?_))))); clear hK K) | refine awp_true rfl rfl ?_ | refine awp_false rfl rfl ?_ | refine awp_block ?_ | refine And.intro (by first | ((repeat' first | omega | exact trivial | rfl | assumption | (intro a e; subst e; rfl) | exact map_sz fun a => (by simp only [go_sem]) | refine And.intro ?_ ?_); done) | fail) ?_ | fail)
          refine awp_loop (fun τ => ∃ j : Nat, τ.t 0 = .map mm ∧ τ.t 1 = .d (clDV (l :: c)) ∧ τ.t 2 = .d (clDV d) ∧ τ.t 6 = bA false ∧ τ.t 7 = .ptr (k + 1 + 1, 3) 0 ∧ τ.t 19 = .d (clDV d) ∧ τ.t 20 = iA d.length ∧ τ.t 21 = iA i ∧
            τ.t 38 = .own (σ.k + 1 + 1 + 1, 8) (L.map ltDV) ∧ τ.t 39 = iA (2 : Nat) ∧ τ.t 40 = iA j ∧
            τ.h (k + 1 + 1, 3) = some (.cells 107 (ltC l)) ∧ Fr k h0 τ.h ∧ σ.k + 1 + 1 + 1 < τ.k ∧ j ≤ 2 ∧ ((L.drop j).any G || (d.drop (i + 1)).any F) = covG meet (l :: c) d b) (fun τ => 2 - (intOf' (τ.t 40)).toNat) ?_ ?_
          · refine ⟨0, ?_⟩
            simp only [go_sem, s0, s1, s2, s6, s7, s19, s20, s21, sh, p1, p2]
            and_intros; all_goals try (first | rfl | omega | assumption | ((repeat (first | exact Fr.rfl' _ _ | assumption | refine Fr.updk ?_ (by omega) _)); done))
            · rw [hL]; rfl
          · rintro τ ⟨j, u0, u1, u2, u6, u7, u19, u20, u21, u38, u39, u40, uh, uF, uk, uj, uv⟩
            have emτ : τ.h mm = some (.map (bsE b)) := (uF mm n2).trans em
            have r1 := nmne (show mm.1 < τ.k by omega)
            have r2 := nmne (show ((k + 1 + 1, 3) : Nm).1 < τ.k by show k + 1 + 1 < τ.k; omega)
            rcases Nat.lt_or_ge j 2 with jlt | jge
            · have jz : (j : Int) < ((2 : Nat) : Int) := by omega
              have jL : j < L.length := by omega
              have e2 : (L.map ltDV).getD j default = ltDV L[j] := nth_map ltDV jL _
              rw [List.drop_eq_getElem_cons jL, List.any_cons, hG] at uv
              generalize L[j] = x at e2 uv
              refine awp_new fun hnew => ?_
              have hnn := hnew.at
              have m1 := meet_tri l.a (hsz l (by simp)).1 x.a (τ.k + 1 + 1, 1) b
              cases h3 : (meet l.a x.a b).1 with
              | false =>
                rw [h3] at m1
                have hG0 : tryG meet l x b = (false, (meet l.a x.a b).2) := by unfold tryG; rw [h3]; rfl
                rw [hG0, Bool.false_and, Bool.false_or] at uv
                repeat' (first | (refine CallK.clone mm (bsE b) rfl ⟨.inl rfl, trivial⟩ (by simp only [go_sem, emτ, r1]) (by simp only [go_sem, hnn]) ?_; simp only [go_sem, u0, hnn, r1, r2]) | refine awp_seq_k fun K hK => ?_ | ((first | refine awp_region_k (by kernel_rfl) fun R hR => ?_ | refine awp_draw mixed (by kernel_rfl) (by kernel_rfl) fun R hR => ?_); simp only [go_sem, u0, u1, u2, u6, u7, u19, u20, u21, uh, r1, r2, u38, u39, u40, jz, e2, emτ, hnn, htk, ht1, Int.toNat_natCast]) | ((first | (refine hR _ ?_; clear hR R) | refine awp_skip ?_ | refine awp_exit ?_ | refine awp_ret ?_); try simp only [thenA, inBlockA, reduceIte, reduceCtorEq, Nat.reduceEqDiff, if_false, if_true]) | ((first | refine hK _ ?_ | (clear hK K; first | refine hK _ ?_ | (clear hK K; first | refine hK _ ?_ | (clear hK K; first | refine hK _ ?_ | (clear hK K; refine hK _ ?_))))); clear hK K) | refine awp_true rfl rfl ?_ | refine awp_false rfl rfl ?_ | refine awp_block ?_ | ((first | refine CallK.chg (enter141) (m1) ?_ (agM _ (by simp only [go_sem, u0])) (Fr.rfl' _ _) ?_ | refine CallD.chg (enter141) (m1) ?_ (agM _ (by simp only [go_sem, u0])) (Fr.rfl' _ _) (by first | assumption | exact List.cons_ne_nil _ _) ?_); (focus first | ((repeat (first | exact trivial | refine ⟨(by first | exact Or.inl rfl | exact Or.inr rfl), ?_⟩)); done) | (simp only [coL, AV.dat, true_or, or_true, AV.d.injEq, go_sem]; done)); simp only [go_sem, u0, u1, u2, u6, u7, u19, u20, u21, uh, r1, r2, u38, u39, u40, jz, e2, emτ, hnn, htk, ht1, Int.toNat_natCast]) | refine And.intro (by first | ((repeat' first | omega | exact trivial | rfl | assumption | (intro a e; subst e; rfl) | exact map_sz fun a => (by simp only [go_sem]) | refine And.intro ?_ ?_); done) | fail) ?_ | fail)
                refine ⟨⟨j + 1, ?_⟩, ?_⟩
                rotate_left
                · simp only [go_sem, u0, u1, u2, u6, u7, u19, u20, u21, uh, r1, r2, u38, u39, u40]; omega
                simp only [go_sem, u0, u1, u2, u6, u7, u19, u20, u21, uh, r1, r2, u38, u39, u40]
                and_intros; all_goals try (first | rfl | omega | assumption | ((repeat (first | exact Fr.rfl' _ _ | assumption | refine Fr.updk ?_ (by omega) _)); done))
                refine Fr.stH ?_ _ (fun n hn => by simp only [List.mem_cons, List.not_mem_nil, or_false] at hn; subst hn; show k ≤ τ.k + 1 + 1; omega)
                repeat (first | assumption | refine Fr.updk ?_ (by omega) _)
              | true =>
                rw [h3] at m1
                have hG0 : tryG meet l x b = meet l.b x.b (meet l.a x.a b).2 := by unfold tryG; rw [h3]; rfl
                rw [hG0] at uv
                generalize (meet l.a x.a b).2 = b1 at m1 uv hG0
                have m2 := meet_tri l.b (hsz l (by simp)).2 x.b (τ.k + 1 + 1, 1) b1
                cases h4 : (meet l.b x.b b1).1 with
                | false =>
                  rw [h4] at m2
                  rw [h4, Bool.false_and, Bool.false_or] at uv
                  repeat' (first | (refine CallK.clone mm (bsE b) rfl ⟨.inl rfl, trivial⟩ (by simp only [go_sem, emτ, r1]) (by simp only [go_sem, hnn]) ?_; simp only [go_sem, u0, hnn, r1, r2]) | refine awp_seq_k fun K hK => ?_ | ((first | refine awp_region_k (by kernel_rfl) fun R hR => ?_ | refine awp_draw mixed (by kernel_rfl) (by kernel_rfl) fun R hR => ?_); simp only [go_sem, u0, u1, u2, u6, u7, u19, u20, u21, uh, r1, r2, u38, u39, u40, jz, e2, emτ, hnn, htk, ht1, Int.toNat_natCast]) | ((first | (refine hR _ ?_; clear hR R) | refine awp_skip ?_ | refine awp_exit ?_ | refine awp_ret ?_); try simp only [thenA, inBlockA, reduceIte, reduceCtorEq, Nat.reduceEqDiff, if_false, if_true]) | ((first | refine hK _ ?_ | (clear hK K; first | refine hK _ ?_ | (clear hK K; first | refine hK _ ?_ | (clear hK K; first | refine hK _ ?_ | (clear hK K; refine hK _ ?_))))); clear hK K) | refine awp_true rfl rfl ?_ | refine awp_false rfl rfl ?_ | refine awp_block ?_ | ((first | refine CallK.chg (enter141) (m1) ?_ (agM _ (by simp only [go_sem, u0])) (Fr.rfl' _ _) ?_ | refine CallD.chg (enter141) (m1) ?_ (agM _ (by simp only [go_sem, u0])) (Fr.rfl' _ _) (by first | assumption | exact List.cons_ne_nil _ _) ?_); (focus first | ((repeat (first | exact trivial | refine ⟨(by first | exact Or.inl rfl | exact Or.inr rfl), ?_⟩)); done) | (simp only [coL, AV.dat, true_or, or_true, AV.d.injEq, go_sem]; done)); simp only [go_sem, u0, u1, u2, u6, u7, u19, u20, u21, uh, r1, r2, u38, u39, u40, jz, e2, emτ, hnn, htk, ht1, Int.toNat_natCast]) | ((first | refine CallK.chg (enter141) (m2) ?_ (agM _ (by simp only [go_sem, u0, mtO])) (Fr.rfl' _ _) ?_ | refine CallD.chg (enter141) (m2) ?_ (agM _ (by simp only [go_sem, u0, mtO])) (Fr.rfl' _ _) (by first | assumption | exact List.cons_ne_nil _ _) ?_); (focus first | ((repeat (first | exact trivial | refine ⟨(by first | exact Or.inl rfl | exact Or.inr rfl), ?_⟩)); done) | (simp only [coL, AV.dat, true_or, or_true, AV.d.injEq, go_sem]; done)); simp only [go_sem, u0, u1, u2, u6, u7, u19, u20, u21, uh, r1, r2, u38, u39, u40, jz, e2, emτ, hnn, htk, ht1, Int.toNat_natCast]) | refine And.intro (by first | ((repeat' first | omega | exact trivial | rfl | assumption | (intro a e; subst e; rfl) | exact map_sz fun a => (by simp only [go_sem]) | refine And.intro ?_ ?_); done) | fail) ?_ | fail)
                  refine ⟨⟨j + 1, ?_⟩, ?_⟩
                  rotate_left
                  · simp only [go_sem, u0, u1, u2, u6, u7, u19, u20, u21, uh, r1, r2, u38, u39, u40]; omega
                  simp only [go_sem, u0, u1, u2, u6, u7, u19, u20, u21, uh, r1, r2, u38, u39, u40]
                  and_intros; all_goals try (first | rfl | omega | assumption | ((repeat (first | exact Fr.rfl' _ _ | assumption | refine Fr.updk ?_ (by omega) _)); done))
                  refine Fr.stH ?_ _ (fun n hn => by simp only [List.mem_cons, List.not_mem_nil, or_false] at hn; subst hn; show k ≤ τ.k + 1 + 1; omega)
                  refine Fr.stH ?_ _ (fun n hn => by simp only [List.mem_cons, List.not_mem_nil, or_false] at hn; subst hn; show k ≤ τ.k + 1 + 1; omega)
                  repeat (first | assumption | refine Fr.updk ?_ (by omega) _)
                | true =>
                  rw [h4] at m2
                  rw [h4, Bool.true_and] at uv
                  generalize (meet l.b x.b b1).2 = b2 at m2 uv hG0
                  have m3 := ih (τ.k + 1 + 1, 1) b2
                  cases h5 : covG meet c d b2 with
                  | false =>
                    rw [h5] at m3
                    rw [h5, Bool.false_or] at uv
                    repeat' (first | (refine CallK.clone mm (bsE b) rfl ⟨.inl rfl, trivial⟩ (by simp only [go_sem, emτ, r1]) (by simp only [go_sem, hnn]) ?_; simp only [go_sem, u0, hnn, r1, r2]) | (refine And.intro ⟨fun a e => (by subst e; rfl), by omega, by omega, by omega, map_sz (by intro a; simp only [go_sem])⟩ ?_) | refine awp_seq_k fun K hK => ?_ | ((first | refine awp_region_k (by kernel_rfl) fun R hR => ?_ | refine awp_draw mixed (by kernel_rfl) (by kernel_rfl) fun R hR => ?_); simp only [go_sem, u0, u1, u2, u6, u7, u19, u20, u21, uh, r1, r2, u38, u39, u40, jz, e2, emτ, hnn, htk, ht1, Int.toNat_natCast]) | ((first | (refine hR _ ?_; clear hR R) | refine awp_skip ?_ | refine awp_exit ?_ | refine awp_ret ?_); try simp only [thenA, inBlockA, reduceIte, reduceCtorEq, Nat.reduceEqDiff, if_false, if_true]) | ((first | refine hK _ ?_ | (clear hK K; first | refine hK _ ?_ | (clear hK K; first | refine hK _ ?_ | (clear hK K; first | refine hK _ ?_ | (clear hK K; refine hK _ ?_))))); clear hK K) | refine awp_true rfl rfl ?_ | refine awp_false rfl rfl ?_ | refine awp_block ?_ | ((first | refine CallK.chg (enter141) (m1) ?_ (agM _ (by simp only [go_sem, u0])) (Fr.rfl' _ _) ?_ | refine CallD.chg (enter141) (m1) ?_ (agM _ (by simp only [go_sem, u0])) (Fr.rfl' _ _) (by first | assumption | exact List.cons_ne_nil _ _) ?_); (focus first | ((repeat (first | exact trivial | refine ⟨(by first | exact Or.inl rfl | exact Or.inr rfl), ?_⟩)); done) | (simp only [coL, AV.dat, true_or, or_true, AV.d.injEq, go_sem]; done)); simp only [go_sem, u0, u1, u2, u6, u7, u19, u20, u21, uh, r1, r2, u38, u39, u40, jz, e2, emτ, hnn, htk, ht1, Int.toNat_natCast]) | ((first | refine CallK.chg (enter141) (m2) ?_ (agM _ (by simp only [go_sem, u0, mtO])) (Fr.rfl' _ _) ?_ | refine CallD.chg (enter141) (m2) ?_ (agM _ (by simp only [go_sem, u0, mtO])) (Fr.rfl' _ _) (by first | assumption | exact List.cons_ne_nil _ _) ?_); (focus first | ((repeat (first | exact trivial | refine ⟨(by first | exact Or.inl rfl | exact Or.inr rfl), ?_⟩)); done) | (simp only [coL, AV.dat, true_or, or_true, AV.d.injEq, go_sem]; done)); simp only [go_sem, u0, u1, u2, u6, u7, u19, u20, u21, uh, r1, r2, u38, u39, u40, jz, e2, emτ, hnn, htk, ht1, Int.toNat_natCast]) | ((first | refine CallK.look (enter124) (m3) ?_ (roM _ (by simp only [go_sem, u0, mtO])) (Fr.rfl' _ _) ?_ | refine CallD.look (enter124) (m3) ?_ (roM _ (by simp only [go_sem, u0, mtO])) (Fr.rfl' _ _) (by first | assumption | exact List.cons_ne_nil _ _) ?_); (focus first | ((repeat (first | exact trivial | refine ⟨(by first | exact Or.inl rfl | exact Or.inr rfl), ?_⟩)); done) | (simp only [coL, AV.dat, true_or, or_true, AV.d.injEq, go_sem]; done)); simp only [go_sem, u0, u1, u2, u6, u7, u19, u20, u21, uh, r1, r2, u38, u39, u40, jz, e2, emτ, hnn, htk, ht1, Int.toNat_natCast]) | refine And.intro (by first | ((repeat' first | omega | exact trivial | rfl | assumption | (intro a e; subst e; rfl) | exact map_sz fun a => (by simp only [go_sem]) | refine And.intro ?_ ?_); done) | fail) ?_ | fail)
                    refine ⟨⟨j + 1, ?_⟩, ?_⟩
                    rotate_left
                    · simp only [go_sem, u0, u1, u2, u6, u7, u19, u20, u21, uh, r1, r2, u38, u39, u40]; omega
                    simp only [go_sem, u0, u1, u2, u6, u7, u19, u20, u21, uh, r1, r2, u38, u39, u40]
                    and_intros; all_goals try (first | rfl | omega | assumption | ((repeat (first | exact Fr.rfl' _ _ | assumption | refine Fr.updk ?_ (by omega) _)); done))
                    refine Fr.stH ?_ _ (fun n hn => by simp only [List.mem_cons, List.not_mem_nil, or_false] at hn; subst hn; show k ≤ τ.k + 1 + 1; omega)
                    refine Fr.stH ?_ _ (fun n hn => by simp only [List.mem_cons, List.not_mem_nil, or_false] at hn; subst hn; show k ≤ τ.k + 1 + 1; omega)
                    repeat (first | assumption | refine Fr.updk ?_ (by omega) _)
                  | true =>
                    rw [h5] at m3
                    rw [h5, Bool.true_or] at uv
                    repeat' (first | (refine CallK.clone mm (bsE b) rfl ⟨.inl rfl, trivial⟩ (by simp only [go_sem, emτ, r1]) (by simp only [go_sem, hnn]) ?_; simp only [go_sem, u0, hnn, r1, r2]) | (refine And.intro ⟨fun a e => (by subst e; rfl), by omega, by omega, by omega, map_sz (by intro a; simp only [go_sem])⟩ ?_) | refine awp_seq_k fun K hK => ?_ | ((first | refine awp_region_k (by kernel_rfl) fun R hR => ?_ | refine awp_draw mixed (by kernel_rfl) (by kernel_rfl) fun R hR => ?_); simp only [go_sem, u0, u1, u2, u6, u7, u19, u20, u21, uh, r1, r2, u38, u39, u40, jz, e2, emτ, hnn, htk, ht1, Int.toNat_natCast]) | ((first | (refine hR _ ?_; clear hR R) | refine awp_skip ?_ | refine awp_exit ?_ | refine awp_ret ?_); try simp only [thenA, inBlockA, reduceIte, reduceCtorEq, Nat.reduceEqDiff, if_false, if_true]) | ((first | refine hK _ ?_ | (clear hK K; first | refine hK _ ?_ | (clear hK K; first | refine hK _ ?_ | (clear hK K; first | refine hK _ ?_ | (clear hK K; refine hK _ ?_))))); clear hK K) | refine awp_true rfl rfl ?_ | refine awp_false rfl rfl ?_ | refine awp_block ?_ | ((first | refine CallK.chg (enter141) (m1) ?_ (agM _ (by simp only [go_sem, u0])) (Fr.rfl' _ _) ?_ | refine CallD.chg (enter141) (m1) ?_ (agM _ (by simp only [go_sem, u0])) (Fr.rfl' _ _) (by first | assumption | exact List.cons_ne_nil _ _) ?_); (focus first | ((repeat (first | exact trivial | refine ⟨(by first | exact Or.inl rfl | exact Or.inr rfl), ?_⟩)); done) | (simp only [coL, AV.dat, true_or, or_true, AV.d.injEq, go_sem]; done)); simp only [go_sem, u0, u1, u2, u6, u7, u19, u20, u21, uh, r1, r2, u38, u39, u40, jz, e2, emτ, hnn, htk, ht1, Int.toNat_natCast]) | ((first | refine CallK.chg (enter141) (m2) ?_ (agM _ (by simp only [go_sem, u0, mtO])) (Fr.rfl' _ _) ?_ | refine CallD.chg (enter141) (m2) ?_ (agM _ (by simp only [go_sem, u0, mtO])) (Fr.rfl' _ _) (by first | assumption | exact List.cons_ne_nil _ _) ?_); (focus first | ((repeat (first | exact trivial | refine ⟨(by first | exact Or.inl rfl | exact Or.inr rfl), ?_⟩)); done) | (simp only [coL, AV.dat, true_or, or_true, AV.d.injEq, go_sem]; done)); simp only [go_sem, u0, u1, u2, u6, u7, u19, u20, u21, uh, r1, r2, u38, u39, u40, jz, e2, emτ, hnn, htk, ht1, Int.toNat_natCast]) | ((first | refine CallK.look (enter124) (m3) ?_ (roM _ (by simp only [go_sem, u0, mtO])) (Fr.rfl' _ _) ?_ | refine CallD.look (enter124) (m3) ?_ (roM _ (by simp only [go_sem, u0, mtO])) (Fr.rfl' _ _) (by first | assumption | exact List.cons_ne_nil _ _) ?_); (focus first | ((repeat (first | exact trivial | refine ⟨(by first | exact Or.inl rfl | exact Or.inr rfl), ?_⟩)); done) | (simp only [coL, AV.dat, true_or, or_true, AV.d.injEq, go_sem]; done)); simp only [go_sem, u0, u1, u2, u6, u7, u19, u20, u21, uh, r1, r2, u38, u39, u40, jz, e2, emτ, hnn, htk, ht1, Int.toNat_natCast]) | refine And.intro (by first | ((repeat' first | omega | exact trivial | rfl | assumption | (intro a e; subst e; rfl) | exact map_sz fun a => (by simp only [go_sem]) | refine And.intro ?_ ?_); done) | fail) ?_ | fail)
                    (first | refine ret_pure ?_ ?_ ?_ | refine ret_ro ?_ ?_ ?_); focus exact (by simp only [Try.results124, resOkL, resOk, Try.ntmps124, List.toList_toArray]; first | decide | (simp only [go_sem, u6]; done) | (simp only [go_sem, u6]; and_intros <;> first | omega | rfl | decide))
                    rotate_left; focus exact (by repeat (first | exact Fr.rfl' _ _ | assumption | refine Fr.updk ?_ (by omega) _ | refine Fr.stH ?_ _ (by intro n hn; simp only [List.mem_cons, List.not_mem_nil, or_false] at hn; subst hn; simp only; omega)))
                    simp only [resA, resV, Try.results124, go_sem, u6]
                    all_goals try (first | exact Co.t2 (.dat rfl) (.dat rfl) | exact Co.t3 (.dat rfl) (.dat rfl) (.dat rfl))
                    exact co_b uv
            · have jz : ¬ ((j : Int) < ((2 : Nat) : Int)) := by omega
              obtain rfl : j = 2 := by omega
              rw [List.drop_eq_nil_of_le (by omega), List.any_nil, Bool.false_or] at uv
              repeat' (first | refine awp_seq_k fun K hK => ?_ | ((first | refine awp_region_k (by kernel_rfl) fun R hR => ?_ | refine awp_draw mixed (by kernel_rfl) (by kernel_rfl) fun R hR => ?_); simp only [go_sem, u0, u1, u2, u6, u7, u19, u20, u21, uh, r1, r2, u38, u39, u40, jz, emτ]) | ((first | (refine hR _ ?_; clear hR R) | refine awp_skip ?_ | refine awp_exit ?_ | refine awp_ret ?_); try simp only [thenA, inBlockA, reduceIte, reduceCtorEq, Nat.reduceEqDiff, if_false, if_true]) | ((first | refine hK _ ?_ | (clear hK K; first | refine hK _ ?_ | (clear hK K; first | refine hK _ ?_ | (clear hK K; first | refine hK _ ?_ | (clear hK K; refine hK _ ?_))))); clear hK K) | refine awp_true rfl rfl ?_ | refine awp_false rfl rfl ?_ | refine awp_block ?_ | refine And.intro (by first | ((repeat' first | omega | exact trivial | rfl | assumption | (intro a e; subst e; rfl) | exact map_sz fun a => (by simp only [go_sem]) | refine And.intro ?_ ?_); done) | fail) ?_ | fail)
              refine ⟨⟨i + 1, ?_⟩, ?_⟩
              rotate_left
              · simp only [go_sem, u0, u1, u2, u6, u7, u19, u20, u21, uh, r1, r2, s21]; omega
              simp only [go_sem, u0, u1, u2, u6, u7, u19, u20, u21, uh, r1, r2, s21]
              and_intros; all_goals try (first | rfl | omega | assumption | ((repeat (first | exact Fr.rfl' _ _ | assumption | refine Fr.updk ?_ (by omega) _)); done))
      · have hz : ¬ ((i : Int) < (d.length : Int)) := by omega
        obtain rfl : i = d.length := by omega
        rw [List.drop_length, List.any_nil] at hv
        repeat' (first | refine awp_seq_k fun K hK => ?_ | ((first | refine awp_region_k (by kernel_rfl) fun R hR => ?_ | refine awp_draw mixed (by kernel_rfl) (by kernel_rfl) fun R hR => ?_); simp only [go_sem, s0, s1, s2, s6, s7, s19, s20, s21, hz]) | ((first | (refine hR _ ?_; clear hR R) | refine awp_skip ?_ | refine awp_exit ?_ | refine awp_ret ?_); try simp only [thenA, inBlockA, reduceIte, reduceCtorEq, Nat.reduceEqDiff, if_false, if_true]) | ((first | refine hK _ ?_ | (clear hK K; first | refine hK _ ?_ | (clear hK K; first | refine hK _ ?_ | (clear hK K; first | refine hK _ ?_ | (clear hK K; refine hK _ ?_))))); clear hK K) | refine awp_true rfl rfl ?_ | refine awp_false rfl rfl ?_ | refine awp_block ?_ | refine And.intro (by first | ((repeat' first | omega | exact trivial | rfl | assumption | (intro a e; subst e; rfl) | exact map_sz fun a => (by simp only [go_sem]) | refine And.intro ?_ ?_); done) | fail) ?_ | fail)
        (first | refine ret_pure ?_ ?_ ?_ | refine ret_ro ?_ ?_ ?_); focus exact (by simp only [Try.results124, resOkL, resOk, Try.ntmps124, List.toList_toArray]; first | decide | (simp only [go_sem, s6]; done) | (simp only [go_sem, s6]; and_intros <;> first | omega | rfl | decide))
        rotate_left; focus exact (by repeat (first | exact Fr.rfl' _ _ | assumption | refine Fr.updk ?_ (by omega) _ | refine Fr.stH ?_ _ (by intro n hn; simp only [List.mem_cons, List.not_mem_nil, or_false] at hn; subst hn; simp only; omega)))
        simp only [resA, resV, Try.results124, go_sem, s6]
        all_goals try (first | exact Co.t2 (.dat rfl) (.dat rfl) | exact Co.t3 (.dat rfl) (.dat rfl) (.dat rfl))
        exact co_b hv
end Go.Proofs.Ytmeekpinkfpnhaa
namespace Go.Proofs.Ytmeekpinkfpnhaa
open Go.RowKit
set_option maxRecDepth 20000 in
theorem coversAll_tri (c d : List Lt) (hc : c.length ≤ 4000000) (hd : d.length ≤ 4000000) (hsz : ∀ l ∈ c, l.a.size ≤ 4000000 ∧ l.b.size ≤ 4000000) : Tri Try.prog 90 [.d (clDV c), .d (clDV d)] (pure' (bA (covG meet c d []))) := by
  refine tri_enter Try.func90 rfl Try.ntmps90 (by simp only [List.length_cons, List.length_nil]; omega) fun w0 h0 k hrd hwr => ?_
  have h := covers_tri d hd c hc hsz (k + 1, 0) []
  repeat' (first | refine awp_seq_k fun K hK => ?_ | ((first | refine awp_region_k (by kernel_rfl) fun R hR => ?_ | refine awp_draw mixed (by kernel_rfl) (by kernel_rfl) fun R hR => ?_); simp only [go_sem]) | ((first | (refine hR _ ?_; clear hR R) | refine awp_skip ?_ | refine awp_exit ?_ | refine awp_ret ?_); try simp only [thenA, inBlockA, reduceIte, reduceCtorEq, Nat.reduceEqDiff, if_false, if_true]) | ((first | refine hK _ ?_ | (clear hK K; first | refine hK _ ?_ | (clear hK K; first | refine hK _ ?_ | (clear hK K; first | refine hK _ ?_ | (clear hK K; refine hK _ ?_))))); clear hK K) | refine awp_true rfl rfl ?_ | refine awp_false rfl rfl ?_ | refine awp_block ?_ | ((first | refine CallK.look (enter124) (h) ?_ (roM _ (by simp only [go_sem, bsE, List.map_nil])) (Fr.rfl' _ _) ?_ | refine CallD.look (enter124) (h) ?_ (roM _ (by simp only [go_sem, bsE, List.map_nil])) (Fr.rfl' _ _) (by first | assumption | exact List.cons_ne_nil _ _) ?_); (focus first | ((repeat (first | exact trivial | refine ⟨(by first | exact Or.inl rfl | exact Or.inr rfl), ?_⟩)); done) | (simp only [coL, AV.dat, true_or, or_true, AV.d.injEq, go_sem]; done)); simp only [go_sem]) | refine And.intro (by first | ((repeat' first | omega | exact trivial | rfl | assumption | (intro a e; subst e; rfl) | exact map_sz fun a => (by simp only [go_sem]) | refine And.intro ?_ ?_); done) | fail) ?_ | fail)
  (first | refine ret_pure ?_ ?_ ?_ | refine ret_ro ?_ ?_ ?_); focus exact (by simp only [Try.results90, resOkL, resOk, Try.ntmps90, List.toList_toArray]; first | decide | (simp only [go_sem]; done) | (simp only [go_sem]; and_intros <;> first | omega | rfl | decide))
  rotate_left; focus exact (by repeat (first | exact Fr.rfl' _ _ | assumption | refine Fr.updk ?_ (by omega) _))
  simp only [resA, resV, Try.results90, go_sem]
  all_goals try (first | exact Co.t2 (.dat rfl) (.dat rfl) | exact Co.t3 (.dat rfl) (.dat rfl) (.dat rfl))
  all_goals exact .dat rfl
def subAns (g : List Int) (c d : List Lt) : Bool × Int := if clsOk g [c, d] ≠ 0 then (false, clsOk g [c, d]) else (covG meet c d [], 0)
set_option maxRecDepth 20000 in
theorem subsumes_tri (g : List Int) (c d : List Lt) (hc : c.length ≤ 4000000) (hd : d.length ≤ 4000000) (hsz : ∀ l ∈ c, l.a.size ≤ 4000000 ∧ l.b.size ≤ 4000000) : Tri Try.prog 31 [.d (sgDV g), .d (clDV c), .d (clDV d)] (pure' (.tup [bA (subAns g c d).1, iA (subAns g c d).2])) := by
  have hcc := clCheck_tri g [c, d] (by simp) (by intro x hx; simp only [List.mem_cons, List.not_mem_nil, or_false] at hx; rcases hx with rfl | rfl <;> omega)
  refine tri_enter Try.func31 rfl Try.ntmps31 (by simp only [List.length_cons, List.length_nil]; omega) fun w0 h0 k hrd hwr => ?_
  cases ho : clsOk g [c, d] == 0 with
  | false =>
    have ho' : (clsOk g [c, d] != 0) = true := by simpa using ho
    have ha : subAns g c d = (false, clsOk g [c, d]) := by unfold subAns; rw [if_pos (by simpa using ho)]
    repeat' (first | refine awp_seq_k fun K hK => ?_ | ((first | refine awp_region_k (by kernel_rfl) fun R hR => ?_ | refine awp_draw mixed (by kernel_rfl) (by kernel_rfl) fun R hR => ?_); simp only [go_sem, ho']) | ((first | (refine hR _ ?_; clear hR R) | refine awp_skip ?_ | refine awp_exit ?_ | refine awp_ret ?_); try simp only [thenA, inBlockA, reduceIte, reduceCtorEq, Nat.reduceEqDiff, if_false, if_true]) | ((first | refine hK _ ?_ | (clear hK K; first | refine hK _ ?_ | (clear hK K; first | refine hK _ ?_ | (clear hK K; first | refine hK _ ?_ | (clear hK K; refine hK _ ?_))))); clear hK K) | refine awp_true rfl rfl ?_ | refine awp_false rfl rfl ?_ | refine awp_block ?_ | ((first | refine CallK.pure (enter36) (hcc) ?_ ?_ | refine CallD.pure (enter36) (hcc) ?_ ?_); (focus first | ((repeat (first | exact trivial | refine ⟨(by first | exact Or.inl rfl | exact Or.inr rfl), ?_⟩)); done) | (simp only [coL, AV.dat, true_or, or_true, AV.d.injEq, go_sem]; done)); simp only [go_sem, ho']) | refine And.intro (by first | ((repeat' first | omega | exact trivial | rfl | assumption | (intro a e; subst e; rfl) | exact map_sz fun a => (by simp only [go_sem]) | refine And.intro ?_ ?_); done) | fail) ?_ | fail)
    rw [ha]
    (first | refine ret_pure ?_ ?_ ?_ | refine ret_ro ?_ ?_ ?_); focus exact (by simp only [Try.results31, resOkL, resOk, Try.ntmps31, List.toList_toArray]; first | decide | (simp only [go_sem]; done) | (simp only [go_sem]; and_intros <;> first | omega | rfl | decide))
    rotate_left; focus exact (by repeat (first | exact Fr.rfl' _ _ | assumption | refine Fr.updk ?_ (by omega) _))
    simp only [resA, resV, Try.results31, go_sem]
    all_goals try (first | exact Co.t2 (.dat rfl) (.dat rfl) | exact Co.t3 (.dat rfl) (.dat rfl) (.dat rfl))
  | true =>
    have ho2 : clsOk g [c, d] = 0 := by simpa using ho
    have ha : subAns g c d = (covG meet c d [], 0) := by unfold subAns; rw [if_neg (by simp [ho2])]
    repeat' (first | refine awp_seq_k fun K hK => ?_ | ((first | refine awp_region_k (by kernel_rfl) fun R hR => ?_ | refine awp_draw mixed (by kernel_rfl) (by kernel_rfl) fun R hR => ?_); simp only [go_sem, ho2, bne_self_eq_false]) | ((first | (refine hR _ ?_; clear hR R) | refine awp_skip ?_ | refine awp_exit ?_ | refine awp_ret ?_); try simp only [thenA, inBlockA, reduceIte, reduceCtorEq, Nat.reduceEqDiff, if_false, if_true]) | ((first | refine hK _ ?_ | (clear hK K; first | refine hK _ ?_ | (clear hK K; first | refine hK _ ?_ | (clear hK K; first | refine hK _ ?_ | (clear hK K; refine hK _ ?_))))); clear hK K) | refine awp_true rfl rfl ?_ | refine awp_false rfl rfl ?_ | refine awp_block ?_ | ((first | refine CallK.pure (enter36) (hcc) ?_ ?_ | refine CallD.pure (enter36) (hcc) ?_ ?_ | refine CallK.pure (enter90) (coversAll_tri c d hc hd hsz) ?_ ?_ | refine CallD.pure (enter90) (coversAll_tri c d hc hd hsz) ?_ ?_); (focus first | ((repeat (first | exact trivial | refine ⟨(by first | exact Or.inl rfl | exact Or.inr rfl), ?_⟩)); done) | (simp only [coL, AV.dat, true_or, or_true, AV.d.injEq, go_sem]; done)); simp only [go_sem, ho2, bne_self_eq_false]) | refine And.intro (by first | ((repeat' first | omega | exact trivial | rfl | assumption | (intro a e; subst e; rfl) | exact map_sz fun a => (by simp only [go_sem]) | refine And.intro ?_ ?_); done) | fail) ?_ | fail)
    rw [ha]
    (first | refine ret_pure ?_ ?_ ?_ | refine ret_ro ?_ ?_ ?_); focus exact (by simp only [Try.results31, resOkL, resOk, Try.ntmps31, List.toList_toArray]; first | decide | (simp only [go_sem]; done) | (simp only [go_sem]; and_intros <;> first | omega | rfl | decide))
    rotate_left; focus exact (by repeat (first | exact Fr.rfl' _ _ | assumption | refine Fr.updk ?_ (by omega) _))
    simp only [resA, resV, Try.results31, go_sem]
    all_goals try (first | exact Co.t2 (.dat rfl) (.dat rfl) | exact Co.t3 (.dat rfl) (.dat rfl) (.dat rfl))
end Go.Proofs.Ytmeekpinkfpnhaa
namespace Go.Proofs.Ytmeekpinkfpnhaa
open Go.RowKit
set_option maxHeartbeats 2000000 in
set_option maxRecDepth 20000 in
theorem coversOf_tri (d : List Lt) (hd : d.length ≤ 4000000) : ∀ (c : List Lt), c.length ≤ 4000000 → ∀ (b : Bs), b.length + szC c ≤ 4000000 →
    Tri Try.prog 34 [.d (bsDV b), .d (clDV c), .d (clDV d)] (pure' (bA (covG grow c d b)))
  | [], _, b, _ => by
    refine tri_enter Try.func34 rfl Try.ntmps34 (by simp only [List.length_cons, List.length_nil]; omega) fun w0 h0 k hrd hwr => ?_
    repeat' (first | refine awp_seq_k fun K hK => ?_ | ((first | refine awp_region_k (by kernel_rfl) fun R hR => ?_ | refine awp_draw mixed (by kernel_rfl) (by kernel_rfl) fun R hR => ?_); simp only [go_sem]) | ((first | (refine hR _ ?_; clear hR R) | refine awp_skip ?_ | refine awp_exit ?_ | refine awp_ret ?_); try simp only [thenA, inBlockA, reduceIte, reduceCtorEq, Nat.reduceEqDiff, if_false, if_true]) | ((first | refine hK _ ?_ | (clear hK K; first | refine hK _ ?_ | (clear hK K; first | refine hK _ ?_ | (clear hK K; first | refine hK _ ?_ | (clear hK K; refine hK _ ?_))))); clear hK K) | refine awp_true rfl rfl ?_ | refine awp_false rfl rfl ?_ | refine awp_block ?_ | refine And.intro (by first | ((repeat' first | omega | exact trivial | rfl | assumption | (intro a e; subst e; rfl) | exact map_sz fun a => (by simp only [go_sem]) | refine And.intro ?_ ?_); done) | fail) ?_ | fail)
    (first | refine ret_pure ?_ ?_ ?_ | refine ret_ro ?_ ?_ ?_); focus exact (by simp only [Try.results34, resOkL, resOk, Try.ntmps34, List.toList_toArray]; first | decide | (simp only [go_sem]; done) | (simp only [go_sem]; and_intros <;> first | omega | rfl | decide))
    rotate_left; focus exact (by repeat (first | exact Fr.rfl' _ _ | assumption | refine Fr.updk ?_ (by omega) _))
    simp only [resA, resV, Try.results34, go_sem]
    all_goals try (first | exact Co.t2 (.dat rfl) (.dat rfl) | exact Co.t3 (.dat rfl) (.dat rfl) (.dat rfl))
    exact .dat rfl
  | l :: c, hcl, b, hsz => by
    have hszc : szC (l :: c) = (l.a.size + l.b.size) + szC c := by simp [szC]
    have ih := coversOf_tri d hd c (by simp at hcl; omega)
    obtain ⟨G, hG⟩ : ∃ G : Lt → Bool, ∀ x, G x = ((x.y == l.y) && ((tryG grow l x b).1 && covG grow c d (tryG grow l x b).2)) := ⟨_, fun _ => rfl⟩
    have hF0 : covG grow (l :: c) d b = d.any fun x => G x || G (turnL x) := by
      rw [covG]; exact any_same fun x _ => by rw [hG, hG]; show _ = ((x.y == l.y && _) || (x.y == l.y && _)); cases (x.y == l.y) <;> rfl
    refine tri_enter Try.func34 rfl Try.ntmps34 (by simp only [List.length_cons, List.length_nil]; omega) fun w0 h0 k hrd hwr => ?_
    have htk : (c.map ltDV).take c.length = c.map ltDV := List.take_of_length_le (by simp)
    have ht1 : Int.toNat 1 = 1 := rfl
    have e0 : (ltDV l :: List.map ltDV c).getD (Int.toNat 0) default = ltDV l := rfl
    repeat' (first | refine awp_seq_k fun K hK => ?_ | ((first | refine awp_region_k (by kernel_rfl) fun R hR => ?_ | refine awp_draw mixed (by kernel_rfl) (by kernel_rfl) fun R hR => ?_); simp only [go_sem, e0]) | ((first | (refine hR _ ?_; clear hR R) | refine awp_skip ?_ | refine awp_exit ?_ | refine awp_ret ?_); try simp only [thenA, inBlockA, reduceIte, reduceCtorEq, Nat.reduceEqDiff, if_false, if_true]) | ((first | refine hK _ ?_ | (clear hK K; first | refine hK _ ?_ | (clear hK K; first | refine hK _ ?_ | (clear hK K; first | refine hK _ ?_ | (clear hK K; refine hK _ ?_))))); clear hK K) | refine awp_true rfl rfl ?_ | refine awp_false rfl rfl ?_ | refine awp_block ?_ | refine And.intro (by first | ((repeat' first | omega | exact trivial | rfl | assumption | (intro a e; subst e; rfl) | exact map_sz fun a => (by simp only [go_sem]) | refine And.intro ?_ ?_); done) | fail) ?_ | fail)
    refine awp_loop (fun σ => ∃ i : Nat, σ.t 0 = .d (bsDV b) ∧ σ.t 1 = .d (clDV (l :: c)) ∧ σ.t 2 = .d (clDV d) ∧ σ.t 6 = bA false ∧ σ.t 7 = iA i ∧ Fr k h0 σ.h ∧ k < σ.k ∧ i ≤ d.length ∧ ((d.drop i).any fun x => G x || G (turnL x)) = covG grow (l :: c) d b) (fun σ => d.length - (intOf' (σ.t 7)).toNat) ?_ ?_
    · refine ⟨0, ?_⟩
      simp only [go_sem, List.drop_zero]
      and_intros; all_goals try (first | rfl | omega | assumption | ((repeat (first | exact Fr.rfl' _ _ | assumption | refine Fr.updk ?_ (by omega) _)); done))
      all_goals rw [hF0]
    · rintro σ ⟨i, s0, s1, s2, s6, s7, hF, hk, hi, hv⟩
      rcases Nat.lt_or_ge i d.length with hlt | hge
      · have hz : (i : Int) < (d.length : Int) := by omega
        have e1 : (d.map ltDV).getD i default = ltDV d[i] := nth_map ltDV hlt _
        rw [List.drop_eq_getElem_cons hlt, List.any_cons] at hv
        obtain ⟨L, hL⟩ : ∃ L, L = [d[i], turnL d[i]] := ⟨_, rfl⟩
        have hL2 : L.length = 2 := by rw [hL]; rfl
        have hLv : ((L.drop 0).any G || (d.drop (i + 1)).any fun x => G x || G (turnL x)) = covG grow (l :: c) d b := by rw [hL, ← hv]; simp
        repeat' (first | refine awp_seq_k fun K hK => ?_ | ((first | refine awp_region_k (by kernel_rfl) fun R hR => ?_ | refine awp_draw mixed (by kernel_rfl) (by kernel_rfl) fun R hR => ?_); simp only [go_sem, s0, s1, s2, s6, s7, e1, hz, Int.toNat_natCast]) | ((first | (refine hR _ ?_; clear hR R) | refine awp_skip ?_ | refine awp_exit ?_ | refine awp_ret ?_); try simp only [thenA, inBlockA, reduceIte, reduceCtorEq, Nat.reduceEqDiff, if_false, if_true]) | ((first | refine hK _ ?_ | (clear hK K; first | refine hK _ ?_ | (clear hK K; first | refine hK _ ?_ | (clear hK K; first | refine hK _ ?_ | (clear hK K; refine hK _ ?_))))); clear hK K) | refine awp_true rfl rfl ?_ | refine awp_false rfl rfl ?_ | refine awp_block ?_ | refine And.intro (by first | ((repeat' first | omega | exact trivial | rfl | assumption | (intro a e; subst e; rfl) | exact map_sz fun a => (by simp only [go_sem]) | refine And.intro ?_ ?_); done) | fail) ?_ | fail)
        refine awp_loop (fun τ => ∃ j : Nat, τ.t 0 = .d (bsDV b) ∧ τ.t 1 = .d (clDV (l :: c)) ∧ τ.t 2 = .d (clDV d) ∧ τ.t 6 = bA false ∧ τ.t 7 = iA i ∧ τ.t 8 = iA j ∧
          Fr k h0 τ.h ∧ σ.k < τ.k ∧ j ≤ 2 ∧ ((L.drop j).any G || (d.drop (i + 1)).any fun x => G x || G (turnL x)) = covG grow (l :: c) d b) (fun τ => 2 - (intOf' (τ.t 8)).toNat) ?_ ?_
        · refine ⟨0, ?_⟩
          simp only [go_sem, s0, s1, s2, s6, s7]
          and_intros; all_goals try (first | rfl | omega | assumption | ((repeat (first | exact Fr.rfl' _ _ | assumption | refine Fr.updk ?_ (by omega) _)); done))
          all_goals exact hLv
        · rintro τ ⟨j, u0, u1, u2, u6, u7, u8, uF, uk, uj, uv⟩
          rcases Nat.lt_or_ge j 2 with jlt | jge
          · have z01 : ((0 : Int) == 1) = false := rfl
            have z02 : decide ((0 : Int) < 2) = true := rfl
            have z12 : decide ((1 : Int) < 2) = true := rfl
            have z11 : ((1 : Int) == 1) = true := rfl
            obtain rfl | rfl : j = 0 ∨ j = 1 := by omega
            · have u8' : τ.t 8 = iA 0 := u8
              have hd : L.drop 0 = d[i] :: L.drop (0 + 1) := by rw [hL]; rfl
              rw [hd, List.any_cons, hG] at uv
              cases hy : (d[i].y == l.y) with
              | false =>
                have hy' : (d[i].y == l.y) = false := hy
                rw [hy', Bool.false_and, Bool.false_or] at uv
                repeat' (first | refine awp_seq_k fun K hK => ?_ | ((first | refine awp_region_k (by kernel_rfl) fun R hR => ?_ | refine awp_draw mixed (by kernel_rfl) (by kernel_rfl) fun R hR => ?_); simp only [go_sem, u0, u1, u2, u6, u7, u8', z01, z02, z12, z11, hz, e0, e1, hy, Int.toNat_natCast]) | ((first | (refine hR _ ?_; clear hR R) | refine awp_skip ?_ | refine awp_exit ?_ | refine awp_ret ?_); try simp only [thenA, inBlockA, reduceIte, reduceCtorEq, Nat.reduceEqDiff, if_false, if_true]) | ((first | refine hK _ ?_ | (clear hK K; first | refine hK _ ?_ | (clear hK K; first | refine hK _ ?_ | (clear hK K; first | refine hK _ ?_ | (clear hK K; refine hK _ ?_))))); clear hK K) | refine awp_true rfl rfl ?_ | refine awp_false rfl rfl ?_ | refine awp_block ?_ | ((first | refine CallK.pure (enter93) (turned_tri d[i]) ?_ ?_ | refine CallD.pure (enter93) (turned_tri d[i]) ?_ ?_); (focus first | ((repeat (first | exact trivial | refine ⟨(by first | exact Or.inl rfl | exact Or.inr rfl), ?_⟩)); done) | (simp only [coL, AV.dat, true_or, or_true, AV.d.injEq, go_sem]; done)); simp only [go_sem, u0, u1, u2, u6, u7, u8', z01, z02, z12, z11, hz, e0, e1, hy, Int.toNat_natCast]) | refine And.intro (by first | ((repeat' first | omega | exact trivial | rfl | assumption | (intro a e; subst e; rfl) | exact map_sz fun a => (by simp only [go_sem]) | refine And.intro ?_ ?_); done) | fail) ?_ | fail)
                refine ⟨⟨0 + 1, ?_⟩, ?_⟩
                rotate_left
                · simp only [go_sem, u0, u1, u2, u6, u7, u8']; omega
                simp only [go_sem, u0, u1, u2, u6, u7, u8']
                and_intros; all_goals try (first | rfl | omega | assumption | ((repeat (first | exact Fr.rfl' _ _ | assumption | refine Fr.updk ?_ (by omega) _)); done))
              | true =>
                have hy' : (d[i].y == l.y) = true := hy
                rw [hy', Bool.true_and] at uv
                have m1 := grow_tri l.a d[i].a b (by omega)
                have gl := grow_len l.a d[i].a b
                cases h3 : (grow l.a d[i].a b).1 with
                | false =>
                  rw [h3] at m1
                  have hG0 : tryG grow l d[i] b = (false, (grow l.a d[i].a b).2) := by
                    unfold tryG
                    show (if (grow l.a d[i].a b).1 = true then _ else (false, (grow l.a d[i].a b).2)) = _
                    rw [h3]; rfl
                  rw [hG0, Bool.false_and, Bool.false_or] at uv
                  repeat' (first | refine awp_seq_k fun K hK => ?_ | ((first | refine awp_region_k (by kernel_rfl) fun R hR => ?_ | refine awp_draw mixed (by kernel_rfl) (by kernel_rfl) fun R hR => ?_); simp only [go_sem, u0, u1, u2, u6, u7, u8', z01, z02, z12, z11, hz, e0, e1, hy, htk, ht1, Int.toNat_natCast]) | ((first | (refine hR _ ?_; clear hR R) | refine awp_skip ?_ | refine awp_exit ?_ | refine awp_ret ?_); try simp only [thenA, inBlockA, reduceIte, reduceCtorEq, Nat.reduceEqDiff, if_false, if_true]) | ((first | refine hK _ ?_ | (clear hK K; first | refine hK _ ?_ | (clear hK K; first | refine hK _ ?_ | (clear hK K; first | refine hK _ ?_ | (clear hK K; refine hK _ ?_))))); clear hK K) | refine awp_true rfl rfl ?_ | refine awp_false rfl rfl ?_ | refine awp_block ?_ | ((first | refine CallK.pure (enter93) (turned_tri d[i]) ?_ ?_ | refine CallD.pure (enter93) (turned_tri d[i]) ?_ ?_ | refine CallK.pure (enter94) (m1) ?_ ?_ | refine CallD.pure (enter94) (m1) ?_ ?_); (focus first | ((repeat (first | exact trivial | refine ⟨(by first | exact Or.inl rfl | exact Or.inr rfl), ?_⟩)); done) | (simp only [coL, AV.dat, true_or, or_true, AV.d.injEq, go_sem]; done)); simp only [go_sem, u0, u1, u2, u6, u7, u8', z01, z02, z12, z11, hz, e0, e1, hy, htk, ht1, Int.toNat_natCast]) | refine And.intro (by first | ((repeat' first | omega | exact trivial | rfl | assumption | (intro a e; subst e; rfl) | exact map_sz fun a => (by simp only [go_sem]) | refine And.intro ?_ ?_); done) | fail) ?_ | fail)
                  refine ⟨⟨0 + 1, ?_⟩, ?_⟩
                  rotate_left
                  · simp only [go_sem, u0, u1, u2, u6, u7, u8']; omega
                  simp only [go_sem, u0, u1, u2, u6, u7, u8']
                  and_intros; all_goals try (first | rfl | omega | assumption | ((repeat (first | exact Fr.rfl' _ _ | assumption | refine Fr.updk ?_ (by omega) _)); done))
                | true =>
                  rw [h3] at m1
                  have hG0 : tryG grow l d[i] b = grow l.b d[i].b (grow l.a d[i].a b).2 := by
                    unfold tryG
                    show (if (grow l.a d[i].a b).1 = true then grow l.b d[i].b (grow l.a d[i].a b).2 else _) = _
                    rw [h3]; rfl
                  rw [hG0] at uv
                  generalize (grow l.a d[i].a b).2 = b1 at m1 uv hG0 gl
                  have m2 := grow_tri l.b d[i].b b1 (by omega)
                  have gl2 := grow_len l.b d[i].b b1
                  cases h4 : (grow l.b d[i].b b1).1 with
                  | false =>
                    rw [h4] at m2
                    rw [h4, Bool.false_and, Bool.false_or] at uv
                    repeat' (first | refine awp_seq_k fun K hK => ?_ | ((first | refine awp_region_k (by kernel_rfl) fun R hR => ?_ | refine awp_draw mixed (by kernel_rfl) (by kernel_rfl) fun R hR => ?_); simp only [go_sem, u0, u1, u2, u6, u7, u8', z01, z02, z12, z11, hz, e0, e1, hy, htk, ht1, Int.toNat_natCast]) | ((first | (refine hR _ ?_; clear hR R) | refine awp_skip ?_ | refine awp_exit ?_ | refine awp_ret ?_); try simp only [thenA, inBlockA, reduceIte, reduceCtorEq, Nat.reduceEqDiff, if_false, if_true]) | ((first | refine hK _ ?_ | (clear hK K; first | refine hK _ ?_ | (clear hK K; first | refine hK _ ?_ | (clear hK K; first | refine hK _ ?_ | (clear hK K; refine hK _ ?_))))); clear hK K) | refine awp_true rfl rfl ?_ | refine awp_false rfl rfl ?_ | refine awp_block ?_ | ((first | refine CallK.pure (enter94) (m1) ?_ ?_ | refine CallD.pure (enter94) (m1) ?_ ?_); (focus first | ((repeat (first | exact trivial | refine ⟨(by first | exact Or.inl rfl | exact Or.inr rfl), ?_⟩)); done) | (simp only [coL, AV.dat, true_or, or_true, AV.d.injEq, go_sem]; done)); simp only [go_sem, u0, u1, u2, u6, u7, u8', z01, z02, z12, z11, hz, e0, e1, hy, htk, ht1, Int.toNat_natCast]) | ((first | refine CallK.pure (enter94) (m2) ?_ ?_ | refine CallD.pure (enter94) (m2) ?_ ?_); (focus first | ((repeat (first | exact trivial | refine ⟨(by first | exact Or.inl rfl | exact Or.inr rfl), ?_⟩)); done) | (simp only [coL, AV.dat, true_or, or_true, AV.d.injEq, go_sem]; done)); simp only [go_sem, u0, u1, u2, u6, u7, u8', z01, z02, z12, z11, hz, e0, e1, hy, htk, ht1, Int.toNat_natCast]) | ((first | refine CallK.pure (enter93) (turned_tri d[i]) ?_ ?_ | refine CallD.pure (enter93) (turned_tri d[i]) ?_ ?_); (focus first | ((repeat (first | exact trivial | refine ⟨(by first | exact Or.inl rfl | exact Or.inr rfl), ?_⟩)); done) | (simp only [coL, AV.dat, true_or, or_true, AV.d.injEq, go_sem]; done)); simp only [go_sem, u0, u1, u2, u6, u7, u8', z01, z02, z12, z11, hz, e0, e1, hy, htk, ht1, Int.toNat_natCast]) | refine And.intro (by first | ((repeat' first | omega | exact trivial | rfl | assumption | (intro a e; subst e; rfl) | exact map_sz fun a => (by simp only [go_sem]) | refine And.intro ?_ ?_); done) | fail) ?_ | fail)
                    refine ⟨⟨0 + 1, ?_⟩, ?_⟩
                    rotate_left
                    · simp only [go_sem, u0, u1, u2, u6, u7, u8']; omega
                    simp only [go_sem, u0, u1, u2, u6, u7, u8']
                    and_intros; all_goals try (first | rfl | omega | assumption | ((repeat (first | exact Fr.rfl' _ _ | assumption | refine Fr.updk ?_ (by omega) _)); done))
                  | true =>
                    rw [h4] at m2
                    rw [h4, Bool.true_and] at uv
                    generalize (grow l.b d[i].b b1).2 = b2 at m2 uv hG0 gl2
                    have m3 := ih b2 (by omega)
                    cases h5 : covG grow c d b2 with
                    | false =>
                      rw [h5] at m3
                      rw [h5, Bool.false_or] at uv
                      repeat' (first | (refine And.intro ⟨fun a e => (by subst e; rfl), by omega, by omega, by omega, map_sz (by intro a; simp only [go_sem])⟩ ?_) | refine awp_seq_k fun K hK => ?_ | ((first | refine awp_region_k (by kernel_rfl) fun R hR => ?_ | refine awp_draw mixed (by kernel_rfl) (by kernel_rfl) fun R hR => ?_); simp only [go_sem, u0, u1, u2, u6, u7, u8', z01, z02, z12, z11, hz, e0, e1, hy, htk, ht1, Int.toNat_natCast]) | ((first | (refine hR _ ?_; clear hR R) | refine awp_skip ?_ | refine awp_exit ?_ | refine awp_ret ?_); try simp only [thenA, inBlockA, reduceIte, reduceCtorEq, Nat.reduceEqDiff, if_false, if_true]) | ((first | refine hK _ ?_ | (clear hK K; first | refine hK _ ?_ | (clear hK K; first | refine hK _ ?_ | (clear hK K; first | refine hK _ ?_ | (clear hK K; refine hK _ ?_))))); clear hK K) | refine awp_true rfl rfl ?_ | refine awp_false rfl rfl ?_ | refine awp_block ?_ | ((first | refine CallK.pure (enter94) (m1) ?_ ?_ | refine CallD.pure (enter94) (m1) ?_ ?_); (focus first | ((repeat (first | exact trivial | refine ⟨(by first | exact Or.inl rfl | exact Or.inr rfl), ?_⟩)); done) | (simp only [coL, AV.dat, true_or, or_true, AV.d.injEq, go_sem]; done)); simp only [go_sem, u0, u1, u2, u6, u7, u8', z01, z02, z12, z11, hz, e0, e1, hy, htk, ht1, Int.toNat_natCast]) | ((first | refine CallK.pure (enter94) (m2) ?_ ?_ | refine CallD.pure (enter94) (m2) ?_ ?_); (focus first | ((repeat (first | exact trivial | refine ⟨(by first | exact Or.inl rfl | exact Or.inr rfl), ?_⟩)); done) | (simp only [coL, AV.dat, true_or, or_true, AV.d.injEq, go_sem]; done)); simp only [go_sem, u0, u1, u2, u6, u7, u8', z01, z02, z12, z11, hz, e0, e1, hy, htk, ht1, Int.toNat_natCast]) | ((first | refine CallK.pure (enter93) (turned_tri d[i]) ?_ ?_ | refine CallD.pure (enter93) (turned_tri d[i]) ?_ ?_ | refine CallK.pure (enter34) (m3) ?_ ?_ | refine CallD.pure (enter34) (m3) ?_ ?_); (focus first | ((repeat (first | exact trivial | refine ⟨(by first | exact Or.inl rfl | exact Or.inr rfl), ?_⟩)); done) | (simp only [coL, AV.dat, true_or, or_true, AV.d.injEq, go_sem]; done)); simp only [go_sem, u0, u1, u2, u6, u7, u8', z01, z02, z12, z11, hz, e0, e1, hy, htk, ht1, Int.toNat_natCast]) | refine And.intro (by first | ((repeat' first | omega | exact trivial | rfl | assumption | (intro a e; subst e; rfl) | exact map_sz fun a => (by simp only [go_sem]) | refine And.intro ?_ ?_); done) | fail) ?_ | fail)
                      refine ⟨⟨0 + 1, ?_⟩, ?_⟩
                      rotate_left
                      · simp only [go_sem, u0, u1, u2, u6, u7, u8']; omega
                      simp only [go_sem, u0, u1, u2, u6, u7, u8']
                      and_intros; all_goals try (first | rfl | omega | assumption | ((repeat (first | exact Fr.rfl' _ _ | assumption | refine Fr.updk ?_ (by omega) _)); done))
                    | true =>
                      rw [h5] at m3
                      rw [h5, Bool.true_or] at uv
                      repeat' (first | (refine And.intro ⟨fun a e => (by subst e; rfl), by omega, by omega, by omega, map_sz (by intro a; simp only [go_sem])⟩ ?_) | refine awp_seq_k fun K hK => ?_ | ((first | refine awp_region_k (by kernel_rfl) fun R hR => ?_ | refine awp_draw mixed (by kernel_rfl) (by kernel_rfl) fun R hR => ?_); simp only [go_sem, u0, u1, u2, u6, u7, u8', z01, z02, z12, z11, hz, e0, e1, hy, htk, ht1, Int.toNat_natCast]) | ((first | (refine hR _ ?_; clear hR R) | refine awp_skip ?_ | refine awp_exit ?_ | refine awp_ret ?_); try simp only [thenA, inBlockA, reduceIte, reduceCtorEq, Nat.reduceEqDiff, if_false, if_true]) | ((first | refine hK _ ?_ | (clear hK K; first | refine hK _ ?_ | (clear hK K; first | refine hK _ ?_ | (clear hK K; first | refine hK _ ?_ | (clear hK K; refine hK _ ?_))))); clear hK K) | refine awp_true rfl rfl ?_ | refine awp_false rfl rfl ?_ | refine awp_block ?_ | ((first | refine CallK.pure (enter94) (m1) ?_ ?_ | refine CallD.pure (enter94) (m1) ?_ ?_); (focus first | ((repeat (first | exact trivial | refine ⟨(by first | exact Or.inl rfl | exact Or.inr rfl), ?_⟩)); done) | (simp only [coL, AV.dat, true_or, or_true, AV.d.injEq, go_sem]; done)); simp only [go_sem, u0, u1, u2, u6, u7, u8', z01, z02, z12, z11, hz, e0, e1, hy, htk, ht1, Int.toNat_natCast]) | ((first | refine CallK.pure (enter94) (m2) ?_ ?_ | refine CallD.pure (enter94) (m2) ?_ ?_); (focus first | ((repeat (first | exact trivial | refine ⟨(by first | exact Or.inl rfl | exact Or.inr rfl), ?_⟩)); done) | (simp only [coL, AV.dat, true_or, or_true, AV.d.injEq, go_sem]; done)); simp only [go_sem, u0, u1, u2, u6, u7, u8', z01, z02, z12, z11, hz, e0, e1, hy, htk, ht1, Int.toNat_natCast]) | ((first | refine CallK.pure (enter93) (turned_tri d[i]) ?_ ?_ | refine CallD.pure (enter93) (turned_tri d[i]) ?_ ?_ | refine CallK.pure (enter34) (m3) ?_ ?_ | refine CallD.pure (enter34) (m3) ?_ ?_); (focus first | ((repeat (first | exact trivial | refine ⟨(by first | exact Or.inl rfl | exact Or.inr rfl), ?_⟩)); done) | (simp only [coL, AV.dat, true_or, or_true, AV.d.injEq, go_sem]; done)); simp only [go_sem, u0, u1, u2, u6, u7, u8', z01, z02, z12, z11, hz, e0, e1, hy, htk, ht1, Int.toNat_natCast]) | refine And.intro (by first | ((repeat' first | omega | exact trivial | rfl | assumption | (intro a e; subst e; rfl) | exact map_sz fun a => (by simp only [go_sem]) | refine And.intro ?_ ?_); done) | fail) ?_ | fail)
                      (first | refine ret_pure ?_ ?_ ?_ | refine ret_ro ?_ ?_ ?_); focus exact (by simp only [Try.results34, resOkL, resOk, Try.ntmps34, List.toList_toArray]; first | decide | (simp only [go_sem, u6]; done) | (simp only [go_sem, u6]; and_intros <;> first | omega | rfl | decide))
                      rotate_left; focus exact (by repeat (first | exact Fr.rfl' _ _ | assumption | refine Fr.updk ?_ (by omega) _))
                      simp only [resA, resV, Try.results34, go_sem, u6]
                      all_goals try (first | exact Co.t2 (.dat rfl) (.dat rfl) | exact Co.t3 (.dat rfl) (.dat rfl) (.dat rfl))
                      exact co_b uv
            · have u8' : τ.t 8 = iA 1 := u8
              have hd : L.drop 1 = (turnL d[i]) :: L.drop (1 + 1) := by rw [hL]; rfl
              rw [hd, List.any_cons, hG] at uv
              cases hy : (d[i].y == l.y) with
              | false =>
                have hy' : ((turnL d[i]).y == l.y) = false := hy
                rw [hy', Bool.false_and, Bool.false_or] at uv
                repeat' (first | refine awp_seq_k fun K hK => ?_ | ((first | refine awp_region_k (by kernel_rfl) fun R hR => ?_ | refine awp_draw mixed (by kernel_rfl) (by kernel_rfl) fun R hR => ?_); simp only [go_sem, u0, u1, u2, u6, u7, u8', z01, z02, z12, z11, hz, e0, e1, hy, Int.toNat_natCast]) | ((first | (refine hR _ ?_; clear hR R) | refine awp_skip ?_ | refine awp_exit ?_ | refine awp_ret ?_); try simp only [thenA, inBlockA, reduceIte, reduceCtorEq, Nat.reduceEqDiff, if_false, if_true]) | ((first | refine hK _ ?_ | (clear hK K; first | refine hK _ ?_ | (clear hK K; first | refine hK _ ?_ | (clear hK K; first | refine hK _ ?_ | (clear hK K; refine hK _ ?_))))); clear hK K) | refine awp_true rfl rfl ?_ | refine awp_false rfl rfl ?_ | refine awp_block ?_ | ((first | refine CallK.pure (enter93) (turned_tri d[i]) ?_ ?_ | refine CallD.pure (enter93) (turned_tri d[i]) ?_ ?_); (focus first | ((repeat (first | exact trivial | refine ⟨(by first | exact Or.inl rfl | exact Or.inr rfl), ?_⟩)); done) | (simp only [coL, AV.dat, true_or, or_true, AV.d.injEq, go_sem]; done)); simp only [go_sem, u0, u1, u2, u6, u7, u8', z01, z02, z12, z11, hz, e0, e1, hy, Int.toNat_natCast]) | refine And.intro (by first | ((repeat' first | omega | exact trivial | rfl | assumption | (intro a e; subst e; rfl) | exact map_sz fun a => (by simp only [go_sem]) | refine And.intro ?_ ?_); done) | fail) ?_ | fail)
                refine ⟨⟨1 + 1, ?_⟩, ?_⟩
                rotate_left
                · simp only [go_sem, u0, u1, u2, u6, u7, u8']; omega
                simp only [go_sem, u0, u1, u2, u6, u7, u8']
                and_intros; all_goals try (first | rfl | omega | assumption | ((repeat (first | exact Fr.rfl' _ _ | assumption | refine Fr.updk ?_ (by omega) _)); done))
              | true =>
                have hy' : ((turnL d[i]).y == l.y) = true := hy
                rw [hy', Bool.true_and] at uv
                have m1 := grow_tri l.a d[i].b b (by omega)
                have gl := grow_len l.a d[i].b b
                cases h3 : (grow l.a d[i].b b).1 with
                | false =>
                  rw [h3] at m1
                  have hG0 : tryG grow l (turnL d[i]) b = (false, (grow l.a d[i].b b).2) := by
                    unfold tryG
                    show (if (grow l.a d[i].b b).1 = true then _ else (false, (grow l.a d[i].b b).2)) = _
                    rw [h3]; rfl
                  rw [hG0, Bool.false_and, Bool.false_or] at uv
                  repeat' (first | refine awp_seq_k fun K hK => ?_ | ((first | refine awp_region_k (by kernel_rfl) fun R hR => ?_ | refine awp_draw mixed (by kernel_rfl) (by kernel_rfl) fun R hR => ?_); simp only [go_sem, u0, u1, u2, u6, u7, u8', z01, z02, z12, z11, hz, e0, e1, hy, htk, ht1, Int.toNat_natCast]) | ((first | (refine hR _ ?_; clear hR R) | refine awp_skip ?_ | refine awp_exit ?_ | refine awp_ret ?_); try simp only [thenA, inBlockA, reduceIte, reduceCtorEq, Nat.reduceEqDiff, if_false, if_true]) | ((first | refine hK _ ?_ | (clear hK K; first | refine hK _ ?_ | (clear hK K; first | refine hK _ ?_ | (clear hK K; first | refine hK _ ?_ | (clear hK K; refine hK _ ?_))))); clear hK K) | refine awp_true rfl rfl ?_ | refine awp_false rfl rfl ?_ | refine awp_block ?_ | ((first | refine CallK.pure (enter93) (turned_tri d[i]) ?_ ?_ | refine CallD.pure (enter93) (turned_tri d[i]) ?_ ?_ | refine CallK.pure (enter94) (m1) ?_ ?_ | refine CallD.pure (enter94) (m1) ?_ ?_); (focus first | ((repeat (first | exact trivial | refine ⟨(by first | exact Or.inl rfl | exact Or.inr rfl), ?_⟩)); done) | (simp only [coL, AV.dat, true_or, or_true, AV.d.injEq, go_sem]; done)); simp only [go_sem, u0, u1, u2, u6, u7, u8', z01, z02, z12, z11, hz, e0, e1, hy, htk, ht1, Int.toNat_natCast]) | refine And.intro (by first | ((repeat' first | omega | exact trivial | rfl | assumption | (intro a e; subst e; rfl) | exact map_sz fun a => (by simp only [go_sem]) | refine And.intro ?_ ?_); done) | fail) ?_ | fail)
                  refine ⟨⟨1 + 1, ?_⟩, ?_⟩
                  rotate_left
                  · simp only [go_sem, u0, u1, u2, u6, u7, u8']; omega
                  simp only [go_sem, u0, u1, u2, u6, u7, u8']
                  and_intros; all_goals try (first | rfl | omega | assumption | ((repeat (first | exact Fr.rfl' _ _ | assumption | refine Fr.updk ?_ (by omega) _)); done))
                | true =>
                  rw [h3] at m1
                  have hG0 : tryG grow l (turnL d[i]) b = grow l.b d[i].a (grow l.a d[i].b b).2 := by
                    unfold tryG
                    show (if (grow l.a d[i].b b).1 = true then grow l.b d[i].a (grow l.a d[i].b b).2 else _) = _
                    rw [h3]; rfl
                  rw [hG0] at uv
                  generalize (grow l.a d[i].b b).2 = b1 at m1 uv hG0 gl
                  have m2 := grow_tri l.b d[i].a b1 (by omega)
                  have gl2 := grow_len l.b d[i].a b1
                  cases h4 : (grow l.b d[i].a b1).1 with
                  | false =>
                    rw [h4] at m2
                    rw [h4, Bool.false_and, Bool.false_or] at uv
                    repeat' (first | refine awp_seq_k fun K hK => ?_ | ((first | refine awp_region_k (by kernel_rfl) fun R hR => ?_ | refine awp_draw mixed (by kernel_rfl) (by kernel_rfl) fun R hR => ?_); simp only [go_sem, u0, u1, u2, u6, u7, u8', z01, z02, z12, z11, hz, e0, e1, hy, htk, ht1, Int.toNat_natCast]) | ((first | (refine hR _ ?_; clear hR R) | refine awp_skip ?_ | refine awp_exit ?_ | refine awp_ret ?_); try simp only [thenA, inBlockA, reduceIte, reduceCtorEq, Nat.reduceEqDiff, if_false, if_true]) | ((first | refine hK _ ?_ | (clear hK K; first | refine hK _ ?_ | (clear hK K; first | refine hK _ ?_ | (clear hK K; first | refine hK _ ?_ | (clear hK K; refine hK _ ?_))))); clear hK K) | refine awp_true rfl rfl ?_ | refine awp_false rfl rfl ?_ | refine awp_block ?_ | ((first | refine CallK.pure (enter94) (m1) ?_ ?_ | refine CallD.pure (enter94) (m1) ?_ ?_); (focus first | ((repeat (first | exact trivial | refine ⟨(by first | exact Or.inl rfl | exact Or.inr rfl), ?_⟩)); done) | (simp only [coL, AV.dat, true_or, or_true, AV.d.injEq, go_sem]; done)); simp only [go_sem, u0, u1, u2, u6, u7, u8', z01, z02, z12, z11, hz, e0, e1, hy, htk, ht1, Int.toNat_natCast]) | ((first | refine CallK.pure (enter94) (m2) ?_ ?_ | refine CallD.pure (enter94) (m2) ?_ ?_); (focus first | ((repeat (first | exact trivial | refine ⟨(by first | exact Or.inl rfl | exact Or.inr rfl), ?_⟩)); done) | (simp only [coL, AV.dat, true_or, or_true, AV.d.injEq, go_sem]; done)); simp only [go_sem, u0, u1, u2, u6, u7, u8', z01, z02, z12, z11, hz, e0, e1, hy, htk, ht1, Int.toNat_natCast]) | ((first | refine CallK.pure (enter93) (turned_tri d[i]) ?_ ?_ | refine CallD.pure (enter93) (turned_tri d[i]) ?_ ?_); (focus first | ((repeat (first | exact trivial | refine ⟨(by first | exact Or.inl rfl | exact Or.inr rfl), ?_⟩)); done) | (simp only [coL, AV.dat, true_or, or_true, AV.d.injEq, go_sem]; done)); simp only [go_sem, u0, u1, u2, u6, u7, u8', z01, z02, z12, z11, hz, e0, e1, hy, htk, ht1, Int.toNat_natCast]) | refine And.intro (by first | ((repeat' first | omega | exact trivial | rfl | assumption | (intro a e; subst e; rfl) | exact map_sz fun a => (by simp only [go_sem]) | refine And.intro ?_ ?_); done) | fail) ?_ | fail)
                    refine ⟨⟨1 + 1, ?_⟩, ?_⟩
                    rotate_left
                    · simp only [go_sem, u0, u1, u2, u6, u7, u8']; omega
                    simp only [go_sem, u0, u1, u2, u6, u7, u8']
                    and_intros; all_goals try (first | rfl | omega | assumption | ((repeat (first | exact Fr.rfl' _ _ | assumption | refine Fr.updk ?_ (by omega) _)); done))
                  | true =>
                    rw [h4] at m2
                    rw [h4, Bool.true_and] at uv
                    generalize (grow l.b d[i].a b1).2 = b2 at m2 uv hG0 gl2
                    have m3 := ih b2 (by omega)
                    cases h5 : covG grow c d b2 with
                    | false =>
                      rw [h5] at m3
                      rw [h5, Bool.false_or] at uv
                      repeat' (first | (refine And.intro ⟨fun a e => (by subst e; rfl), by omega, by omega, by omega, map_sz (by intro a; simp only [go_sem])⟩ ?_) | refine awp_seq_k fun K hK => ?_ | ((first | refine awp_region_k (by kernel_rfl) fun R hR => ?_ | refine awp_draw mixed (by kernel_rfl) (by kernel_rfl) fun R hR => ?_); simp only [go_sem, u0, u1, u2, u6, u7, u8', z01, z02, z12, z11, hz, e0, e1, hy, htk, ht1, Int.toNat_natCast]) | ((first | (refine hR _ ?_; clear hR R) | refine awp_skip ?_ | refine awp_exit ?_ | refine awp_ret ?_); try simp only [thenA, inBlockA, reduceIte, reduceCtorEq, Nat.reduceEqDiff, if_false, if_true]) | ((first | refine hK _ ?_ | (clear hK K; first | refine hK _ ?_ | (clear hK K; first | refine hK _ ?_ | (clear hK K; first | refine hK _ ?_ | (clear hK K; refine hK _ ?_))))); clear hK K) | refine awp_true rfl rfl ?_ | refine awp_false rfl rfl ?_ | refine awp_block ?_ | ((first | refine CallK.pure (enter94) (m1) ?_ ?_ | refine CallD.pure (enter94) (m1) ?_ ?_); (focus first | ((repeat (first | exact trivial | refine ⟨(by first | exact Or.inl rfl | exact Or.inr rfl), ?_⟩)); done) | (simp only [coL, AV.dat, true_or, or_true, AV.d.injEq, go_sem]; done)); simp only [go_sem, u0, u1, u2, u6, u7, u8', z01, z02, z12, z11, hz, e0, e1, hy, htk, ht1, Int.toNat_natCast]) | ((first | refine CallK.pure (enter94) (m2) ?_ ?_ | refine CallD.pure (enter94) (m2) ?_ ?_); (focus first | ((repeat (first | exact trivial | refine ⟨(by first | exact Or.inl rfl | exact Or.inr rfl), ?_⟩)); done) | (simp only [coL, AV.dat, true_or, or_true, AV.d.injEq, go_sem]; done)); simp only [go_sem, u0, u1, u2, u6, u7, u8', z01, z02, z12, z11, hz, e0, e1, hy, htk, ht1, Int.toNat_natCast]) | ((first | refine CallK.pure (enter93) (turned_tri d[i]) ?_ ?_ | refine CallD.pure (enter93) (turned_tri d[i]) ?_ ?_ | refine CallK.pure (enter34) (m3) ?_ ?_ | refine CallD.pure (enter34) (m3) ?_ ?_); (focus first | ((repeat (first | exact trivial | refine ⟨(by first | exact Or.inl rfl | exact Or.inr rfl), ?_⟩)); done) | (simp only [coL, AV.dat, true_or, or_true, AV.d.injEq, go_sem]; done)); simp only [go_sem, u0, u1, u2, u6, u7, u8', z01, z02, z12, z11, hz, e0, e1, hy, htk, ht1, Int.toNat_natCast]) | refine And.intro (by first | ((repeat' first | omega | exact trivial | rfl | assumption | (intro a e; subst e; rfl) | exact map_sz fun a => (by simp only [go_sem]) | refine And.intro ?_ ?_); done) | fail) ?_ | fail)
                      refine ⟨⟨1 + 1, ?_⟩, ?_⟩
                      rotate_left
                      · simp only [go_sem, u0, u1, u2, u6, u7, u8']; omega
                      simp only [go_sem, u0, u1, u2, u6, u7, u8']
                      and_intros; all_goals try (first | rfl | omega | assumption | ((repeat (first | exact Fr.rfl' _ _ | assumption | refine Fr.updk ?_ (by omega) _)); done))
                    | true =>
                      rw [h5] at m3
                      rw [h5, Bool.true_or] at uv
                      repeat' (first | (refine And.intro ⟨fun a e => (by subst e; rfl), by omega, by omega, by omega, map_sz (by intro a; simp only [go_sem])⟩ ?_) | refine awp_seq_k fun K hK => ?_ | ((first | refine awp_region_k (by kernel_rfl) fun R hR => ?_ | refine awp_draw mixed (by kernel_rfl) (by kernel_rfl) fun R hR => ?_); simp only [go_sem, u0, u1, u2, u6, u7, u8', z01, z02, z12, z11, hz, e0, e1, hy, htk, ht1, Int.toNat_natCast]) | ((first | (refine hR _ ?_; clear hR R) | refine awp_skip ?_ | refine awp_exit ?_ | refine awp_ret ?_); try simp only [thenA, inBlockA, reduceIte, reduceCtorEq, Nat.reduceEqDiff, if_false, if_true]) | ((first | refine hK _ ?_ | (clear hK K; first | refine hK _ ?_ | (clear hK K; first | refine hK _ ?_ | (clear hK K; first | refine hK _ ?_ | (clear hK K; refine hK _ ?_))))); clear hK K) | refine awp_true rfl rfl ?_ | refine awp_false rfl rfl ?_ | refine awp_block ?_ | ((first | refine CallK.pure (enter94) (m1) ?_ ?_ | refine CallD.pure (enter94) (m1) ?_ ?_); (focus first | ((repeat (first | exact trivial | refine ⟨(by first | exact Or.inl rfl | exact Or.inr rfl), ?_⟩)); done) | (simp only [coL, AV.dat, true_or, or_true, AV.d.injEq, go_sem]; done)); simp only [go_sem, u0, u1, u2, u6, u7, u8', z01, z02, z12, z11, hz, e0, e1, hy, htk, ht1, Int.toNat_natCast]) | ((first | refine CallK.pure (enter94) (m2) ?_ ?_ | refine CallD.pure (enter94) (m2) ?_ ?_); (focus first | ((repeat (first | exact trivial | refine ⟨(by first | exact Or.inl rfl | exact Or.inr rfl), ?_⟩)); done) | (simp only [coL, AV.dat, true_or, or_true, AV.d.injEq, go_sem]; done)); simp only [go_sem, u0, u1, u2, u6, u7, u8', z01, z02, z12, z11, hz, e0, e1, hy, htk, ht1, Int.toNat_natCast]) | ((first | refine CallK.pure (enter93) (turned_tri d[i]) ?_ ?_ | refine CallD.pure (enter93) (turned_tri d[i]) ?_ ?_ | refine CallK.pure (enter34) (m3) ?_ ?_ | refine CallD.pure (enter34) (m3) ?_ ?_); (focus first | ((repeat (first | exact trivial | refine ⟨(by first | exact Or.inl rfl | exact Or.inr rfl), ?_⟩)); done) | (simp only [coL, AV.dat, true_or, or_true, AV.d.injEq, go_sem]; done)); simp only [go_sem, u0, u1, u2, u6, u7, u8', z01, z02, z12, z11, hz, e0, e1, hy, htk, ht1, Int.toNat_natCast]) | refine And.intro (by first | ((repeat' first | omega | exact trivial | rfl | assumption | (intro a e; subst e; rfl) | exact map_sz fun a => (by simp only [go_sem]) | refine And.intro ?_ ?_); done) | fail) ?_ | fail)
                      (first | refine ret_pure ?_ ?_ ?_ | refine ret_ro ?_ ?_ ?_); focus exact (by simp only [Try.results34, resOkL, resOk, Try.ntmps34, List.toList_toArray]; first | decide | (simp only [go_sem, u6]; done) | (simp only [go_sem, u6]; and_intros <;> first | omega | rfl | decide))
                      rotate_left; focus exact (by repeat (first | exact Fr.rfl' _ _ | assumption | refine Fr.updk ?_ (by omega) _))
                      simp only [resA, resV, Try.results34, go_sem, u6]
                      all_goals try (first | exact Co.t2 (.dat rfl) (.dat rfl) | exact Co.t3 (.dat rfl) (.dat rfl) (.dat rfl))
                      exact co_b uv
          · have jz : ¬ ((j : Int) < 2) := by omega
            obtain rfl : j = 2 := by omega
            rw [List.drop_eq_nil_of_le (by omega), List.any_nil, Bool.false_or] at uv
            repeat' (first | refine awp_seq_k fun K hK => ?_ | ((first | refine awp_region_k (by kernel_rfl) fun R hR => ?_ | refine awp_draw mixed (by kernel_rfl) (by kernel_rfl) fun R hR => ?_); simp only [go_sem, u0, u1, u2, u6, u7, u8, jz]) | ((first | (refine hR _ ?_; clear hR R) | refine awp_skip ?_ | refine awp_exit ?_ | refine awp_ret ?_); try simp only [thenA, inBlockA, reduceIte, reduceCtorEq, Nat.reduceEqDiff, if_false, if_true]) | ((first | refine hK _ ?_ | (clear hK K; first | refine hK _ ?_ | (clear hK K; first | refine hK _ ?_ | (clear hK K; first | refine hK _ ?_ | (clear hK K; refine hK _ ?_))))); clear hK K) | refine awp_true rfl rfl ?_ | refine awp_false rfl rfl ?_ | refine awp_block ?_ | refine And.intro (by first | ((repeat' first | omega | exact trivial | rfl | assumption | (intro a e; subst e; rfl) | exact map_sz fun a => (by simp only [go_sem]) | refine And.intro ?_ ?_); done) | fail) ?_ | fail)
            refine ⟨⟨i + 1, ?_⟩, ?_⟩
            rotate_left
            · simp only [go_sem, u0, u1, u2, u6, u7, u8, s7]; omega
            simp only [go_sem, u0, u1, u2, u6, u7, u8, s7]
            and_intros; all_goals try (first | rfl | omega | assumption | ((repeat (first | exact Fr.rfl' _ _ | assumption | refine Fr.updk ?_ (by omega) _)); done))
      · have hz : ¬ ((i : Int) < (d.length : Int)) := by omega
        obtain rfl : i = d.length := by omega
        rw [List.drop_length, List.any_nil] at hv
        repeat' (first | refine awp_seq_k fun K hK => ?_ | ((first | refine awp_region_k (by kernel_rfl) fun R hR => ?_ | refine awp_draw mixed (by kernel_rfl) (by kernel_rfl) fun R hR => ?_); simp only [go_sem, s0, s1, s2, s6, s7, hz]) | ((first | (refine hR _ ?_; clear hR R) | refine awp_skip ?_ | refine awp_exit ?_ | refine awp_ret ?_); try simp only [thenA, inBlockA, reduceIte, reduceCtorEq, Nat.reduceEqDiff, if_false, if_true]) | ((first | refine hK _ ?_ | (clear hK K; first | refine hK _ ?_ | (clear hK K; first | refine hK _ ?_ | (clear hK K; first | refine hK _ ?_ | (clear hK K; refine hK _ ?_))))); clear hK K) | refine awp_true rfl rfl ?_ | refine awp_false rfl rfl ?_ | refine awp_block ?_ | refine And.intro (by first | ((repeat' first | omega | exact trivial | rfl | assumption | (intro a e; subst e; rfl) | exact map_sz fun a => (by simp only [go_sem]) | refine And.intro ?_ ?_); done) | fail) ?_ | fail)
        (first | refine ret_pure ?_ ?_ ?_ | refine ret_ro ?_ ?_ ?_); focus exact (by simp only [Try.results34, resOkL, resOk, Try.ntmps34, List.toList_toArray]; first | decide | (simp only [go_sem, s6]; done) | (simp only [go_sem, s6]; and_intros <;> first | omega | rfl | decide))
        rotate_left; focus exact (by repeat (first | exact Fr.rfl' _ _ | assumption | refine Fr.updk ?_ (by omega) _))
        simp only [resA, resV, Try.results34, go_sem, s6]
        all_goals try (first | exact Co.t2 (.dat rfl) (.dat rfl) | exact Co.t3 (.dat rfl) (.dat rfl) (.dat rfl))
        exact co_b hv
end Go.Proofs.Ytmeekpinkfpnhaa
namespace Go.Proofs.Ytmeekpinkfpnhaa
open Go.RowKit
theorem ltDV_y {l : Lt} {y : Bool} (h : l.y = y) : ltDV l = ltDV ⟨y, l.a, l.b⟩ := by rw [← h]
set_option maxHeartbeats 2000000 in
set_option maxRecDepth 20000 in
theorem alwaysOf_tri (c : List Lt) (hc : c.length ≤ 4000000) : Tri Try.prog 33 [.d (clDV c)] (pure' (bA (alwB c))) := by
  refine tri_enter Try.func33 rfl Try.ntmps33 (by simp only [List.length_cons, List.length_nil]; omega) fun w0 h0 k hrd hwr => ?_
  repeat' (first | refine awp_seq_k fun K hK => ?_ | ((first | refine awp_region_k (by kernel_rfl) fun R hR => ?_ | refine awp_draw mixed (by kernel_rfl) (by kernel_rfl) fun R hR => ?_); simp only [go_sem]) | ((first | (refine hR _ ?_; clear hR R) | refine awp_skip ?_ | refine awp_exit ?_ | refine awp_ret ?_); try simp only [thenA, inBlockA, reduceIte, reduceCtorEq, Nat.reduceEqDiff, if_false, if_true]) | ((first | refine hK _ ?_ | (clear hK K; first | refine hK _ ?_ | (clear hK K; first | refine hK _ ?_ | (clear hK K; first | refine hK _ ?_ | (clear hK K; refine hK _ ?_))))); clear hK K) | refine awp_true rfl rfl ?_ | refine awp_false rfl rfl ?_ | refine awp_block ?_ | refine And.intro (by first | ((repeat' first | omega | exact trivial | rfl | assumption | (intro a e; subst e; rfl) | exact map_sz fun a => (by simp only [go_sem]) | refine And.intro ?_ ?_); done) | fail) ?_ | fail)
  refine awp_loop (fun σ => ∃ i : Nat, σ.t 0 = .d (clDV c) ∧ σ.t 3 = iA i ∧ σ.h = h0 ∧ k < σ.k ∧ i ≤ c.length ∧ ((c.drop i).any fun l => l.y && (same l.a l.b || c.any fun x => !x.y && sidesB x l)) = alwB c) (fun σ => c.length - (intOf' (σ.t 3)).toNat) ?_ ?_
  · refine ⟨0, ?_⟩
    simp only [go_sem, List.drop_zero]
    and_intros; all_goals try (first | rfl | omega | assumption | ((repeat (first | exact Fr.rfl' _ _ | assumption | refine Fr.updk ?_ (by omega) _)); done))
  · rintro σ ⟨i, s0, s3, sh, hk, hi, hv⟩
    have hfr : Fr k h0 σ.h := by rw [sh]; exact Fr.rfl' _ _
    rcases Nat.lt_or_ge i c.length with hlt | hge
    · have hz : (i : Int) < (c.length : Int) := by omega
      have e1 : (c.map ltDV).getD i default = ltDV c[i] := nth_map ltDV hlt _
      rw [List.drop_eq_getElem_cons hlt, List.any_cons] at hv
      generalize c[i] = l at *
      obtain ⟨y, s, t⟩ := l
      dsimp only at hv
      cases y with
      | false =>
        rw [Bool.false_and, Bool.false_or] at hv
        repeat' (first | refine awp_seq_k fun K hK => ?_ | ((first | refine awp_region_k (by kernel_rfl) fun R hR => ?_ | refine awp_draw mixed (by kernel_rfl) (by kernel_rfl) fun R hR => ?_); simp only [go_sem, s0, s3, hz, e1, Int.toNat_natCast]) | ((first | (refine hR _ ?_; clear hR R) | refine awp_skip ?_ | refine awp_exit ?_ | refine awp_ret ?_); try simp only [thenA, inBlockA, reduceIte, reduceCtorEq, Nat.reduceEqDiff, if_false, if_true]) | ((first | refine hK _ ?_ | (clear hK K; first | refine hK _ ?_ | (clear hK K; first | refine hK _ ?_ | (clear hK K; first | refine hK _ ?_ | (clear hK K; refine hK _ ?_))))); clear hK K) | refine awp_true rfl rfl ?_ | refine awp_false rfl rfl ?_ | refine awp_block ?_ | refine And.intro (by first | ((repeat' first | omega | exact trivial | rfl | assumption | (intro a e; subst e; rfl) | exact map_sz fun a => (by simp only [go_sem]) | refine And.intro ?_ ?_); done) | fail) ?_ | fail)
        refine ⟨⟨i + 1, ?_⟩, ?_⟩
        rotate_left
        · simp only [go_sem, s0, s3, sh]; omega
        simp only [go_sem, s0, s3, sh]
        and_intros; all_goals try (first | rfl | omega | assumption | ((repeat (first | exact Fr.rfl' _ _ | assumption | refine Fr.updk ?_ (by omega) _)); done))
      | true =>
        rw [Bool.true_and] at hv
        cases h1 : same s t with
        | true =>
          rw [h1, Bool.true_or, Bool.true_or] at hv
          repeat' (first | refine awp_seq_k fun K hK => ?_ | ((first | refine awp_region_k (by kernel_rfl) fun R hR => ?_ | refine awp_draw mixed (by kernel_rfl) (by kernel_rfl) fun R hR => ?_); simp only [go_sem, s0, s3, hz, e1, h1, Int.toNat_natCast]) | ((first | (refine hR _ ?_; clear hR R) | refine awp_skip ?_ | refine awp_exit ?_ | refine awp_ret ?_); try simp only [thenA, inBlockA, reduceIte, reduceCtorEq, Nat.reduceEqDiff, if_false, if_true]) | ((first | refine hK _ ?_ | (clear hK K; first | refine hK _ ?_ | (clear hK K; first | refine hK _ ?_ | (clear hK K; first | refine hK _ ?_ | (clear hK K; refine hK _ ?_))))); clear hK K) | refine awp_true rfl rfl ?_ | refine awp_false rfl rfl ?_ | refine awp_block ?_ | ((first | refine CallK.pure (enter47) (sameR_tri s t) ?_ ?_ | refine CallD.pure (enter47) (sameR_tri s t) ?_ ?_); (focus first | ((repeat (first | exact trivial | refine ⟨(by first | exact Or.inl rfl | exact Or.inr rfl), ?_⟩)); done) | (simp only [coL, AV.dat, true_or, or_true, AV.d.injEq, go_sem]; done)); simp only [go_sem, s0, s3, hz, e1, h1, Int.toNat_natCast]) | refine And.intro (by first | ((repeat' first | omega | exact trivial | rfl | assumption | (intro a e; subst e; rfl) | exact map_sz fun a => (by simp only [go_sem]) | refine And.intro ?_ ?_); done) | fail) ?_ | fail)
          (first | refine ret_pure ?_ ?_ ?_ | refine ret_ro ?_ ?_ ?_); focus exact (by simp only [Try.results33, resOkL, resOk, Try.ntmps33, List.toList_toArray]; first | decide | (simp only [go_sem]; done) | (simp only [go_sem]; and_intros <;> first | omega | rfl | decide))
          rotate_left; focus exact (by repeat (first | exact Fr.rfl' _ _ | assumption | refine Fr.updk ?_ (by omega) _))
          simp only [resA, resV, Try.results33, go_sem]
          all_goals try (first | exact Co.t2 (.dat rfl) (.dat rfl) | exact Co.t3 (.dat rfl) (.dat rfl) (.dat rfl))
          exact co_b hv
        | false =>
          rw [h1, Bool.false_or] at hv
          repeat' (first | refine awp_seq_k fun K hK => ?_ | ((first | refine awp_region_k (by kernel_rfl) fun R hR => ?_ | refine awp_draw mixed (by kernel_rfl) (by kernel_rfl) fun R hR => ?_); simp only [go_sem, s0, s3, hz, e1, h1, Int.toNat_natCast]) | ((first | (refine hR _ ?_; clear hR R) | refine awp_skip ?_ | refine awp_exit ?_ | refine awp_ret ?_); try simp only [thenA, inBlockA, reduceIte, reduceCtorEq, Nat.reduceEqDiff, if_false, if_true]) | ((first | refine hK _ ?_ | (clear hK K; first | refine hK _ ?_ | (clear hK K; first | refine hK _ ?_ | (clear hK K; first | refine hK _ ?_ | (clear hK K; refine hK _ ?_))))); clear hK K) | refine awp_true rfl rfl ?_ | refine awp_false rfl rfl ?_ | refine awp_block ?_ | ((first | refine CallK.pure (enter47) (sameR_tri s t) ?_ ?_ | refine CallD.pure (enter47) (sameR_tri s t) ?_ ?_); (focus first | ((repeat (first | exact trivial | refine ⟨(by first | exact Or.inl rfl | exact Or.inr rfl), ?_⟩)); done) | (simp only [coL, AV.dat, true_or, or_true, AV.d.injEq, go_sem]; done)); simp only [go_sem, s0, s3, hz, e1, h1, Int.toNat_natCast]) | refine And.intro (by first | ((repeat' first | omega | exact trivial | rfl | assumption | (intro a e; subst e; rfl) | exact map_sz fun a => (by simp only [go_sem]) | refine And.intro ?_ ?_); done) | fail) ?_ | fail)
          refine awp_loop (fun τ => ∃ j : Nat, τ.t 0 = .d (clDV c) ∧ τ.t 3 = iA i ∧ τ.t 4 = iA j ∧ τ.h = h0 ∧ k < τ.k ∧ j ≤ c.length ∧ ((c.drop j).any fun x => !x.y && sidesB x ⟨true, s, t⟩) = c.any fun x => !x.y && sidesB x ⟨true, s, t⟩) (fun τ => c.length - (intOf' (τ.t 4)).toNat) ?_ ?_
          · refine ⟨0, ?_⟩
            simp only [go_sem, s0, s3, sh, List.drop_zero]
            and_intros; all_goals try (first | rfl | omega | assumption | ((repeat (first | exact Fr.rfl' _ _ | assumption | refine Fr.updk ?_ (by omega) _)); done))
          · rintro τ ⟨j, u0, u3, u4, uh, uk, uj, uv⟩
            have hfr' : Fr k h0 τ.h := by rw [uh]; exact Fr.rfl' _ _
            rcases Nat.lt_or_ge j c.length with hlt' | hge'
            · have hz' : (j : Int) < (c.length : Int) := by omega
              have e2 : (c.map ltDV).getD j default = ltDV c[j] := nth_map ltDV hlt' _
              rw [List.drop_eq_getElem_cons hlt', List.any_cons] at uv
              generalize c[j] = x at *
              obtain ⟨y', s', t'⟩ := x
              dsimp only at uv
              cases y' with
              | true =>
                rw [Bool.not_true, Bool.false_and, Bool.false_or] at uv
                repeat' (first | refine awp_seq_k fun K hK => ?_ | ((first | refine awp_region_k (by kernel_rfl) fun R hR => ?_ | refine awp_draw mixed (by kernel_rfl) (by kernel_rfl) fun R hR => ?_); simp only [go_sem, u0, u3, u4, hz, hz', e1, e2, Int.toNat_natCast]) | ((first | (refine hR _ ?_; clear hR R) | refine awp_skip ?_ | refine awp_exit ?_ | refine awp_ret ?_); try simp only [thenA, inBlockA, reduceIte, reduceCtorEq, Nat.reduceEqDiff, if_false, if_true]) | ((first | refine hK _ ?_ | (clear hK K; first | refine hK _ ?_ | (clear hK K; first | refine hK _ ?_ | (clear hK K; first | refine hK _ ?_ | (clear hK K; refine hK _ ?_))))); clear hK K) | refine awp_true rfl rfl ?_ | refine awp_false rfl rfl ?_ | refine awp_block ?_ | refine And.intro (by first | ((repeat' first | omega | exact trivial | rfl | assumption | (intro a e; subst e; rfl) | exact map_sz fun a => (by simp only [go_sem]) | refine And.intro ?_ ?_); done) | fail) ?_ | fail)
                refine ⟨⟨j + 1, ?_⟩, ?_⟩
                rotate_left
                · simp only [go_sem, u0, u3, u4, uh]; omega
                simp only [go_sem, u0, u3, u4, uh]
                and_intros; all_goals try (first | rfl | omega | assumption | ((repeat (first | exact Fr.rfl' _ _ | assumption | refine Fr.updk ?_ (by omega) _)); done))
              | false =>
                have hs := sameSides_tri ⟨true, s, t⟩ ⟨false, s', t'⟩
                rw [sides_comm] at hs
                cases h2 : sidesB ⟨false, s', t'⟩ ⟨true, s, t⟩ with
                | true =>
                  rw [h2] at hs uv
                  rw [Bool.not_false, Bool.true_and, Bool.true_or] at uv
                  rw [← uv, Bool.true_or] at hv
                  repeat' (first | refine awp_seq_k fun K hK => ?_ | ((first | refine awp_region_k (by kernel_rfl) fun R hR => ?_ | refine awp_draw mixed (by kernel_rfl) (by kernel_rfl) fun R hR => ?_); simp only [go_sem, u0, u3, u4, hz, hz', e1, e2, Int.toNat_natCast]) | ((first | (refine hR _ ?_; clear hR R) | refine awp_skip ?_ | refine awp_exit ?_ | refine awp_ret ?_); try simp only [thenA, inBlockA, reduceIte, reduceCtorEq, Nat.reduceEqDiff, if_false, if_true]) | ((first | refine hK _ ?_ | (clear hK K; first | refine hK _ ?_ | (clear hK K; first | refine hK _ ?_ | (clear hK K; first | refine hK _ ?_ | (clear hK K; refine hK _ ?_))))); clear hK K) | refine awp_true rfl rfl ?_ | refine awp_false rfl rfl ?_ | refine awp_block ?_ | ((first | refine CallK.pure (enter91) (hs) ?_ ?_ | refine CallD.pure (enter91) (hs) ?_ ?_); (focus first | ((repeat (first | exact trivial | refine ⟨(by first | exact Or.inl rfl | exact Or.inr rfl), ?_⟩)); done) | (simp only [coL, AV.dat, true_or, or_true, AV.d.injEq, go_sem]; done)); simp only [go_sem, u0, u3, u4, hz, hz', e1, e2, Int.toNat_natCast]) | refine And.intro (by first | ((repeat' first | omega | exact trivial | rfl | assumption | (intro a e; subst e; rfl) | exact map_sz fun a => (by simp only [go_sem]) | refine And.intro ?_ ?_); done) | fail) ?_ | fail)
                  (first | refine ret_pure ?_ ?_ ?_ | refine ret_ro ?_ ?_ ?_); focus exact (by simp only [Try.results33, resOkL, resOk, Try.ntmps33, List.toList_toArray]; first | decide | (simp only [go_sem]; done) | (simp only [go_sem]; and_intros <;> first | omega | rfl | decide))
                  rotate_left; focus exact (by repeat (first | exact Fr.rfl' _ _ | assumption | refine Fr.updk ?_ (by omega) _))
                  simp only [resA, resV, Try.results33, go_sem]
                  all_goals try (first | exact Co.t2 (.dat rfl) (.dat rfl) | exact Co.t3 (.dat rfl) (.dat rfl) (.dat rfl))
                  exact co_b hv
                | false =>
                  rw [h2] at hs uv
                  rw [Bool.and_false, Bool.false_or] at uv
                  repeat' (first | refine awp_seq_k fun K hK => ?_ | ((first | refine awp_region_k (by kernel_rfl) fun R hR => ?_ | refine awp_draw mixed (by kernel_rfl) (by kernel_rfl) fun R hR => ?_); simp only [go_sem, u0, u3, u4, hz, hz', e1, e2, Int.toNat_natCast]) | ((first | (refine hR _ ?_; clear hR R) | refine awp_skip ?_ | refine awp_exit ?_ | refine awp_ret ?_); try simp only [thenA, inBlockA, reduceIte, reduceCtorEq, Nat.reduceEqDiff, if_false, if_true]) | ((first | refine hK _ ?_ | (clear hK K; first | refine hK _ ?_ | (clear hK K; first | refine hK _ ?_ | (clear hK K; first | refine hK _ ?_ | (clear hK K; refine hK _ ?_))))); clear hK K) | refine awp_true rfl rfl ?_ | refine awp_false rfl rfl ?_ | refine awp_block ?_ | ((first | refine CallK.pure (enter91) (hs) ?_ ?_ | refine CallD.pure (enter91) (hs) ?_ ?_); (focus first | ((repeat (first | exact trivial | refine ⟨(by first | exact Or.inl rfl | exact Or.inr rfl), ?_⟩)); done) | (simp only [coL, AV.dat, true_or, or_true, AV.d.injEq, go_sem]; done)); simp only [go_sem, u0, u3, u4, hz, hz', e1, e2, Int.toNat_natCast]) | refine And.intro (by first | ((repeat' first | omega | exact trivial | rfl | assumption | (intro a e; subst e; rfl) | exact map_sz fun a => (by simp only [go_sem]) | refine And.intro ?_ ?_); done) | fail) ?_ | fail)
                  refine ⟨⟨j + 1, ?_⟩, ?_⟩
                  rotate_left
                  · simp only [go_sem, u0, u3, u4, uh]; omega
                  simp only [go_sem, u0, u3, u4, uh]
                  and_intros; all_goals try (first | rfl | omega | assumption | ((repeat (first | exact Fr.rfl' _ _ | assumption | refine Fr.updk ?_ (by omega) _)); done))
            · have hz' : ¬ ((j : Int) < (c.length : Int)) := by omega
              rw [List.drop_eq_nil_of_le hge', List.any_nil] at uv
              rw [← uv, Bool.false_or] at hv
              repeat' (first | refine awp_seq_k fun K hK => ?_ | ((first | refine awp_region_k (by kernel_rfl) fun R hR => ?_ | refine awp_draw mixed (by kernel_rfl) (by kernel_rfl) fun R hR => ?_); simp only [go_sem, u0, u3, u4, hz']) | ((first | (refine hR _ ?_; clear hR R) | refine awp_skip ?_ | refine awp_exit ?_ | refine awp_ret ?_); try simp only [thenA, inBlockA, reduceIte, reduceCtorEq, Nat.reduceEqDiff, if_false, if_true]) | ((first | refine hK _ ?_ | (clear hK K; first | refine hK _ ?_ | (clear hK K; first | refine hK _ ?_ | (clear hK K; first | refine hK _ ?_ | (clear hK K; refine hK _ ?_))))); clear hK K) | refine awp_true rfl rfl ?_ | refine awp_false rfl rfl ?_ | refine awp_block ?_ | refine And.intro (by first | ((repeat' first | omega | exact trivial | rfl | assumption | (intro a e; subst e; rfl) | exact map_sz fun a => (by simp only [go_sem]) | refine And.intro ?_ ?_); done) | fail) ?_ | fail)
              refine ⟨⟨i + 1, ?_⟩, ?_⟩
              rotate_left
              · simp only [go_sem, u0, u3, uh, s3]; omega
              simp only [go_sem, u0, u3, uh, s3]
              and_intros; all_goals try (first | rfl | omega | assumption | ((repeat (first | exact Fr.rfl' _ _ | assumption | refine Fr.updk ?_ (by omega) _)); done))
    · have hz : ¬ ((i : Int) < (c.length : Int)) := by omega
      rw [List.drop_eq_nil_of_le hge, List.any_nil] at hv
      repeat' (first | refine awp_seq_k fun K hK => ?_ | ((first | refine awp_region_k (by kernel_rfl) fun R hR => ?_ | refine awp_draw mixed (by kernel_rfl) (by kernel_rfl) fun R hR => ?_); simp only [go_sem, s0, s3, hz]) | ((first | (refine hR _ ?_; clear hR R) | refine awp_skip ?_ | refine awp_exit ?_ | refine awp_ret ?_); try simp only [thenA, inBlockA, reduceIte, reduceCtorEq, Nat.reduceEqDiff, if_false, if_true]) | ((first | refine hK _ ?_ | (clear hK K; first | refine hK _ ?_ | (clear hK K; first | refine hK _ ?_ | (clear hK K; first | refine hK _ ?_ | (clear hK K; refine hK _ ?_))))); clear hK K) | refine awp_true rfl rfl ?_ | refine awp_false rfl rfl ?_ | refine awp_block ?_ | refine And.intro (by first | ((repeat' first | omega | exact trivial | rfl | assumption | (intro a e; subst e; rfl) | exact map_sz fun a => (by simp only [go_sem]) | refine And.intro ?_ ?_); done) | fail) ?_ | fail)
      (first | refine ret_pure ?_ ?_ ?_ | refine ret_ro ?_ ?_ ?_); focus exact (by simp only [Try.results33, resOkL, resOk, Try.ntmps33, List.toList_toArray]; first | decide | (simp only [go_sem]; done) | (simp only [go_sem]; and_intros <;> first | omega | rfl | decide))
      rotate_left; focus exact (by repeat (first | exact Fr.rfl' _ _ | assumption | refine Fr.updk ?_ (by omega) _))
      simp only [resA, resV, Try.results33, go_sem]
      all_goals try (first | exact Co.t2 (.dat rfl) (.dat rfl) | exact Co.t3 (.dat rfl) (.dat rfl) (.dat rfl))
      exact co_b hv
end Go.Proofs.Ytmeekpinkfpnhaa
