/- superposeref.CoversOf. superposeref.AlwaysOf. Substitutions, and clauses that subsume others: what is plain. No program in sight. Variables numbered anew; what is tidied twice is tidied once: what is plain. No program in sight. -/
import Derived.Test.YtmeekpinkfpnhaaB06
import Derived.Test.YtmeekpinkfpnhaaB08
import Derived.Test.YtmeekpinkfpnhaaB09
import Derived.Test.YtmeekpinkfpnhaaB11
set_option linter.unusedSimpArgs false
set_option linter.unusedSectionVars false
set_option linter.unusedVariables false
set_option linter.unnecessarySimpa false
set_option linter.all false
namespace Go.Proofs.Ytmeekpinkfpnhaa
open Go.RowKit
set_option maxHeartbeats 2000000 in
set_option maxRecDepth 20000 in
theorem coversOf_tri (d : List Lt) (hd : d.length ≤ 4000000) : ∀ (c : List Lt), c.length ≤ 4000000 → ∀ (b : Bs), b.length + szC c ≤ 4000000 →
    Tri Try.prog 34 [.d (bsDV b), .d (clDV c), .d (clDV d)] (pure' (bA (covG grow c d b)))
  | [], _, b, _ => by
    refine tri_enter Try.func34 rfl Try.ntmps34 (by simp only [List.length_cons, List.length_nil]; omega) fun w0 h0 k hrd hwr => ?_
    repeat' (first | refine awp_seq_k fun K hK => ?_ | ((first | refine awp_region_k (by kernel_rfl) fun R hR => ?_ | refine awp_draw mixed (by kernel_rfl) (by kernel_rfl) fun R hR => ?_); simp only [go_sem]) | ((first | (refine hR _ ?_; clear hR R) | refine awp_skip ?_ | refine awp_exit ?_ | refine awp_ret ?_); try simp only [thenA, inBlockA, reduceIte, reduceCtorEq, Nat.reduceEqDiff, if_false, if_true]) | ((first | refine hK _ ?_ | (clear hK K; first | refine hK _ ?_ | (clear hK K; first | refine hK _ ?_ | (clear hK K; first | refine hK _ ?_ | (clear hK K; refine hK _ ?_))))); clear hK K) | refine awp_true rfl rfl ?_ | refine awp_false rfl rfl ?_ | refine awp_block ?_ | refine And.intro (by first | ((repeat' first | omega | exact trivial | rfl | assumption | (intro a e; subst e; rfl) | exact map_sz fun a => (by simp only [go_sem]) | refine And.intro ?_ ?_); done) | fail) ?_ | fail)
    (first | refine ret_pure ?_ ?_ ?_ | refine ret_ro ?_ ?_ ?_); focus exact (by simp only [Try.results34, resOkL, resOk, Try.ntmps34, List.toList_toArray]; first | decide | (simp only [go_sem]; done) | (simp only [go_sem]; and_intros <;> first | omega | rfl | decide))
    rotate_left; focus exact (by repeat (first | exact Fr.rfl' _ _ | assumption | refine Fr.updk ?_ (by omega) _))
    simp only [resA, resV, Try.results34, go_sem]
    all_goals try (first | exact Co.t2 (.dat rfl) (.dat rfl) | exact Co.t3 (.dat rfl) (.dat rfl) (.dat rfl))
    exact .dat rfl
  | l :: c, hcl, b, hsz => by
    have hszc : szC (l :: c) = (l.a.size + l.b.size) + szC c := by simp [szC]
    have ih := coversOf_tri d hd c (by simp at hcl; omega)
    obtain ⟨G, hG⟩ : ∃ G : Lt → Bool, ∀ x, G x = ((x.y == l.y) && ((tryG grow l x b).1 && covG grow c d (tryG grow l x b).2)) := ⟨_, fun _ => rfl⟩
    have hF0 : covG grow (l :: c) d b = d.any fun x => G x || G (turnL x) := by
      rw [covG]; exact any_same fun x _ => by rw [hG, hG]; show _ = ((x.y == l.y && _) || (x.y == l.y && _)); cases (x.y == l.y) <;> rfl
    refine tri_enter Try.func34 rfl Try.ntmps34 (by simp only [List.length_cons, List.length_nil]; omega) fun w0 h0 k hrd hwr => ?_
    have htk : (c.map ltDV).take c.length = c.map ltDV := List.take_of_length_le (by simp)
    have ht1 : Int.toNat 1 = 1 := rfl
    have e0 : (ltDV l :: List.map ltDV c).getD (Int.toNat 0) default = ltDV l := rfl
    repeat' (first | refine awp_seq_k fun K hK => ?_ | ((first | refine awp_region_k (by kernel_rfl) fun R hR => ?_ | refine awp_draw mixed (by kernel_rfl) (by kernel_rfl) fun R hR => ?_); simp only [go_sem, e0]) | ((first | (refine hR _ ?_; clear hR R) | refine awp_skip ?_ | refine awp_exit ?_ | refine awp_ret ?_); try simp only [thenA, inBlockA, reduceIte, reduceCtorEq, Nat.reduceEqDiff, if_false, if_true]) | ((first | refine hK _ ?_ | (clear hK K; first | refine hK _ ?_ | (clear hK K; first | refine hK _ ?_ | (clear hK K; first | refine hK _ ?_ | (clear hK K; refine hK _ ?_))))); clear hK K) | refine awp_true rfl rfl ?_ | refine awp_false rfl rfl ?_ | refine awp_block ?_ | refine And.intro (by first | ((repeat' first | omega | exact trivial | rfl | assumption | (intro a e; subst e; rfl) | exact map_sz fun a => (by simp only [go_sem]) | refine And.intro ?_ ?_); done) | fail) ?_ | fail)
    refine awp_loop (fun σ => ∃ i : Nat, σ.t 0 = .d (bsDV b) ∧ σ.t 1 = .d (clDV (l :: c)) ∧ σ.t 2 = .d (clDV d) ∧ σ.t 6 = bA false ∧ σ.t 7 = iA i ∧ Fr k h0 σ.h ∧ k < σ.k ∧ i ≤ d.length ∧ ((d.drop i).any fun x => G x || G (turnL x)) = covG grow (l :: c) d b) (fun σ => d.length - (intOf' (σ.t 7)).toNat) ?_ ?_
    · refine ⟨0, ?_⟩
      simp only [go_sem, List.drop_zero]
      and_intros; all_goals try (first | rfl | omega | assumption | ((repeat (first | exact Fr.rfl' _ _ | assumption | refine Fr.updk ?_ (by omega) _)); done))
      all_goals rw [hF0]
    · rintro σ ⟨i, s0, s1, s2, s6, s7, hF, hk, hi, hv⟩
      rcases Nat.lt_or_ge i d.length with hlt | hge
      · have hz : (i : Int) < (d.length : Int) := by omega
        have e1 : (d.map ltDV).getD i default = ltDV d[i] := nth_map ltDV hlt _
        rw [List.drop_eq_getElem_cons hlt, List.any_cons] at hv
        obtain ⟨L, hL⟩ : ∃ L, L = [d[i], turnL d[i]] := ⟨_, rfl⟩
        have hL2 : L.length = 2 := by rw [hL]; rfl
        have hLv : ((L.drop 0).any G || (d.drop (i + 1)).any fun x => G x || G (turnL x)) = covG grow (l :: c) d b := by rw [hL, ← hv]; simp
        repeat' (first | refine awp_seq_k fun K hK => ?_ | ((first | refine awp_region_k (by kernel_rfl) fun R hR => ?_ | refine awp_draw mixed (by kernel_rfl) (by kernel_rfl) fun R hR => ?_); simp only [go_sem, s0, s1, s2, s6, s7, e1, hz, Int.toNat_natCast]) | ((first | (refine hR _ ?_; clear hR R) | refine awp_skip ?_ | refine awp_exit ?_ | refine awp_ret ?_); try simp only [thenA, inBlockA, reduceIte, reduceCtorEq, Nat.reduceEqDiff, if_false, if_true]) | ((first | refine hK _ ?_ | (clear hK K; first | refine hK _ ?_ | (clear hK K; first | refine hK _ ?_ | (clear hK K; first | refine hK _ ?_ | (clear hK K; refine hK _ ?_))))); clear hK K) | refine awp_true rfl rfl ?_ | refine awp_false rfl rfl ?_ | refine awp_block ?_ | refine And.intro (by first | ((repeat' first | omega | exact trivial | rfl | assumption | (intro a e; subst e; rfl) | exact map_sz fun a => (by simp only [go_sem]) | refine And.intro ?_ ?_); done) | fail) ?_ | fail)
        refine awp_loop (fun τ => ∃ j : Nat, τ.t 0 = .d (bsDV b) ∧ τ.t 1 = .d (clDV (l :: c)) ∧ τ.t 2 = .d (clDV d) ∧ τ.t 6 = bA false ∧ τ.t 7 = iA i ∧ τ.t 8 = iA j ∧
          Fr k h0 τ.h ∧ σ.k < τ.k ∧ j ≤ 2 ∧ ((L.drop j).any G || (d.drop (i + 1)).any fun x => G x || G (turnL x)) = covG grow (l :: c) d b) (fun τ => 2 - (intOf' (τ.t 8)).toNat) ?_ ?_
        · refine ⟨0, ?_⟩
          simp only [go_sem, s0, s1, s2, s6, s7]
          and_intros; all_goals try (first | rfl | omega | assumption | ((repeat (first | exact Fr.rfl' _ _ | assumption | refine Fr.updk ?_ (by omega) _)); done))
          all_goals exact hLv
        · rintro τ ⟨j, u0, u1, u2, u6, u7, u8, uF, uk, uj, uv⟩
          rcases Nat.lt_or_ge j 2 with jlt | jge
          · have z01 : ((0 : Int) == 1) = false := rfl
            have z02 : decide ((0 : Int) < 2) = true := rfl
            have z12 : decide ((1 : Int) < 2) = true := rfl
            have z11 : ((1 : Int) == 1) = true := rfl
            obtain rfl | rfl : j = 0 ∨ j = 1 := by omega
            · have u8' : τ.t 8 = iA 0 := u8
              have hd : L.drop 0 = d[i] :: L.drop (0 + 1) := by rw [hL]; rfl
              rw [hd, List.any_cons, hG] at uv
              cases hy : (d[i].y == l.y) with
              | false =>
                have hy' : (d[i].y == l.y) = false := hy
                rw [hy', Bool.false_and, Bool.false_or] at uv
                repeat' (first | refine awp_seq_k fun K hK => ?_ | ((first | refine awp_region_k (by kernel_rfl) fun R hR => ?_ | refine awp_draw mixed (by kernel_rfl) (by kernel_rfl) fun R hR => ?_); simp only [go_sem, u0, u1, u2, u6, u7, u8', z01, z02, z12, z11, hz, e0, e1, hy, Int.toNat_natCast]) | ((first | (refine hR _ ?_; clear hR R) | refine awp_skip ?_ | refine awp_exit ?_ | refine awp_ret ?_); try simp only [thenA, inBlockA, reduceIte, reduceCtorEq, Nat.reduceEqDiff, if_false, if_true]) | ((first | refine hK _ ?_ | (clear hK K; first | refine hK _ ?_ | (clear hK K; first | refine hK _ ?_ | (clear hK K; first | refine hK _ ?_ | (clear hK K; refine hK _ ?_))))); clear hK K) | refine awp_true rfl rfl ?_ | refine awp_false rfl rfl ?_ | refine awp_block ?_ | ((first | refine CallK.pure (enter93) (turned_tri d[i]) ?_ ?_ | refine CallD.pure (enter93) (turned_tri d[i]) ?_ ?_); (focus first | ((repeat (first | exact trivial | refine ⟨(by first | exact Or.inl rfl | exact Or.inr rfl), ?_⟩)); done) | (simp only [coL, AV.dat, true_or, or_true, AV.d.injEq, go_sem]; done)); simp only [go_sem, u0, u1, u2, u6, u7, u8', z01, z02, z12, z11, hz, e0, e1, hy, Int.toNat_natCast]) | refine And.intro (by first | ((repeat' first | omega | exact trivial | rfl | assumption | (intro a e; subst e; rfl) | exact map_sz fun a => (by simp only [go_sem]) | refine And.intro ?_ ?_); done) | fail) ?_ | fail)
                refine ⟨⟨0 + 1, ?_⟩, ?_⟩
                rotate_left
                · simp only [go_sem, u0, u1, u2, u6, u7, u8']; omega
                simp only [go_sem, u0, u1, u2, u6, u7, u8']
                and_intros; all_goals try (first | rfl | omega | assumption | ((repeat (first | exact Fr.rfl' _ _ | assumption | refine Fr.updk ?_ (by omega) _)); done))
              | true =>
                have hy' : (d[i].y == l.y) = true := hy
                rw [hy', Bool.true_and] at uv
                have m1 := grow_tri l.a d[i].a b (by omega)
                have gl := grow_len l.a d[i].a b
                cases h3 : (grow l.a d[i].a b).1 with
                | false =>
                  rw [h3] at m1
                  have hG0 : tryG grow l d[i] b = (false, (grow l.a d[i].a b).2) := by
                    unfold tryG
                    show (if (grow l.a d[i].a b).1 = true then _ else (false, (grow l.a d[i].a b).2)) = _
                    rw [h3]; rfl
                  rw [hG0, Bool.false_and, Bool.false_or] at uv
                  repeat' (first | refine awp_seq_k fun K hK => ?_ | ((first | refine awp_region_k (by kernel_rfl) fun R hR => ?_ | refine awp_draw mixed (by kernel_rfl) (by kernel_rfl) fun R hR => ?_); simp only [go_sem, u0, u1, u2, u6, u7, u8', z01, z02, z12, z11, hz, e0, e1, hy, htk, ht1, Int.toNat_natCast]) | ((first | (refine hR _ ?_; clear hR R) | refine awp_skip ?_ | refine awp_exit ?_ | refine awp_ret ?_); try simp only [thenA, inBlockA, reduceIte, reduceCtorEq, Nat.reduceEqDiff, if_false, if_true]) | ((first | refine hK _ ?_ | (clear hK K; first | refine hK _ ?_ | (clear hK K; first | refine hK _ ?_ | (clear hK K; first | refine hK _ ?_ | (clear hK K; refine hK _ ?_))))); clear hK K) | refine awp_true rfl rfl ?_ | refine awp_false rfl rfl ?_ | refine awp_block ?_ | ((first | refine CallK.pure (enter93) (turned_tri d[i]) ?_ ?_ | refine CallD.pure (enter93) (turned_tri d[i]) ?_ ?_ | refine CallK.pure (enter94) (m1) ?_ ?_ | refine CallD.pure (enter94) (m1) ?_ ?_); (focus first | ((repeat (first | exact trivial | refine ⟨(by first | exact Or.inl rfl | exact Or.inr rfl), ?_⟩)); done) | (simp only [coL, AV.dat, true_or, or_true, AV.d.injEq, go_sem]; done)); simp only [go_sem, u0, u1, u2, u6, u7, u8', z01, z02, z12, z11, hz, e0, e1, hy, htk, ht1, Int.toNat_natCast]) | refine And.intro (by first | ((repeat' first | omega | exact trivial | rfl | assumption | (intro a e; subst e; rfl) | exact map_sz fun a => (by simp only [go_sem]) | refine And.intro ?_ ?_); done) | fail) ?_ | fail)
                  refine ⟨⟨0 + 1, ?_⟩, ?_⟩
                  rotate_left
                  · simp only [go_sem, u0, u1, u2, u6, u7, u8']; omega
                  simp only [go_sem, u0, u1, u2, u6, u7, u8']
                  and_intros; all_goals try (first | rfl | omega | assumption | ((repeat (first | exact Fr.rfl' _ _ | assumption | refine Fr.updk ?_ (by omega) _)); done))
                | true =>
                  rw [h3] at m1
                  have hG0 : tryG grow l d[i] b = grow l.b d[i].b (grow l.a d[i].a b).2 := by
                    unfold tryG
                    show (if (grow l.a d[i].a b).1 = true then grow l.b d[i].b (grow l.a d[i].a b).2 else _) = _
                    rw [h3]; rfl
                  rw [hG0] at uv
                  generalize (grow l.a d[i].a b).2 = b1 at m1 uv hG0 gl
                  have m2 := grow_tri l.b d[i].b b1 (by omega)
                  have gl2 := grow_len l.b d[i].b b1
                  cases h4 : (grow l.b d[i].b b1).1 with
                  | false =>
                    rw [h4] at m2
                    rw [h4, Bool.false_and, Bool.false_or] at uv
                    repeat' (first | refine awp_seq_k fun K hK => ?_ | ((first | refine awp_region_k (by kernel_rfl) fun R hR => ?_ | refine awp_draw mixed (by kernel_rfl) (by kernel_rfl) fun R hR => ?_); simp only [go_sem, u0, u1, u2, u6, u7, u8', z01, z02, z12, z11, hz, e0, e1, hy, htk, ht1, Int.toNat_natCast]) | ((first | (refine hR _ ?_; clear hR R) | refine awp_skip ?_ | refine awp_exit ?_ | refine awp_ret ?_); try simp only [thenA, inBlockA, reduceIte, reduceCtorEq, Nat.reduceEqDiff, if_false, if_true]) | ((first | refine hK _ ?_ | (clear hK K; first | refine hK _ ?_ | (clear hK K; first | refine hK _ ?_ | (clear hK K; first | refine hK _ ?_ | (clear hK K; refine hK _ ?_))))); clear hK K) | refine awp_true rfl rfl ?_ | refine awp_false rfl rfl ?_ | refine awp_block ?_ | ((first | refine CallK.pure (enter94) (m1) ?_ ?_ | refine CallD.pure (enter94) (m1) ?_ ?_); (focus first | ((repeat (first | exact trivial | refine ⟨(by first | exact Or.inl rfl | exact Or.inr rfl), ?_⟩)); done) | (simp only [coL, AV.dat, true_or, or_true, AV.d.injEq, go_sem]; done)); simp only [go_sem, u0, u1, u2, u6, u7, u8', z01, z02, z12, z11, hz, e0, e1, hy, htk, ht1, Int.toNat_natCast]) | ((first | refine CallK.pure (enter94) (m2) ?_ ?_ | refine CallD.pure (enter94) (m2) ?_ ?_); (focus first | ((repeat (first | exact trivial | refine ⟨(by first | exact Or.inl rfl | exact Or.inr rfl), ?_⟩)); done) | (simp only [coL, AV.dat, true_or, or_true, AV.d.injEq, go_sem]; done)); simp only [go_sem, u0, u1, u2, u6, u7, u8', z01, z02, z12, z11, hz, e0, e1, hy, htk, ht1, Int.toNat_natCast]) | ((first | refine CallK.pure (enter93) (turned_tri d[i]) ?_ ?_ | refine CallD.pure (enter93) (turned_tri d[i]) ?_ ?_); (focus first | ((repeat (first | exact trivial | refine ⟨(by first | exact Or.inl rfl | exact Or.inr rfl), ?_⟩)); done) | (simp only [coL, AV.dat, true_or, or_true, AV.d.injEq, go_sem]; done)); simp only [go_sem, u0, u1, u2, u6, u7, u8', z01, z02, z12, z11, hz, e0, e1, hy, htk, ht1, Int.toNat_natCast]) | refine And.intro (by first | ((repeat' first | omega | exact trivial | rfl | assumption | (intro a e; subst e; rfl) | exact map_sz fun a => (by simp only [go_sem]) | refine And.intro ?_ ?_); done) | fail) ?_ | fail)
                    refine ⟨⟨0 + 1, ?_⟩, ?_⟩
                    rotate_left
                    · simp only [go_sem, u0, u1, u2, u6, u7, u8']; omega
                    simp only [go_sem, u0, u1, u2, u6, u7, u8']
                    and_intros; all_goals try (first | rfl | omega | assumption | ((repeat (first | exact Fr.rfl' _ _ | assumption | refine Fr.updk ?_ (by omega) _)); done))
                  | true =>
                    rw [h4] at m2
                    rw [h4, Bool.true_and] at uv
                    generalize (grow l.b d[i].b b1).2 = b2 at m2 uv hG0 gl2
                    have m3 := ih b2 (by omega)
                    cases h5 : covG grow c d b2 with
                    | false =>
                      rw [h5] at m3
                      rw [h5, Bool.false_or] at uv
                      repeat' (first | (refine And.intro ⟨fun a e => (by subst e; rfl), by omega, by omega, by omega, map_sz (by intro a; simp only [go_sem])⟩ ?_) | refine awp_seq_k fun K hK => ?_ | ((first | refine awp_region_k (by kernel_rfl) fun R hR => ?_ | refine awp_draw mixed (by kernel_rfl) (by kernel_rfl) fun R hR => ?_); simp only [go_sem, u0, u1, u2, u6, u7, u8', z01, z02, z12, z11, hz, e0, e1, hy, htk, ht1, Int.toNat_natCast]) | ((first | (refine hR _ ?_; clear hR R) | refine awp_skip ?_ | refine awp_exit ?_ | refine awp_ret ?_); try simp only [thenA, inBlockA, reduceIte, reduceCtorEq, Nat.reduceEqDiff, if_false, if_true]) | ((first | refine hK _ ?_ | (clear hK K; first | refine hK _ ?_ | (clear hK K; first | refine hK _ ?_ | (clear hK K; first | refine hK _ ?_ | (clear hK K; refine hK _ ?_))))); clear hK K) | refine awp_true rfl rfl ?_ | refine awp_false rfl rfl ?_ | refine awp_block ?_ | ((first | refine CallK.pure (enter94) (m1) ?_ ?_ | refine CallD.pure (enter94) (m1) ?_ ?_); (focus first | ((repeat (first | exact trivial | refine ⟨(by first | exact Or.inl rfl | exact Or.inr rfl), ?_⟩)); done) | (simp only [coL, AV.dat, true_or, or_true, AV.d.injEq, go_sem]; done)); simp only [go_sem, u0, u1, u2, u6, u7, u8', z01, z02, z12, z11, hz, e0, e1, hy, htk, ht1, Int.toNat_natCast]) | ((first | refine CallK.pure (enter94) (m2) ?_ ?_ | refine CallD.pure (enter94) (m2) ?_ ?_); (focus first | ((repeat (first | exact trivial | refine ⟨(by first | exact Or.inl rfl | exact Or.inr rfl), ?_⟩)); done) | (simp only [coL, AV.dat, true_or, or_true, AV.d.injEq, go_sem]; done)); simp only [go_sem, u0, u1, u2, u6, u7, u8', z01, z02, z12, z11, hz, e0, e1, hy, htk, ht1, Int.toNat_natCast]) | ((first | refine CallK.pure (enter93) (turned_tri d[i]) ?_ ?_ | refine CallD.pure (enter93) (turned_tri d[i]) ?_ ?_ | refine CallK.pure (enter34) (m3) ?_ ?_ | refine CallD.pure (enter34) (m3) ?_ ?_); (focus first | ((repeat (first | exact trivial | refine ⟨(by first | exact Or.inl rfl | exact Or.inr rfl), ?_⟩)); done) | (simp only [coL, AV.dat, true_or, or_true, AV.d.injEq, go_sem]; done)); simp only [go_sem, u0, u1, u2, u6, u7, u8', z01, z02, z12, z11, hz, e0, e1, hy, htk, ht1, Int.toNat_natCast]) | refine And.intro (by first | ((repeat' first | omega | exact trivial | rfl | assumption | (intro a e; subst e; rfl) | exact map_sz fun a => (by simp only [go_sem]) | refine And.intro ?_ ?_); done) | fail) ?_ | fail)
                      refine ⟨⟨0 + 1, ?_⟩, ?_⟩
                      rotate_left
                      · simp only [go_sem, u0, u1, u2, u6, u7, u8']; omega
                      simp only [go_sem, u0, u1, u2, u6, u7, u8']
                      and_intros; all_goals try (first | rfl | omega | assumption | ((repeat (first | exact Fr.rfl' _ _ | assumption | refine Fr.updk ?_ (by omega) _)); done))
                    | true =>
                      rw [h5] at m3
                      rw [h5, Bool.true_or] at uv
                      repeat' (first | (refine And.intro ⟨fun a e => (by subst e; rfl), by omega, by omega, by omega, map_sz (by intro a; simp only [go_sem])⟩ ?_) | refine awp_seq_k fun K hK => ?_ | ((first | refine awp_region_k (by kernel_rfl) fun R hR => ?_ | refine awp_draw mixed (by kernel_rfl) (by kernel_rfl) fun R hR => ?_); simp only [go_sem, u0, u1, u2, u6, u7, u8', z01, z02, z12, z11, hz, e0, e1, hy, htk, ht1, Int.toNat_natCast]) | ((first | (refine hR _ ?_; clear hR R) | refine awp_skip ?_ | refine awp_exit ?_ | refine awp_ret ?_); try simp only [thenA, inBlockA, reduceIte, reduceCtorEq, Nat.reduceEqDiff, if_false, if_true]) | ((first | refine hK _ ?_ | (clear hK K; first | refine hK _ ?_ | (clear hK K; first | refine hK _ ?_ | (clear hK K; first | refine hK _ ?_ | (clear hK K; refine hK _ ?_))))); clear hK K) | refine awp_true rfl rfl ?_ | refine awp_false rfl rfl ?_ | refine awp_block ?_ | ((first | refine CallK.pure (enter94) (m1) ?_ ?_ | refine CallD.pure (enter94) (m1) ?_ ?_); (focus first | ((repeat (first | exact trivial | refine ⟨(by first | exact Or.inl rfl | exact Or.inr rfl), ?_⟩)); done) | (simp only [coL, AV.dat, true_or, or_true, AV.d.injEq, go_sem]; done)); simp only [go_sem, u0, u1, u2, u6, u7, u8', z01, z02, z12, z11, hz, e0, e1, hy, htk, ht1, Int.toNat_natCast]) | ((first | refine CallK.pure (enter94) (m2) ?_ ?_ | refine CallD.pure (enter94) (m2) ?_ ?_); (focus first | ((repeat (first | exact trivial | refine ⟨(by first | exact Or.inl rfl | exact Or.inr rfl), ?_⟩)); done) | (simp only [coL, AV.dat, true_or, or_true, AV.d.injEq, go_sem]; done)); simp only [go_sem, u0, u1, u2, u6, u7, u8', z01, z02, z12, z11, hz, e0, e1, hy, htk, ht1, Int.toNat_natCast]) | ((first | refine CallK.pure (enter93) (turned_tri d[i]) ?_ ?_ | refine CallD.pure (enter93) (turned_tri d[i]) ?_ ?_ | refine CallK.pure (enter34) (m3) ?_ ?_ | refine CallD.pure (enter34) (m3) ?_ ?_); (focus first | ((repeat (first | exact trivial | refine ⟨(by first | exact Or.inl rfl | exact Or.inr rfl), ?_⟩)); done) | (simp only [coL, AV.dat, true_or, or_true, AV.d.injEq, go_sem]; done)); simp only [go_sem, u0, u1, u2, u6, u7, u8', z01, z02, z12, z11, hz, e0, e1, hy, htk, ht1, Int.toNat_natCast]) | refine And.intro (by first | ((repeat' first | omega | exact trivial | rfl | assumption | (intro a e; subst e; rfl) | exact map_sz fun a => (by simp only [go_sem]) | refine And.intro ?_ ?_); done) | fail) ?_ | fail)
                      (first | refine ret_pure ?_ ?_ ?_ | refine ret_ro ?_ ?_ ?_); focus exact (by simp only [Try.results34, resOkL, resOk, Try.ntmps34, List.toList_toArray]; first | decide | (simp only [go_sem, u6]; done) | (simp only [go_sem, u6]; and_intros <;> first | omega | rfl | decide))
                      rotate_left; focus exact (by repeat (first | exact Fr.rfl' _ _ | assumption | refine Fr.updk ?_ (by omega) _))
                      simp only [resA, resV, Try.results34, go_sem, u6]
                      all_goals try (first | exact Co.t2 (.dat rfl) (.dat rfl) | exact Co.t3 (.dat rfl) (.dat rfl) (.dat rfl))
                      exact co_b uv
            · have u8' : τ.t 8 = iA 1 := u8
              have hd : L.drop 1 = (turnL d[i]) :: L.drop (1 + 1) := by rw [hL]; rfl
              rw [hd, List.any_cons, hG] at uv
              cases hy : (d[i].y == l.y) with
              | false =>
                have hy' : ((turnL d[i]).y == l.y) = false := hy
                rw [hy', Bool.false_and, Bool.false_or] at uv
                repeat' (first | refine awp_seq_k fun K hK => ?_ | ((first | refine awp_region_k (by kernel_rfl) fun R hR => ?_ | refine awp_draw mixed (by kernel_rfl) (by kernel_rfl) fun R hR => ?_); simp only [go_sem, u0, u1, u2, u6, u7, u8', z01, z02, z12, z11, hz, e0, e1, hy, Int.toNat_natCast]) | ((first | (refine hR _ ?_; clear hR R) | refine awp_skip ?_ | refine awp_exit ?_ | refine awp_ret ?_); try simp only [thenA, inBlockA, reduceIte, reduceCtorEq, Nat.reduceEqDiff, if_false, if_true]) | ((first | refine hK _ ?_ | (clear hK K; first | refine hK _ ?_ | (clear hK K; first | refine hK _ ?_ | (clear hK K; first | refine hK _ ?_ | (clear hK K; refine hK _ ?_))))); clear hK K) | refine awp_true rfl rfl ?_ | refine awp_false rfl rfl ?_ | refine awp_block ?_ | ((first | refine CallK.pure (enter93) (turned_tri d[i]) ?_ ?_ | refine CallD.pure (enter93) (turned_tri d[i]) ?_ ?_); (focus first | ((repeat (first | exact trivial | refine ⟨(by first | exact Or.inl rfl | exact Or.inr rfl), ?_⟩)); done) | (simp only [coL, AV.dat, true_or, or_true, AV.d.injEq, go_sem]; done)); simp only [go_sem, u0, u1, u2, u6, u7, u8', z01, z02, z12, z11, hz, e0, e1, hy, Int.toNat_natCast]) | refine And.intro (by first | ((repeat' first | omega | exact trivial | rfl | assumption | (intro a e; subst e; rfl) | exact map_sz fun a => (by simp only [go_sem]) | refine And.intro ?_ ?_); done) | fail) ?_ | fail)
                refine ⟨⟨1 + 1, ?_⟩, ?_⟩
                rotate_left
                · simp only [go_sem, u0, u1, u2, u6, u7, u8']; omega
                simp only [go_sem, u0, u1, u2, u6, u7, u8']
                and_intros; all_goals try (first | rfl | omega | assumption | ((repeat (first | exact Fr.rfl' _ _ | assumption | refine Fr.updk ?_ (by omega) _)); done))
              | true =>
                have hy' : ((turnL d[i]).y == l.y) = true := hy
                rw [hy', Bool.true_and] at uv
                have m1 := grow_tri l.a d[i].b b (by omega)
                have gl := grow_len l.a d[i].b b
                cases h3 : (grow l.a d[i].b b).1 with
                | false =>
                  rw [h3] at m1
                  have hG0 : tryG grow l (turnL d[i]) b = (false, (grow l.a d[i].b b).2) := by
                    unfold tryG
                    show (if (grow l.a d[i].b b).1 = true then _ else (false, (grow l.a d[i].b b).2)) = _
                    rw [h3]; rfl
                  rw [hG0, Bool.false_and, Bool.false_or] at uv
                  repeat' (first | refine awp_seq_k fun K hK => ?_ | ((first | refine awp_region_k (by kernel_rfl) fun R hR => ?_ | refine awp_draw mixed (by kernel_rfl) (by kernel_rfl) fun R hR => ?_); simp only [go_sem, u0, u1, u2, u6, u7, u8', z01, z02, z12, z11, hz, e0, e1, hy, htk, ht1, Int.toNat_natCast]) | ((first | (refine hR _ ?_; clear hR R) | refine awp_skip ?_ | refine awp_exit ?_ | refine awp_ret ?_); try simp only [thenA, inBlockA, reduceIte, reduceCtorEq, Nat.reduceEqDiff, if_false, if_true]) | ((first | refine hK _ ?_ | (clear hK K; first | refine hK _ ?_ | (clear hK K; first | refine hK _ ?_ | (clear hK K; first | refine hK _ ?_ | (clear hK K; refine hK _ ?_))))); clear hK K) | refine awp_true rfl rfl ?_ | refine awp_false rfl rfl ?_ | refine awp_block ?_ | ((first | refine CallK.pure (enter93) (turned_tri d[i]) ?_ ?_ | refine CallD.pure (enter93) (turned_tri d[i]) ?_ ?_ | refine CallK.pure (enter94) (m1) ?_ ?_ | refine CallD.pure (enter94) (m1) ?_ ?_); (focus first | ((repeat (first | exact trivial | refine ⟨(by first | exact Or.inl rfl | exact Or.inr rfl), ?_⟩)); done) | (simp only [coL, AV.dat, true_or, or_true, AV.d.injEq, go_sem]; done)); simp only [go_sem, u0, u1, u2, u6, u7, u8', z01, z02, z12, z11, hz, e0, e1, hy, htk, ht1, Int.toNat_natCast]) | refine And.intro (by first | ((repeat' first | omega | exact trivial | rfl | assumption | (intro a e; subst e; rfl) | exact map_sz fun a => (by simp only [go_sem]) | refine And.intro ?_ ?_); done) | fail) ?_ | fail)
                  refine ⟨⟨1 + 1, ?_⟩, ?_⟩
                  rotate_left
                  · simp only [go_sem, u0, u1, u2, u6, u7, u8']; omega
                  simp only [go_sem, u0, u1, u2, u6, u7, u8']
                  and_intros; all_goals try (first | rfl | omega | assumption | ((repeat (first | exact Fr.rfl' _ _ | assumption | refine Fr.updk ?_ (by omega) _)); done))
                | true =>
                  rw [h3] at m1
                  have hG0 : tryG grow l (turnL d[i]) b = grow l.b d[i].a (grow l.a d[i].b b).2 := by
                    unfold tryG
                    show (if (grow l.a d[i].b b).1 = true then grow l.b d[i].a (grow l.a d[i].b b).2 else _) = _
                    rw [h3]; rfl
                  rw [hG0] at uv
                  generalize (grow l.a d[i].b b).2 = b1 at m1 uv hG0 gl
                  have m2 := grow_tri l.b d[i].a b1 (by omega)
                  have gl2 := grow_len l.b d[i].a b1
                  cases h4 : (grow l.b d[i].a b1).1 with
                  | false =>
                    rw [h4] at m2
                    rw [h4, Bool.false_and, Bool.false_or] at uv
                    repeat' (first | refine awp_seq_k fun K hK => ?_ | ((first | refine awp_region_k (by kernel_rfl) fun R hR => ?_ | refine awp_draw mixed (by kernel_rfl) (by kernel_rfl) fun R hR => ?_); simp only [go_sem, u0, u1, u2, u6, u7, u8', z01, z02, z12, z11, hz, e0, e1, hy, htk, ht1, Int.toNat_natCast]) | ((first | (refine hR _ ?_; clear hR R) | refine awp_skip ?_ | refine awp_exit ?_ | refine awp_ret ?_); try simp only [thenA, inBlockA, reduceIte, reduceCtorEq, Nat.reduceEqDiff, if_false, if_true]) | ((first | refine hK _ ?_ | (clear hK K; first | refine hK _ ?_ | (clear hK K; first | refine hK _ ?_ | (clear hK K; first | refine hK _ ?_ | (clear hK K; refine hK _ ?_))))); clear hK K) | refine awp_true rfl rfl ?_ | refine awp_false rfl rfl ?_ | refine awp_block ?_ | ((first | refine CallK.pure (enter94) (m1) ?_ ?_ | refine CallD.pure (enter94) (m1) ?_ ?_); (focus first | ((repeat (first | exact trivial | refine ⟨(by first | exact Or.inl rfl | exact Or.inr rfl), ?_⟩)); done) | (simp only [coL, AV.dat, true_or, or_true, AV.d.injEq, go_sem]; done)); simp only [go_sem, u0, u1, u2, u6, u7, u8', z01, z02, z12, z11, hz, e0, e1, hy, htk, ht1, Int.toNat_natCast]) | ((first | refine CallK.pure (enter94) (m2) ?_ ?_ | refine CallD.pure (enter94) (m2) ?_ ?_); (focus first | ((repeat (first | exact trivial | refine ⟨(by first | exact Or.inl rfl | exact Or.inr rfl), ?_⟩)); done) | (simp only [coL, AV.dat, true_or, or_true, AV.d.injEq, go_sem]; done)); simp only [go_sem, u0, u1, u2, u6, u7, u8', z01, z02, z12, z11, hz, e0, e1, hy, htk, ht1, Int.toNat_natCast]) | ((first | refine CallK.pure (enter93) (turned_tri d[i]) ?_ ?_ | refine CallD.pure (enter93) (turned_tri d[i]) ?_ ?_); (focus first | ((repeat (first | exact trivial | refine ⟨(by first | exact Or.inl rfl | exact Or.inr rfl), ?_⟩)); done) | (simp only [coL, AV.dat, true_or, or_true, AV.d.injEq, go_sem]; done)); simp only [go_sem, u0, u1, u2, u6, u7, u8', z01, z02, z12, z11, hz, e0, e1, hy, htk, ht1, Int.toNat_natCast]) | refine And.intro (by first | ((repeat' first | omega | exact trivial | rfl | assumption | (intro a e; subst e; rfl) | exact map_sz fun a => (by simp only [go_sem]) | refine And.intro ?_ ?_); done) | fail) ?_ | fail)
                    refine ⟨⟨1 + 1, ?_⟩, ?_⟩
                    rotate_left
                    · simp only [go_sem, u0, u1, u2, u6, u7, u8']; omega
                    simp only [go_sem, u0, u1, u2, u6, u7, u8']
                    and_intros; all_goals try (first | rfl | omega | assumption | ((repeat (first | exact Fr.rfl' _ _ | assumption | refine Fr.updk ?_ (by omega) _)); done))
                  | true =>
                    rw [h4] at m2
                    rw [h4, Bool.true_and] at uv
                    generalize (grow l.b d[i].a b1).2 = b2 at m2 uv hG0 gl2
                    have m3 := ih b2 (by omega)
                    cases h5 : covG grow c d b2 with
                    | false =>
                      rw [h5] at m3
                      rw [h5, Bool.false_or] at uv
                      repeat' (first | (refine And.intro ⟨fun a e => (by subst e; rfl), by omega, by omega, by omega, map_sz (by intro a; simp only [go_sem])⟩ ?_) | refine awp_seq_k fun K hK => ?_ | ((first | refine awp_region_k (by kernel_rfl) fun R hR => ?_ | refine awp_draw mixed (by kernel_rfl) (by kernel_rfl) fun R hR => ?_); simp only [go_sem, u0, u1, u2, u6, u7, u8', z01, z02, z12, z11, hz, e0, e1, hy, htk, ht1, Int.toNat_natCast]) | ((first | (refine hR _ ?_; clear hR R) | refine awp_skip ?_ | refine awp_exit ?_ | refine awp_ret ?_); try simp only [thenA, inBlockA, reduceIte, reduceCtorEq, Nat.reduceEqDiff, if_false, if_true]) | ((first | refine hK _ ?_ | (clear hK K; first | refine hK _ ?_ | (clear hK K; first | refine hK _ ?_ | (clear hK K; first | refine hK _ ?_ | (clear hK K; refine hK _ ?_))))); clear hK K) | refine awp_true rfl rfl ?_ | refine awp_false rfl rfl ?_ | refine awp_block ?_ | ((first | refine CallK.pure (enter94) (m1) ?_ ?_ | refine CallD.pure (enter94) (m1) ?_ ?_); (focus first | ((repeat (first | exact trivial | refine ⟨(by first | exact Or.inl rfl | exact Or.inr rfl), ?_⟩)); done) | (simp only [coL, AV.dat, true_or, or_true, AV.d.injEq, go_sem]; done)); simp only [go_sem, u0, u1, u2, u6, u7, u8', z01, z02, z12, z11, hz, e0, e1, hy, htk, ht1, Int.toNat_natCast]) | ((first | refine CallK.pure (enter94) (m2) ?_ ?_ | refine CallD.pure (enter94) (m2) ?_ ?_); (focus first | ((repeat (first | exact trivial | refine ⟨(by first | exact Or.inl rfl | exact Or.inr rfl), ?_⟩)); done) | (simp only [coL, AV.dat, true_or, or_true, AV.d.injEq, go_sem]; done)); simp only [go_sem, u0, u1, u2, u6, u7, u8', z01, z02, z12, z11, hz, e0, e1, hy, htk, ht1, Int.toNat_natCast]) | ((first | refine CallK.pure (enter93) (turned_tri d[i]) ?_ ?_ | refine CallD.pure (enter93) (turned_tri d[i]) ?_ ?_ | refine CallK.pure (enter34) (m3) ?_ ?_ | refine CallD.pure (enter34) (m3) ?_ ?_); (focus first | ((repeat (first | exact trivial | refine ⟨(by first | exact Or.inl rfl | exact Or.inr rfl), ?_⟩)); done) | (simp only [coL, AV.dat, true_or, or_true, AV.d.injEq, go_sem]; done)); simp only [go_sem, u0, u1, u2, u6, u7, u8', z01, z02, z12, z11, hz, e0, e1, hy, htk, ht1, Int.toNat_natCast]) | refine And.intro (by first | ((repeat' first | omega | exact trivial | rfl | assumption | (intro a e; subst e; rfl) | exact map_sz fun a => (by simp only [go_sem]) | refine And.intro ?_ ?_); done) | fail) ?_ | fail)
                      refine ⟨⟨1 + 1, ?_⟩, ?_⟩
                      rotate_left
                      · simp only [go_sem, u0, u1, u2, u6, u7, u8']; omega
                      simp only [go_sem, u0, u1, u2, u6, u7, u8']
                      and_intros; all_goals try (first | rfl | omega | assumption | ((repeat (first | exact Fr.rfl' _ _ | assumption | refine Fr.updk ?_ (by omega) _)); done))
                    | true =>
                      rw [h5] at m3
                      rw [h5, Bool.true_or] at uv
                      repeat' (first | (refine And.intro ⟨fun a e => (by subst e; rfl), by omega, by omega, by omega, map_sz (by intro a; simp only [go_sem])⟩ ?_) | refine awp_seq_k fun K hK => ?_ | ((first | refine awp_region_k (by kernel_rfl) fun R hR => ?_ | refine awp_draw mixed (by kernel_rfl) (by kernel_rfl) fun R hR => ?_); simp only [go_sem, u0, u1, u2, u6, u7, u8', z01, z02, z12, z11, hz, e0, e1, hy, htk, ht1, Int.toNat_natCast]) | ((first | (refine hR _ ?_; clear hR R) | refine awp_skip ?_ | refine awp_exit ?_ | refine awp_ret ?_); try simp only [thenA, inBlockA, reduceIte, reduceCtorEq, Nat.reduceEqDiff, if_false, if_true]) | ((first | refine hK _ ?_ | (clear hK K; first | refine hK _ ?_ | (clear hK K; first | refine hK _ ?_ | (clear hK K; first | refine hK _ ?_ | (clear hK K; refine hK _ ?_))))); clear hK K) | refine awp_true rfl rfl ?_ | refine awp_false rfl rfl ?_ | refine awp_block ?_ | ((first | refine CallK.pure (enter94) (m1) ?_ ?_ | refine CallD.pure (enter94) (m1) ?_ ?_); (focus first | ((repeat (first | exact trivial | refine ⟨(by first | exact Or.inl rfl | exact Or.inr rfl), ?_⟩)); done) | (simp only [coL, AV.dat, true_or, or_true, AV.d.injEq, go_sem]; done)); simp only [go_sem, u0, u1, u2, u6, u7, u8', z01, z02, z12, z11, hz, e0, e1, hy, htk, ht1, Int.toNat_natCast]) | ((first | refine CallK.pure (enter94) (m2) ?_ ?_ | refine CallD.pure (enter94) (m2) ?_ ?_); (focus first | ((repeat (first | exact trivial | refine ⟨(by first | exact Or.inl rfl | exact Or.inr rfl), ?_⟩)); done) | (simp only [coL, AV.dat, true_or, or_true, AV.d.injEq, go_sem]; done)); simp only [go_sem, u0, u1, u2, u6, u7, u8', z01, z02, z12, z11, hz, e0, e1, hy, htk, ht1, Int.toNat_natCast]) | ((first | refine CallK.pure (enter93) (turned_tri d[i]) ?_ ?_ | refine CallD.pure (enter93) (turned_tri d[i]) ?_ ?_ | refine CallK.pure (enter34) (m3) ?_ ?_ | refine CallD.pure (enter34) (m3) ?_ ?_); (focus first | ((repeat (first | exact trivial | refine ⟨(by first | exact Or.inl rfl | exact Or.inr rfl), ?_⟩)); done) | (simp only [coL, AV.dat, true_or, or_true, AV.d.injEq, go_sem]; done)); simp only [go_sem, u0, u1, u2, u6, u7, u8', z01, z02, z12, z11, hz, e0, e1, hy, htk, ht1, Int.toNat_natCast]) | refine And.intro (by first | ((repeat' first | omega | exact trivial | rfl | assumption | (intro a e; subst e; rfl) | exact map_sz fun a => (by simp only [go_sem]) | refine And.intro ?_ ?_); done) | fail) ?_ | fail)
                      (first | refine ret_pure ?_ ?_ ?_ | refine ret_ro ?_ ?_ ?_); focus exact (by simp only [Try.results34, resOkL, resOk, Try.ntmps34, List.toList_toArray]; first | decide | (simp only [go_sem, u6]; done) | (simp only [go_sem, u6]; and_intros <;> first | omega | rfl | decide))
                      rotate_left; focus exact (by repeat (first | exact Fr.rfl' _ _ | assumption | refine Fr.updk ?_ (by omega) _))
                      simp only [resA, resV, Try.results34, go_sem, u6]
                      all_goals try (first | exact Co.t2 (.dat rfl) (.dat rfl) | exact Co.t3 (.dat rfl) (.dat rfl) (.dat rfl))
                      exact co_b uv
          · have jz : ¬ ((j : Int) < 2) := by omega
            obtain rfl : j = 2 := by omega
            rw [List.drop_eq_nil_of_le (by omega), List.any_nil, Bool.false_or] at uv
            repeat' (first | refine awp_seq_k fun K hK => ?_ | ((first | refine awp_region_k (by kernel_rfl) fun R hR => ?_ | refine awp_draw mixed (by kernel_rfl) (by kernel_rfl) fun R hR => ?_); simp only [go_sem, u0, u1, u2, u6, u7, u8, jz]) | ((first | (refine hR _ ?_; clear hR R) | refine awp_skip ?_ | refine awp_exit ?_ | refine awp_ret ?_); try simp only [thenA, inBlockA, reduceIte, reduceCtorEq, Nat.reduceEqDiff, if_false, if_true]) | ((first | refine hK _ ?_ | (clear hK K; first | refine hK _ ?_ | (clear hK K; first | refine hK _ ?_ | (clear hK K; first | refine hK _ ?_ | (clear hK K; refine hK _ ?_))))); clear hK K) | refine awp_true rfl rfl ?_ | refine awp_false rfl rfl ?_ | refine awp_block ?_ | refine And.intro (by first | ((repeat' first | omega | exact trivial | rfl | assumption | (intro a e; subst e; rfl) | exact map_sz fun a => (by simp only [go_sem]) | refine And.intro ?_ ?_); done) | fail) ?_ | fail)
            refine ⟨⟨i + 1, ?_⟩, ?_⟩
            rotate_left
            · simp only [go_sem, u0, u1, u2, u6, u7, u8, s7]; omega
            simp only [go_sem, u0, u1, u2, u6, u7, u8, s7]
            and_intros; all_goals try (first | rfl | omega | assumption | ((repeat (first | exact Fr.rfl' _ _ | assumption | refine Fr.updk ?_ (by omega) _)); done))
      · have hz : ¬ ((i : Int) < (d.length : Int)) := by omega
        obtain rfl : i = d.length := by omega
        rw [List.drop_length, List.any_nil] at hv
        repeat' (first | refine awp_seq_k fun K hK => ?_ | ((first | refine awp_region_k (by kernel_rfl) fun R hR => ?_ | refine awp_draw mixed (by kernel_rfl) (by kernel_rfl) fun R hR => ?_); simp only [go_sem, s0, s1, s2, s6, s7, hz]) | ((first | (refine hR _ ?_; clear hR R) | refine awp_skip ?_ | refine awp_exit ?_ | refine awp_ret ?_); try simp only [thenA, inBlockA, reduceIte, reduceCtorEq, Nat.reduceEqDiff, if_false, if_true]) | ((first | refine hK _ ?_ | (clear hK K; first | refine hK _ ?_ | (clear hK K; first | refine hK _ ?_ | (clear hK K; first | refine hK _ ?_ | (clear hK K; refine hK _ ?_))))); clear hK K) | refine awp_true rfl rfl ?_ | refine awp_false rfl rfl ?_ | refine awp_block ?_ | refine And.intro (by first | ((repeat' first | omega | exact trivial | rfl | assumption | (intro a e; subst e; rfl) | exact map_sz fun a => (by simp only [go_sem]) | refine And.intro ?_ ?_); done) | fail) ?_ | fail)
        (first | refine ret_pure ?_ ?_ ?_ | refine ret_ro ?_ ?_ ?_); focus exact (by simp only [Try.results34, resOkL, resOk, Try.ntmps34, List.toList_toArray]; first | decide | (simp only [go_sem, s6]; done) | (simp only [go_sem, s6]; and_intros <;> first | omega | rfl | decide))
        rotate_left; focus exact (by repeat (first | exact Fr.rfl' _ _ | assumption | refine Fr.updk ?_ (by omega) _))
        simp only [resA, resV, Try.results34, go_sem, s6]
        all_goals try (first | exact Co.t2 (.dat rfl) (.dat rfl) | exact Co.t3 (.dat rfl) (.dat rfl) (.dat rfl))
        exact co_b hv
end Go.Proofs.Ytmeekpinkfpnhaa
namespace Go.Proofs.Ytmeekpinkfpnhaa
open Go.RowKit
theorem ltDV_y {l : Lt} {y : Bool} (h : l.y = y) : ltDV l = ltDV ⟨y, l.a, l.b⟩ := by rw [← h]
set_option maxHeartbeats 2000000 in
set_option maxRecDepth 20000 in
theorem alwaysOf_tri (c : List Lt) (hc : c.length ≤ 4000000) : Tri Try.prog 33 [.d (clDV c)] (pure' (bA (alwB c))) := by
  refine tri_enter Try.func33 rfl Try.ntmps33 (by simp only [List.length_cons, List.length_nil]; omega) fun w0 h0 k hrd hwr => ?_
  repeat' (first | refine awp_seq_k fun K hK => ?_ | ((first | refine awp_region_k (by kernel_rfl) fun R hR => ?_ | refine awp_draw mixed (by kernel_rfl) (by kernel_rfl) fun R hR => ?_); simp only [go_sem]) | ((first | (refine hR _ ?_; clear hR R) | refine awp_skip ?_ | refine awp_exit ?_ | refine awp_ret ?_); try simp only [thenA, inBlockA, reduceIte, reduceCtorEq, Nat.reduceEqDiff, if_false, if_true]) | ((first | refine hK _ ?_ | (clear hK K; first | refine hK _ ?_ | (clear hK K; first | refine hK _ ?_ | (clear hK K; first | refine hK _ ?_ | (clear hK K; refine hK _ ?_))))); clear hK K) | refine awp_true rfl rfl ?_ | refine awp_false rfl rfl ?_ | refine awp_block ?_ | refine And.intro (by first | ((repeat' first | omega | exact trivial | rfl | assumption | (intro a e; subst e; rfl) | exact map_sz fun a => (by simp only [go_sem]) | refine And.intro ?_ ?_); done) | fail) ?_ | fail)
  refine awp_loop (fun σ => ∃ i : Nat, σ.t 0 = .d (clDV c) ∧ σ.t 3 = iA i ∧ σ.h = h0 ∧ k < σ.k ∧ i ≤ c.length ∧ ((c.drop i).any fun l => l.y && (same l.a l.b || c.any fun x => !x.y && sidesB x l)) = alwB c) (fun σ => c.length - (intOf' (σ.t 3)).toNat) ?_ ?_
  · refine ⟨0, ?_⟩
    simp only [go_sem, List.drop_zero]
    and_intros; all_goals try (first | rfl | omega | assumption | ((repeat (first | exact Fr.rfl' _ _ | assumption | refine Fr.updk ?_ (by omega) _)); done))
  · rintro σ ⟨i, s0, s3, sh, hk, hi, hv⟩
    have hfr : Fr k h0 σ.h := by rw [sh]; exact Fr.rfl' _ _
    rcases Nat.lt_or_ge i c.length with hlt | hge
    · have hz : (i : Int) < (c.length : Int) := by omega
      have e1 : (c.map ltDV).getD i default = ltDV c[i] := nth_map ltDV hlt _
      rw [List.drop_eq_getElem_cons hlt, List.any_cons] at hv
      generalize c[i] = l at *
      obtain ⟨y, s, t⟩ := l
      dsimp only at hv
      cases y with
      | false =>
        rw [Bool.false_and, Bool.false_or] at hv
        repeat' (first | refine awp_seq_k fun K hK => ?_ | ((first | refine awp_region_k (by kernel_rfl) fun R hR => ?_ | refine awp_draw mixed (by kernel_rfl) (by kernel_rfl) fun R hR => ?_); simp only [go_sem, s0, s3, hz, e1, Int.toNat_natCast]) | ((first | (refine hR _ ?_; clear hR R) | refine awp_skip ?_ | refine awp_exit ?_ | refine awp_ret ?_); try simp only [thenA, inBlockA, reduceIte, reduceCtorEq, Nat.reduceEqDiff, if_false, if_true]) | ((first | refine hK _ ?_ | (clear hK K; first | refine hK _ ?_ | (clear hK K; first | refine hK _ ?_ | (clear hK K; first | refine hK _ ?_ | (clear hK K; refine hK _ ?_))))); clear hK K) | refine awp_true rfl rfl ?_ | refine awp_false rfl rfl ?_ | refine awp_block ?_ | refine And.intro (by first | ((repeat' first | omega | exact trivial | rfl | assumption | (intro a e; subst e; rfl) | exact map_sz fun a => (by simp only [go_sem]) | refine And.intro ?_ ?_); done) | fail) ?_ | fail)
        refine ⟨⟨i + 1, ?_⟩, ?_⟩
        rotate_left
        · simp only [go_sem, s0, s3, sh]; omega
        simp only [go_sem, s0, s3, sh]
        and_intros; all_goals try (first | rfl | omega | assumption | ((repeat (first | exact Fr.rfl' _ _ | assumption | refine Fr.updk ?_ (by omega) _)); done))
      | true =>
        rw [Bool.true_and] at hv
        cases h1 : same s t with
        | true =>
          rw [h1, Bool.true_or, Bool.true_or] at hv
          repeat' (first | refine awp_seq_k fun K hK => ?_ | ((first | refine awp_region_k (by kernel_rfl) fun R hR => ?_ | refine awp_draw mixed (by kernel_rfl) (by kernel_rfl) fun R hR => ?_); simp only [go_sem, s0, s3, hz, e1, h1, Int.toNat_natCast]) | ((first | (refine hR _ ?_; clear hR R) | refine awp_skip ?_ | refine awp_exit ?_ | refine awp_ret ?_); try simp only [thenA, inBlockA, reduceIte, reduceCtorEq, Nat.reduceEqDiff, if_false, if_true]) | ((first | refine hK _ ?_ | (clear hK K; first | refine hK _ ?_ | (clear hK K; first | refine hK _ ?_ | (clear hK K; first | refine hK _ ?_ | (clear hK K; refine hK _ ?_))))); clear hK K) | refine awp_true rfl rfl ?_ | refine awp_false rfl rfl ?_ | refine awp_block ?_ | ((first | refine CallK.pure (enter47) (sameR_tri s t) ?_ ?_ | refine CallD.pure (enter47) (sameR_tri s t) ?_ ?_); (focus first | ((repeat (first | exact trivial | refine ⟨(by first | exact Or.inl rfl | exact Or.inr rfl), ?_⟩)); done) | (simp only [coL, AV.dat, true_or, or_true, AV.d.injEq, go_sem]; done)); simp only [go_sem, s0, s3, hz, e1, h1, Int.toNat_natCast]) | refine And.intro (by first | ((repeat' first | omega | exact trivial | rfl | assumption | (intro a e; subst e; rfl) | exact map_sz fun a => (by simp only [go_sem]) | refine And.intro ?_ ?_); done) | fail) ?_ | fail)
          (first | refine ret_pure ?_ ?_ ?_ | refine ret_ro ?_ ?_ ?_); focus exact (by simp only [Try.results33, resOkL, resOk, Try.ntmps33, List.toList_toArray]; first | decide | (simp only [go_sem]; done) | (simp only [go_sem]; and_intros <;> first | omega | rfl | decide))
          rotate_left; focus exact (by repeat (first | exact Fr.rfl' _ _ | assumption | refine Fr.updk ?_ (by omega) _))
          simp only [resA, resV, Try.results33, go_sem]
          all_goals try (first | exact Co.t2 (.dat rfl) (.dat rfl) | exact Co.t3 (.dat rfl) (.dat rfl) (.dat rfl))
          exact co_b hv
        | false =>
          rw [h1, Bool.false_or] at hv
          repeat' (first | refine awp_seq_k fun K hK => ?_ | ((first | refine awp_region_k (by kernel_rfl) fun R hR => ?_ | refine awp_draw mixed (by kernel_rfl) (by kernel_rfl) fun R hR => ?_); simp only [go_sem, s0, s3, hz, e1, h1, Int.toNat_natCast]) | ((first | (refine hR _ ?_; clear hR R) | refine awp_skip ?_ | refine awp_exit ?_ | refine awp_ret ?_); try simp only [thenA, inBlockA, reduceIte, reduceCtorEq, Nat.reduceEqDiff, if_false, if_true]) | ((first | refine hK _ ?_ | (clear hK K; first | refine hK _ ?_ | (clear hK K; first | refine hK _ ?_ | (clear hK K; first | refine hK _ ?_ | (clear hK K; refine hK _ ?_))))); clear hK K) | refine awp_true rfl rfl ?_ | refine awp_false rfl rfl ?_ | refine awp_block ?_ | ((first | refine CallK.pure (enter47) (sameR_tri s t) ?_ ?_ | refine CallD.pure (enter47) (sameR_tri s t) ?_ ?_); (focus first | ((repeat (first | exact trivial | refine ⟨(by first | exact Or.inl rfl | exact Or.inr rfl), ?_⟩)); done) | (simp only [coL, AV.dat, true_or, or_true, AV.d.injEq, go_sem]; done)); simp only [go_sem, s0, s3, hz, e1, h1, Int.toNat_natCast]) | refine And.intro (by first | ((repeat' first | omega | exact trivial | rfl | assumption | (intro a e; subst e; rfl) | exact map_sz fun a => (by simp only [go_sem]) | refine And.intro ?_ ?_); done) | fail) ?_ | fail)
          refine awp_loop (fun τ => ∃ j : Nat, τ.t 0 = .d (clDV c) ∧ τ.t 3 = iA i ∧ τ.t 4 = iA j ∧ τ.h = h0 ∧ k < τ.k ∧ j ≤ c.length ∧ ((c.drop j).any fun x => !x.y && sidesB x ⟨true, s, t⟩) = c.any fun x => !x.y && sidesB x ⟨true, s, t⟩) (fun τ => c.length - (intOf' (τ.t 4)).toNat) ?_ ?_
          · refine ⟨0, ?_⟩
            simp only [go_sem, s0, s3, sh, List.drop_zero]
            and_intros; all_goals try (first | rfl | omega | assumption | ((repeat (first | exact Fr.rfl' _ _ | assumption | refine Fr.updk ?_ (by omega) _)); done))
          · rintro τ ⟨j, u0, u3, u4, uh, uk, uj, uv⟩
            have hfr' : Fr k h0 τ.h := by rw [uh]; exact Fr.rfl' _ _
            rcases Nat.lt_or_ge j c.length with hlt' | hge'
            · have hz' : (j : Int) < (c.length : Int) := by omega
              have e2 : (c.map ltDV).getD j default = ltDV c[j] := nth_map ltDV hlt' _
              rw [List.drop_eq_getElem_cons hlt', List.any_cons] at uv
              generalize c[j] = x at *
              obtain ⟨y', s', t'⟩ := x
              dsimp only at uv
              cases y' with
              | true =>
                rw [Bool.not_true, Bool.false_and, Bool.false_or] at uv
                repeat' (first | refine awp_seq_k fun K hK => ?_ | ((first | refine awp_region_k (by kernel_rfl) fun R hR => ?_ | refine awp_draw mixed (by kernel_rfl) (by kernel_rfl) fun R hR => ?_); simp only [go_sem, u0, u3, u4, hz, hz', e1, e2, Int.toNat_natCast]) | ((first | (refine hR _ ?_; clear hR R) | refine awp_skip ?_ | refine awp_exit ?_ | refine awp_ret ?_); try simp only [thenA, inBlockA, reduceIte, reduceCtorEq, Nat.reduceEqDiff, if_false, if_true]) | ((first | refine hK _ ?_ | (clear hK K; first | refine hK _ ?_ | (clear hK K; first | refine hK _ ?_ | (clear hK K; first | refine hK _ ?_ | (clear hK K; refine hK _ ?_))))); clear hK K) | refine awp_true rfl rfl ?_ | refine awp_false rfl rfl ?_ | refine awp_block ?_ | refine And.intro (by first | ((repeat' first | omega | exact trivial | rfl | assumption | (intro a e; subst e; rfl) | exact map_sz fun a => (by simp only [go_sem]) | refine And.intro ?_ ?_); done) | fail) ?_ | fail)
                refine ⟨⟨j + 1, ?_⟩, ?_⟩
                rotate_left
                · simp only [go_sem, u0, u3, u4, uh]; omega
                simp only [go_sem, u0, u3, u4, uh]
                and_intros; all_goals try (first | rfl | omega | assumption | ((repeat (first | exact Fr.rfl' _ _ | assumption | refine Fr.updk ?_ (by omega) _)); done))
              | false =>
                have hs := sameSides_tri ⟨true, s, t⟩ ⟨false, s', t'⟩
                rw [sides_comm] at hs
                cases h2 : sidesB ⟨false, s', t'⟩ ⟨true, s, t⟩ with
                | true =>
                  rw [h2] at hs uv
                  rw [Bool.not_false, Bool.true_and, Bool.true_or] at uv
                  rw [← uv, Bool.true_or] at hv
                  repeat' (first | refine awp_seq_k fun K hK => ?_ | ((first | refine awp_region_k (by kernel_rfl) fun R hR => ?_ | refine awp_draw mixed (by kernel_rfl) (by kernel_rfl) fun R hR => ?_); simp only [go_sem, u0, u3, u4, hz, hz', e1, e2, Int.toNat_natCast]) | ((first | (refine hR _ ?_; clear hR R) | refine awp_skip ?_ | refine awp_exit ?_ | refine awp_ret ?_); try simp only [thenA, inBlockA, reduceIte, reduceCtorEq, Nat.reduceEqDiff, if_false, if_true]) | ((first | refine hK _ ?_ | (clear hK K; first | refine hK _ ?_ | (clear hK K; first | refine hK _ ?_ | (clear hK K; first | refine hK _ ?_ | (clear hK K; refine hK _ ?_))))); clear hK K) | refine awp_true rfl rfl ?_ | refine awp_false rfl rfl ?_ | refine awp_block ?_ | ((first | refine CallK.pure (enter91) (hs) ?_ ?_ | refine CallD.pure (enter91) (hs) ?_ ?_); (focus first | ((repeat (first | exact trivial | refine ⟨(by first | exact Or.inl rfl | exact Or.inr rfl), ?_⟩)); done) | (simp only [coL, AV.dat, true_or, or_true, AV.d.injEq, go_sem]; done)); simp only [go_sem, u0, u3, u4, hz, hz', e1, e2, Int.toNat_natCast]) | refine And.intro (by first | ((repeat' first | omega | exact trivial | rfl | assumption | (intro a e; subst e; rfl) | exact map_sz fun a => (by simp only [go_sem]) | refine And.intro ?_ ?_); done) | fail) ?_ | fail)
                  (first | refine ret_pure ?_ ?_ ?_ | refine ret_ro ?_ ?_ ?_); focus exact (by simp only [Try.results33, resOkL, resOk, Try.ntmps33, List.toList_toArray]; first | decide | (simp only [go_sem]; done) | (simp only [go_sem]; and_intros <;> first | omega | rfl | decide))
                  rotate_left; focus exact (by repeat (first | exact Fr.rfl' _ _ | assumption | refine Fr.updk ?_ (by omega) _))
                  simp only [resA, resV, Try.results33, go_sem]
                  all_goals try (first | exact Co.t2 (.dat rfl) (.dat rfl) | exact Co.t3 (.dat rfl) (.dat rfl) (.dat rfl))
                  exact co_b hv
                | false =>
                  rw [h2] at hs uv
                  rw [Bool.and_false, Bool.false_or] at uv
                  repeat' (first | refine awp_seq_k fun K hK => ?_ | ((first | refine awp_region_k (by kernel_rfl) fun R hR => ?_ | refine awp_draw mixed (by kernel_rfl) (by kernel_rfl) fun R hR => ?_); simp only [go_sem, u0, u3, u4, hz, hz', e1, e2, Int.toNat_natCast]) | ((first | (refine hR _ ?_; clear hR R) | refine awp_skip ?_ | refine awp_exit ?_ | refine awp_ret ?_); try simp only [thenA, inBlockA, reduceIte, reduceCtorEq, Nat.reduceEqDiff, if_false, if_true]) | ((first | refine hK _ ?_ | (clear hK K; first | refine hK _ ?_ | (clear hK K; first | refine hK _ ?_ | (clear hK K; first | refine hK _ ?_ | (clear hK K; refine hK _ ?_))))); clear hK K) | refine awp_true rfl rfl ?_ | refine awp_false rfl rfl ?_ | refine awp_block ?_ | ((first | refine CallK.pure (enter91) (hs) ?_ ?_ | refine CallD.pure (enter91) (hs) ?_ ?_); (focus first | ((repeat (first | exact trivial | refine ⟨(by first | exact Or.inl rfl | exact Or.inr rfl), ?_⟩)); done) | (simp only [coL, AV.dat, true_or, or_true, AV.d.injEq, go_sem]; done)); simp only [go_sem, u0, u3, u4, hz, hz', e1, e2, Int.toNat_natCast]) | refine And.intro (by first | ((repeat' first | omega | exact trivial | rfl | assumption | (intro a e; subst e; rfl) | exact map_sz fun a => (by simp only [go_sem]) | refine And.intro ?_ ?_); done) | fail) ?_ | fail)
                  refine ⟨⟨j + 1, ?_⟩, ?_⟩
                  rotate_left
                  · simp only [go_sem, u0, u3, u4, uh]; omega
                  simp only [go_sem, u0, u3, u4, uh]
                  and_intros; all_goals try (first | rfl | omega | assumption | ((repeat (first | exact Fr.rfl' _ _ | assumption | refine Fr.updk ?_ (by omega) _)); done))
            · have hz' : ¬ ((j : Int) < (c.length : Int)) := by omega
              rw [List.drop_eq_nil_of_le hge', List.any_nil] at uv
              rw [← uv, Bool.false_or] at hv
              repeat' (first | refine awp_seq_k fun K hK => ?_ | ((first | refine awp_region_k (by kernel_rfl) fun R hR => ?_ | refine awp_draw mixed (by kernel_rfl) (by kernel_rfl) fun R hR => ?_); simp only [go_sem, u0, u3, u4, hz']) | ((first | (refine hR _ ?_; clear hR R) | refine awp_skip ?_ | refine awp_exit ?_ | refine awp_ret ?_); try simp only [thenA, inBlockA, reduceIte, reduceCtorEq, Nat.reduceEqDiff, if_false, if_true]) | ((first | refine hK _ ?_ | (clear hK K; first | refine hK _ ?_ | (clear hK K; first | refine hK _ ?_ | (clear hK K; first | refine hK _ ?_ | (clear hK K; refine hK _ ?_))))); clear hK K) | refine awp_true rfl rfl ?_ | refine awp_false rfl rfl ?_ | refine awp_block ?_ | refine And.intro (by first | ((repeat' first | omega | exact trivial | rfl | assumption | (intro a e; subst e; rfl) | exact map_sz fun a => (by simp only [go_sem]) | refine And.intro ?_ ?_); done) | fail) ?_ | fail)
              refine ⟨⟨i + 1, ?_⟩, ?_⟩
              rotate_left
              · simp only [go_sem, u0, u3, uh, s3]; omega
              simp only [go_sem, u0, u3, uh, s3]
              and_intros; all_goals try (first | rfl | omega | assumption | ((repeat (first | exact Fr.rfl' _ _ | assumption | refine Fr.updk ?_ (by omega) _)); done))
    · have hz : ¬ ((i : Int) < (c.length : Int)) := by omega
      rw [List.drop_eq_nil_of_le hge, List.any_nil] at hv
      repeat' (first | refine awp_seq_k fun K hK => ?_ | ((first | refine awp_region_k (by kernel_rfl) fun R hR => ?_ | refine awp_draw mixed (by kernel_rfl) (by kernel_rfl) fun R hR => ?_); simp only [go_sem, s0, s3, hz]) | ((first | (refine hR _ ?_; clear hR R) | refine awp_skip ?_ | refine awp_exit ?_ | refine awp_ret ?_); try simp only [thenA, inBlockA, reduceIte, reduceCtorEq, Nat.reduceEqDiff, if_false, if_true]) | ((first | refine hK _ ?_ | (clear hK K; first | refine hK _ ?_ | (clear hK K; first | refine hK _ ?_ | (clear hK K; first | refine hK _ ?_ | (clear hK K; refine hK _ ?_))))); clear hK K) | refine awp_true rfl rfl ?_ | refine awp_false rfl rfl ?_ | refine awp_block ?_ | refine And.intro (by first | ((repeat' first | omega | exact trivial | rfl | assumption | (intro a e; subst e; rfl) | exact map_sz fun a => (by simp only [go_sem]) | refine And.intro ?_ ?_); done) | fail) ?_ | fail)
      (first | refine ret_pure ?_ ?_ ?_ | refine ret_ro ?_ ?_ ?_); focus exact (by simp only [Try.results33, resOkL, resOk, Try.ntmps33, List.toList_toArray]; first | decide | (simp only [go_sem]; done) | (simp only [go_sem]; and_intros <;> first | omega | rfl | decide))
      rotate_left; focus exact (by repeat (first | exact Fr.rfl' _ _ | assumption | refine Fr.updk ?_ (by omega) _))
      simp only [resA, resV, Try.results33, go_sem]
      all_goals try (first | exact Co.t2 (.dat rfl) (.dat rfl) | exact Co.t3 (.dat rfl) (.dat rfl) (.dat rfl))
      exact co_b hv
end Go.Proofs.Ytmeekpinkfpnhaa
namespace Go.Proofs.Ytmeekpinkfpnhaa
mutual
def sub (σ : Int → Tm) : Tm → Tm
  | .mk v f us => if v > 0 then σ v else .mk v f (subL σ us)
def subL (σ : Int → Tm) : List Tm → List Tm
  | [] => []
  | x :: xs => sub σ x :: subL σ xs
end
theorem sub_eq (σ : Int → Tm) (t : Tm) : sub σ t = if t.v > 0 then σ t.v else .mk t.v t.f (subL σ t.us) := by cases t; rw [sub]; rfl
theorem subL_map (σ : Int → Tm) (us : List Tm) : subL σ us = us.map (sub σ) := by
  induction us with
  | nil => rfl
  | cons x xs ih => rw [subL, ih, List.map_cons]
mutual
theorem sub_sub (σ τ : Int → Tm) : ∀ t : Tm, sub τ (sub σ t) = sub (fun v => sub τ (σ v)) t
  | .mk v f us => by
    rw [sub, sub]
    by_cases hv : v > 0
    · rw [if_pos hv, if_pos hv]
    · rw [if_neg hv, if_neg hv, sub, if_neg hv, subL_subL σ τ us]
theorem subL_subL (σ τ : Int → Tm) : ∀ us : List Tm, subL τ (subL σ us) = subL (fun v => sub τ (σ v)) us
  | [] => rfl
  | x :: xs => by rw [subL, subL, subL, sub_sub σ τ x, subL_subL σ τ xs]
end
mutual
theorem sub_congr {σ τ : Int → Tm} : ∀ t : Tm, (∀ x ∈ parts t, x.v > 0 → σ x.v = τ x.v) → sub σ t = sub τ t
  | .mk v f us, h => by
    rw [sub, sub]
    by_cases hv : v > 0
    · rw [if_pos hv, if_pos hv]; exact h (.mk v f us) (by rw [parts]; simp) hv
    · rw [if_neg hv, if_neg hv, subL_congr us fun x hx => h x (by rw [parts]; exact List.mem_append_left _ hx)]
theorem subL_congr {σ τ : Int → Tm} : ∀ us : List Tm, (∀ x ∈ partsL us, x.v > 0 → σ x.v = τ x.v) → subL σ us = subL τ us
  | [], _ => rfl
  | x :: xs, h => by
    rw [subL, subL, sub_congr x fun y hy => h y (by rw [partsL]; exact List.mem_append_left _ hy), subL_congr xs fun y hy => h y (by rw [partsL]; exact List.mem_append_right _ hy)]
end
abbrev vt (v : Int) : Tm := .mk v 0 []
def Pure (t : Tm) : Prop := ∀ x ∈ parts t, 0 ≤ x.v ∧ (x.v > 0 → x = vt x.v)
theorem Pure.good {t : Tm} (h : Pure t) : Good t := fun x hx => ⟨(h x hx).1, fun hv => by rw [(h x hx).2 hv]; rfl⟩
theorem parts_kid {t u : Tm} (hu : u ∈ t.us) {x : Tm} (hx : x ∈ parts u) : x ∈ parts t := by
  rw [parts_eq]
  refine List.mem_append_left _ ?_
  generalize t.us = us at hu
  induction us with
  | nil => cases hu
  | cons y ys ih =>
    rw [partsL, List.mem_append]
    rcases List.mem_cons.1 hu with rfl | hu
    · exact .inl hx
    · exact .inr (ih hu)
theorem parts_self (t : Tm) : t ∈ parts t := by rw [parts_eq]; simp
theorem partsL_mem {us : List Tm} {x : Tm} (h : x ∈ partsL us) : ∃ u ∈ us, x ∈ parts u := by
  induction us with
  | nil => simp [partsL] at h
  | cons y ys ih =>
    rw [partsL, List.mem_append] at h
    rcases h with h | h
    · exact ⟨y, by simp, h⟩
    · obtain ⟨u, hu, hx⟩ := ih h
      exact ⟨u, by simp [hu], hx⟩
theorem partsL_of {us : List Tm} {u x : Tm} (hu : u ∈ us) (hx : x ∈ parts u) : x ∈ partsL us := by
  induction us with
  | nil => cases hu
  | cons y ys ih =>
    rw [partsL, List.mem_append]
    rcases List.mem_cons.1 hu with rfl | hu
    · exact .inl hx
    · exact .inr (ih hu)
theorem Pure.kid {t u : Tm} (h : Pure t) (hu : u ∈ t.us) : Pure u := fun x hx => h x (parts_kid hu hx)
theorem Pure.nn {t : Tm} (h : Pure t) : ∀ x ∈ parts t, 0 ≤ x.v := fun x hx => (h x hx).1
theorem own_pure {g : List Int} {t : Tm} (h : own g t = 0) : Pure t := fun x hx => by
  refine ⟨own_v h hx, fun hv => ?_⟩
  have h1 := own_each h hx
  have h2 := own_bare h x hx hv
  unfold formOne at h1
  rw [if_pos (by omega)] at h1
  split at h1
  · cases h1
  · split at h1
    · cases h1
    · rename_i h3
      obtain ⟨v, f, us⟩ := x
      simp only [Tm.us, Tm.f, Tm.v] at *
      subst h2
      have : f = 0 := by
        rcases Classical.em (f = 0) with h | h
        · exact h
        · exact absurd (.inr h) h3
      rw [this]
mutual
theorem sub_id : ∀ t : Tm, Pure t → sub vt t = t
  | .mk v f us, h => by
    rw [sub]
    by_cases hv : v > 0
    · rw [if_pos hv]; exact ((h (.mk v f us) (parts_self _)).2 hv).symm
    · rw [if_neg hv, subL_id us fun u hu => h.kid (t := .mk v f us) hu]
theorem subL_id : ∀ us : List Tm, (∀ u ∈ us, Pure u) → subL vt us = us
  | [], _ => rfl
  | x :: xs, h => by rw [subL, sub_id x (h x (by simp)), subL_id xs fun u hu => h u (by simp [hu])]
end
def ExB (σ : Int → Tm) (b : Bs) : Prop := ∀ v u, lookB v b = some u → σ v = u
def sbOf (b : Bs) (v : Int) : Tm := (lookB v b).getD (vt v)
theorem sbOf_ext (b : Bs) : ExB (sbOf b) b := fun v u h => by unfold sbOf; rw [h]; rfl
theorem lookB_append (v : Int) (a b : Bs) : lookB v (a ++ b) = match lookB v a with | some u => some u | none => lookB v b := by
  induction a with
  | nil => rfl
  | cons p a ih =>
    rw [List.cons_append, lookB, lookB, ih]
    by_cases h : v = p.1
    · rw [if_pos h, if_pos h]
    · rw [if_neg h, if_neg h]
theorem ExB.snoc {σ : Int → Tm} {b : Bs} {v : Int} {t : Tm} (h : ExB σ (b ++ [(v, t)])) (hn : lookB v b = none) : ExB σ b ∧ σ v = t := by
  refine ⟨fun x u hx => h x u (by rw [lookB_append, hx]), h v t (by rw [lookB_append, hn]; simp [lookB])⟩
theorem ExB.mk {σ : Int → Tm} {b : Bs} {v : Int} {t : Tm} (h : ExB σ b) (hv : σ v = t) : ExB σ (b ++ [(v, t)]) := fun x u hx => by
  rw [lookB_append] at hx
  cases hb : lookB x b with
  | some w => rw [hb] at hx; cases hx; exact h x _ hb
  | none =>
    rw [hb] at hx
    simp only [lookB] at hx
    split at hx
    · cases hx; subst_vars; rfl
    · cases hx
mutual
theorem meet_sound {σ : Int → Tm} : ∀ (p t : Tm) (b : Bs), (∀ x ∈ parts p, 0 ≤ x.v) → (meet p t b).1 = true → ExB σ (meet p t b).2 → ExB σ b ∧ sub σ p = t
  | .mk v f us, t, b, hp, h, he => by
    rw [meet] at h he
    rw [sub]
    by_cases hv : v > 0
    · rw [if_pos hv] at h he ⊢
      cases hb : lookB v b with
      | some u =>
        rw [hb] at h he
        simp only at h he
        rw [same_iff] at h
        exact ⟨he, by rw [← h]; exact he v u hb⟩
      | none =>
        rw [hb] at he
        simp only at he
        exact he.snoc hb
    · rw [if_neg hv] at h he ⊢
      by_cases hc : t.v = 0 ∧ f = t.f ∧ us.length = t.us.length
      · rw [if_pos hc] at h he
        obtain ⟨c1, c2, c3⟩ := hc
        obtain ⟨h1, h2⟩ := meetL_sound us t.us b (fun x hx => hp x (by rw [parts]; exact List.mem_append_left _ hx)) c3 h he
        refine ⟨h1, ?_⟩
        have hv0 : v = 0 := by have := hp (.mk v f us) (parts_self _); simp only [Tm.v] at this; omega
        rw [h2, hv0, ← c1, c2, Tm.eta]
      · rw [if_neg hc] at h; cases h
theorem meetL_sound {σ : Int → Tm} : ∀ (xs ys : List Tm) (b : Bs), (∀ x ∈ partsL xs, 0 ≤ x.v) → xs.length = ys.length → (meetL xs ys b).1 = true → ExB σ (meetL xs ys b).2 → ExB σ b ∧ subL σ xs = ys
  | [], [], b, _, _, _, he => ⟨he, rfl⟩
  | x :: xs, y :: ys, b, hp, hl, h, he => by
    rw [meetL] at h he
    by_cases hc : (meet x y b).1 = true
    · rw [if_pos hc] at h he
      obtain ⟨h1, h2⟩ := meetL_sound xs ys _ (fun z hz => hp z (by rw [partsL]; exact List.mem_append_right _ hz)) (by simpa using hl) h he
      obtain ⟨h3, h4⟩ := meet_sound x y b (fun z hz => hp z (by rw [partsL]; exact List.mem_append_left _ hz)) hc h1
      exact ⟨h3, by rw [subL, h4, h2]⟩
    · rw [if_neg hc] at h; cases h
end
mutual
theorem meet_compl {σ : Int → Tm} : ∀ (p t : Tm) (b : Bs), (∀ x ∈ parts p, 0 ≤ x.v) → ExB σ b → sub σ p = t → (meet p t b).1 = true ∧ ExB σ (meet p t b).2
  | .mk v f us, t, b, hp, he, h => by
    rw [meet]
    rw [sub] at h
    by_cases hv : v > 0
    · rw [if_pos hv] at h ⊢
      cases hb : lookB v b with
      | some u =>
        simp only
        refine ⟨?_, he⟩
        rw [same_iff, ← h]; exact (he v u hb).symm
      | none => exact ⟨rfl, he.mk h⟩
    · rw [if_neg hv] at h ⊢
      have hv0 : v = 0 := by have := hp (.mk v f us) (parts_self _); simp only [Tm.v] at this; omega
      subst h
      rw [if_pos ⟨hv0, rfl, by simp only [Tm.us]; rw [subL_map, List.length_map]⟩]
      exact meetL_compl us (subL σ us) b (fun x hx => hp x (by rw [parts]; exact List.mem_append_left _ hx)) he rfl
theorem meetL_compl {σ : Int → Tm} : ∀ (xs ys : List Tm) (b : Bs), (∀ x ∈ partsL xs, 0 ≤ x.v) → ExB σ b → subL σ xs = ys → (meetL xs ys b).1 = true ∧ ExB σ (meetL xs ys b).2
  | [], _, b, _, he, h => by subst h; exact ⟨rfl, he⟩
  | x :: xs, ys, b, hp, he, h => by
    rw [subL] at h
    subst h
    rw [meetL]
    obtain ⟨h1, h2⟩ := meet_compl x (sub σ x) b (fun z hz => hp z (by rw [partsL]; exact List.mem_append_left _ hz)) he rfl
    rw [if_pos h1]
    exact meetL_compl xs _ _ (fun z hz => hp z (by rw [partsL]; exact List.mem_append_right _ hz)) h2 rfl
end
def subLt (σ : Int → Tm) : Lt → Lt := mapLt (sub σ)
theorem turn_turn (l : Lt) : turnL (turnL l) = l := rfl
theorem subLt_turn (σ : Int → Tm) (l : Lt) : subLt σ (turnL l) = turnL (subLt σ l) := rfl
def InC (l : Lt) (d : List Lt) : Prop := l ∈ d ∨ turnL l ∈ d
theorem InC.turn {l : Lt} {d : List Lt} (h : InC l d) : InC (turnL l) d := h.symm
def Subs (σ : Int → Tm) (c d : List Lt) : Prop := ∀ l ∈ c, InC (subLt σ l) d
def NnC (c : List Lt) : Prop := ∀ l ∈ c, (∀ x ∈ parts l.a, 0 ≤ x.v) ∧ ∀ x ∈ parts l.b, 0 ≤ x.v
theorem tryG_sound {σ : Int → Tm} {l x : Lt} {b : Bs} (hl : (∀ x ∈ parts l.a, 0 ≤ x.v) ∧ ∀ x ∈ parts l.b, 0 ≤ x.v) (h : (tryG meet l x b).1 = true) (he : ExB σ (tryG meet l x b).2) : ExB σ b ∧ sub σ l.a = x.a ∧ sub σ l.b = x.b := by
  unfold tryG at h he
  by_cases hc : (meet l.a x.a b).1 = true
  · rw [if_pos hc] at h he
    obtain ⟨h1, h2⟩ := meet_sound l.b x.b _ hl.2 h he
    obtain ⟨h3, h4⟩ := meet_sound l.a x.a b hl.1 hc h1
    exact ⟨h3, h4, h2⟩
  · rw [if_neg hc] at h; cases h
theorem tryG_compl {σ : Int → Tm} {l x : Lt} {b : Bs} (hl : (∀ x ∈ parts l.a, 0 ≤ x.v) ∧ ∀ x ∈ parts l.b, 0 ≤ x.v) (he : ExB σ b) (h1 : sub σ l.a = x.a) (h2 : sub σ l.b = x.b) : (tryG meet l x b).1 = true ∧ ExB σ (tryG meet l x b).2 := by
  unfold tryG
  obtain ⟨h3, h4⟩ := meet_compl l.a x.a b hl.1 he h1
  rw [if_pos h3]
  exact meet_compl l.b x.b _ hl.2 h4 h2
theorem cov_sound : ∀ (c d : List Lt) (b : Bs), NnC c → covG meet c d b = true → ∃ σ, ExB σ b ∧ Subs σ c d
  | [], d, b, _, _ => ⟨sbOf b, sbOf_ext b, fun l hl => by cases hl⟩
  | l :: c, d, b, hn, h => by
    rw [covG, List.any_eq_true] at h
    obtain ⟨x, hx, h⟩ := h
    rw [Bool.and_eq_true, beq_iff_eq, Bool.or_eq_true, Bool.and_eq_true, Bool.and_eq_true] at h
    obtain ⟨hy, h⟩ := h
    have hn' : NnC c := fun z hz => hn z (by simp [hz])
    rcases h with ⟨h1, h2⟩ | ⟨h1, h2⟩
    · obtain ⟨σ, he, hs⟩ := cov_sound c d _ hn' h2
      obtain ⟨e1, e2, e3⟩ := tryG_sound (hn l (by simp)) h1 he
      refine ⟨σ, e1, fun z hz => ?_⟩
      rcases List.mem_cons.1 hz with rfl | hz
      · left
        have : subLt σ z = x := by
          obtain ⟨y, a, b'⟩ := x
          simp only [subLt, mapLt] at *
          rw [e2, e3, hy]
        rw [this]; exact hx
      · exact hs z hz
    · obtain ⟨σ, he, hs⟩ := cov_sound c d _ hn' h2
      obtain ⟨e1, e2, e3⟩ := tryG_sound (hn l (by simp)) h1 he
      refine ⟨σ, e1, fun z hz => ?_⟩
      rcases List.mem_cons.1 hz with rfl | hz
      · right
        have : turnL (subLt σ z) = x := by
          obtain ⟨y, a, b'⟩ := x
          simp only [subLt, mapLt, turnL] at *
          rw [e2, e3, hy]
        rw [this]; exact hx
      · exact hs z hz
theorem cov_compl {σ : Int → Tm} : ∀ (c d : List Lt) (b : Bs), NnC c → ExB σ b → Subs σ c d → covG meet c d b = true
  | [], _, _, _, _, _ => rfl
  | l :: c, d, b, hn, he, hs => by
    have hn' : NnC c := fun z hz => hn z (by simp [hz])
    have hs' : Subs σ c d := fun z hz => hs z (by simp [hz])
    rw [covG, List.any_eq_true]
    rcases hs l (by simp) with h | h
    · refine ⟨_, h, ?_⟩
      obtain ⟨h1, h2⟩ := tryG_compl (x := subLt σ l) (hn l (by simp)) he rfl rfl
      rw [h1, Bool.true_and, cov_compl c d _ hn' h2 hs']
      simp [subLt, mapLt]
    · refine ⟨_, h, ?_⟩
      obtain ⟨h1, h2⟩ := tryG_compl (x := turnL (turnL (subLt σ l))) (hn l (by simp)) he rfl rfl
      rw [h1, Bool.true_and, cov_compl c d _ hn' h2 hs']
      simp [subLt, mapLt, turnL]
theorem cov_iff {c d : List Lt} (hn : NnC c) : covG meet c d [] = true ↔ ∃ σ, Subs σ c d := by
  constructor
  · intro h
    obtain ⟨σ, _, hs⟩ := cov_sound c d [] hn h
    exact ⟨σ, hs⟩
  · rintro ⟨σ, hs⟩
    exact cov_compl c d [] hn (fun v u h => by cases h) hs
theorem Subs.trans {σ τ : Int → Tm} {c d e : List Lt} (h1 : Subs σ c d) (h2 : Subs τ d e) : Subs (fun v => sub τ (σ v)) c e := by
  intro l hl
  have hss : ∀ l : Lt, subLt (fun v => sub τ (σ v)) l = subLt τ (subLt σ l) := fun l => by
    simp only [subLt, mapLt, sub_sub]
  rw [hss]
  rcases h1 l hl with h | h
  · exact h2 _ h
  · have := h2 _ h
    rw [subLt_turn] at this
    exact this.turn
theorem cov_trans {c d e : List Lt} (hc : NnC c) (hd : NnC d) (h1 : covG meet c d [] = true) (h2 : covG meet d e [] = true) : covG meet c e [] = true := by
  rw [cov_iff hc] at h1 ⊢
  rw [cov_iff hd] at h2
  obtain ⟨σ, h1⟩ := h1
  obtain ⟨τ, h2⟩ := h2
  exact ⟨_, h1.trans h2⟩
theorem cov_self {c : List Lt} (hc : ∀ l ∈ c, Pure l.a ∧ Pure l.b) : covG meet c c [] = true := by
  rw [cov_iff fun l hl => ⟨(hc l hl).1.nn, (hc l hl).2.nn⟩]
  refine ⟨vt, fun l hl => .inl ?_⟩
  have : subLt vt l = l := by
    obtain ⟨y, a, b⟩ := l
    simp only [subLt, mapLt, sub_id a (hc _ hl).1, sub_id b (hc _ hl).2]
  rw [this]; exact hl
end Go.Proofs.Ytmeekpinkfpnhaa
namespace Go.Proofs.Ytmeekpinkfpnhaa
theorem v_mk (v f : Int) (us : List Tm) : (Tm.mk v f us).v = v := rfl
mutual
theorem applyR_sub (bs : Bs) : ∀ t : Tm, Pure t → applyR bs t = sub (sbOf bs) t
  | .mk v f us, h => by
    obtain ⟨h1, h2⟩ := h (.mk v f us) (parts_self _)
    simp only [Tm.v] at h1 h2
    rw [applyR, sub]
    by_cases hv : v > 0
    · rw [if_pos hv, if_pos hv]
      unfold sbOf
      cases lookB v bs with
      | some u => rfl
      | none => exact h2 hv
    · rw [if_neg hv, if_neg hv, applyRL_sub bs us fun u hu => h.kid (t := .mk v f us) hu]
      obtain rfl : v = 0 := by omega
      rfl
theorem applyRL_sub (bs : Bs) : ∀ us : List Tm, (∀ u ∈ us, Pure u) → applyRL bs us = subL (sbOf bs) us
  | [], _ => rfl
  | x :: xs, h => by rw [applyRL, subL, applyR_sub bs x (h x (by simp)), applyRL_sub bs xs fun u hu => h u (by simp [hu])]
end
theorem addV_vt (o : List Int) (v : Int) : addV o (vt v) = if v > 0 ∧ o.contains v = false then o ++ [v] else o := rfl
theorem Pure.part {t x : Tm} (h : Pure t) (hx : x ∈ parts t) : Pure x := by
  revert h hx
  refine Tm.ind (P := fun t => Pure t → x ∈ parts t → Pure x) (fun t ih h hx => ?_) t
  rw [parts_eq, List.mem_append] at hx
  rcases hx with hx | hx
  · obtain ⟨u, hu, hx⟩ := partsL_mem hx
    exact ih u hu (h.kid hu) hx
  · rw [List.mem_singleton.1 hx]; exact h
structure Rn (ρ : Int → Tm) (r : Int → Int) (V : List Int) : Prop where
  eq : ∀ v ∈ V, ρ v = vt (r v)
  pos : ∀ v ∈ V, r v > 0
  inj : ∀ v ∈ V, ∀ u ∈ V, r v = r u → v = u
def Vin (V : List Int) (t : Tm) : Prop := Pure t ∧ ∀ x ∈ parts t, x.v > 0 → x.v ∈ V
theorem Vin.kid {V : List Int} {t u : Tm} (h : Vin V t) (hu : u ∈ t.us) : Vin V u := ⟨h.1.kid hu, fun x hx => h.2 x (parts_kid hu hx)⟩
section
variable {ρ : Int → Tm} {r : Int → Int} {V : List Int} (H : Rn ρ r V)
include H
mutual
theorem rn_parts : ∀ t : Tm, Vin V t → parts (sub ρ t) = (parts t).map (sub ρ)
  | .mk v f us, h => by
    by_cases hv : v > 0
    · obtain ⟨h1, h2⟩ := h.1 (.mk v f us) (parts_self _)
      have hin := h.2 (.mk v f us) (parts_self _) hv
      have e := h2 hv
      rw [e]
      simp only [Tm.v] at hin ⊢
      rw [sub, if_pos hv, H.eq v hin]
      simp only [parts, partsL, List.nil_append, List.map_cons, List.map_nil, sub, if_pos hv, H.eq v hin]
    · rw [sub, if_neg hv, parts, parts, List.map_append, rn_partsL us fun u hu => h.kid (t := .mk v f us) hu, List.map_cons, List.map_nil, sub, if_neg hv]
theorem rn_partsL : ∀ us : List Tm, (∀ u ∈ us, Vin V u) → partsL (subL ρ us) = (partsL us).map (sub ρ)
  | [], _ => rfl
  | x :: xs, h => by rw [subL, partsL, partsL, List.map_append, rn_parts x (h x (by simp)), rn_partsL xs fun u hu => h u (by simp [hu])]
end
mutual
theorem rn_count : ∀ (t : Tm) (most : Int), Vin V t → count (sub ρ t) most = count t most
  | .mk v f us, most, h => by
    by_cases hv : v > 0
    · obtain ⟨h1, h2⟩ := h.1 (.mk v f us) (parts_self _)
      have hin := h.2 (.mk v f us) (parts_self _) hv
      have e := h2 hv
      rw [e]
      simp only [Tm.v] at hin ⊢
      rw [sub, if_pos hv, H.eq v hin]
      rfl
    · rw [sub, if_neg hv, count, count, rn_countL us 1 most fun u hu => h.kid (t := .mk v f us) hu]
theorem rn_countL : ∀ (us : List Tm) (n most : Int), (∀ u ∈ us, Vin V u) → countL (subL ρ us) n most = countL us n most
  | [], _, _, _ => rfl
  | x :: xs, n, most, h => by
    rw [subL, countL, countL, rn_count x _ (h x (by simp)), rn_countL xs _ most fun u hu => h u (by simp [hu])]
end
mutual
theorem rn_form (g : List Int) (hr : ∀ v ∈ V, r v ≤ 1000) : ∀ t : Tm, Vin V t → form g t = 0 → form g (sub ρ t) = 0
  | .mk v f us, h, hf => by
    by_cases hv : v > 0
    · have hin := h.2 (.mk v f us) (parts_self _) hv
      simp only [Tm.v] at hin
      rw [sub, if_pos hv, H.eq v hin]
      have := H.pos v hin
      have := hr v hin
      simp [form, formL, formOne]; omega
    · rw [form] at hf
      rw [sub, if_neg hv, form]
      by_cases hl : formL g us = 0
      · rw [if_neg (by simp [hl])] at hf
        rw [if_neg (by simp [rn_formL g hr us (fun u hu => h.kid (t := .mk v f us) hu) hl]), subL_map, List.length_map]
        exact hf
      · rw [if_pos hl] at hf; exact absurd hf hl
theorem rn_formL (g : List Int) (hr : ∀ v ∈ V, r v ≤ 1000) : ∀ us : List Tm, (∀ u ∈ us, Vin V u) → formL g us = 0 → formL g (subL ρ us) = 0
  | [], _, _ => rfl
  | x :: xs, h, hf => by
    rw [formL] at hf
    rw [subL, formL]
    by_cases hx : form g x = 0
    · rw [if_neg (by simp [hx])] at hf
      rw [if_neg (by simp [rn_form g hr x (h x (by simp)) hx])]
      exact rn_formL g hr xs (fun u hu => h u (by simp [hu])) hf
    · rw [if_pos hx] at hf; exact absurd hf hx
end
theorem rn_own (g : List Int) (hr : ∀ v ∈ V, r v ≤ 1000) {t : Tm} (h : Vin V t) (ho : own g t = 0) : own g (sub ρ t) = 0 := by
  obtain ⟨h1, h2⟩ := own_form ho
  unfold own
  rw [rn_count H t 120 h, if_neg (by omega)]
  exact rn_form H g hr t h h1
mutual
theorem rn_inj : ∀ (a b : Tm), Vin V a → Vin V b → sub ρ a = sub ρ b → a = b
  | .mk v f us, b, ha, hb, h => by
    by_cases hv : v > 0
    · have hin := ha.2 (.mk v f us) (parts_self _) hv
      have ea := (ha.1 (.mk v f us) (parts_self _)).2 hv
      simp only [Tm.v] at hin ea
      rw [sub, if_pos hv, H.eq v hin, sub_eq] at h
      by_cases hb2 : b.v > 0
      · have hin' := hb.2 b (parts_self _) hb2
        have eb := (hb.1 b (parts_self _)).2 hb2
        rw [if_pos hb2, H.eq _ hin'] at h
        have : v = b.v := H.inj v hin _ hin' (by injection h)
        rw [ea, eb, this]
      · rw [if_neg hb2] at h
        have := H.pos v hin
        injection h; omega
    · rw [sub, if_neg hv, sub_eq] at h
      by_cases hb2 : b.v > 0
      · have hin' := hb.2 b (parts_self _) hb2
        rw [if_pos hb2, H.eq _ hin'] at h
        have := H.pos _ hin'
        injection h; omega
      · rw [if_neg hb2] at h
        injection h with h1 h2 h3
        have := rn_injL us b.us (fun u hu => ha.kid (t := .mk v f us) hu) (fun u hu => hb.kid hu) h3
        rw [h1, h2, this, Tm.eta]
theorem rn_injL : ∀ (xs ys : List Tm), (∀ u ∈ xs, Vin V u) → (∀ u ∈ ys, Vin V u) → subL ρ xs = subL ρ ys → xs = ys
  | [], [], _, _, _ => rfl
  | [], y :: ys, _, _, h => by rw [subL, subL] at h; cases h
  | x :: xs, [], _, _, h => by rw [subL, subL] at h; cases h
  | x :: xs, y :: ys, h1, h2, h => by
    rw [subL, subL] at h
    injection h with h3 h4
    rw [rn_inj x y (h1 x (by simp)) (h2 y (by simp)) h3, rn_injL xs ys (fun u hu => h1 u (by simp [hu])) (fun u hu => h2 u (by simp [hu])) h4]
end
theorem rn_same {a b : Tm} (ha : Vin V a) (hb : Vin V b) : same (sub ρ a) (sub ρ b) = same a b := by
  rw [Bool.eq_iff_iff, same_iff, same_iff]
  exact ⟨rn_inj H a b ha hb, fun h => by rw [h]⟩
theorem rn_sides {x y : Lt} (hx : Vin V x.a ∧ Vin V x.b) (hy : Vin V y.a ∧ Vin V y.b) : sidesB (subLt ρ x) (subLt ρ y) = sidesB x y := by
  unfold sidesB
  simp only [subLt, mapLt]
  rw [rn_same H hx.1 hy.1, rn_same H hx.2 hy.2, rn_same H hx.1 hy.2, rn_same H hx.2 hy.1]
theorem rn_drop {o : List Lt} {l : Lt} (ho : ∀ x ∈ o, Vin V x.a ∧ Vin V x.b) (hl : Vin V l.a ∧ Vin V l.b) : dropB (o.map (subLt ρ)) (subLt ρ l) = dropB o l := by
  unfold dropB
  have e : same (subLt ρ l).a (subLt ρ l).b = same l.a l.b := rn_same H hl.1 hl.2
  rw [e, List.any_map]
  congr 1
  refine any_same fun x hx => ?_
  simp only [Function.comp]
  rw [rn_sides H (ho x hx) hl]
  rfl
theorem rn_keep : ∀ (c p : List Lt), (∀ x ∈ p, Vin V x.a ∧ Vin V x.b) → (∀ x ∈ c, Vin V x.a ∧ Vin V x.b) → keepR (p.map (subLt ρ)) (c.map (subLt ρ)) = (keepR p c).map (subLt ρ)
  | [], p, _, _ => rfl
  | l :: c, p, hp, hc => by
    have hl := hc l (by simp)
    have h1 := rn_keep c (p ++ [l]) (fun x hx => by
      rcases List.mem_append.1 hx with hx | hx
      · exact hp x hx
      · rw [List.mem_singleton.1 hx]; exact hl) (fun x hx => hc x (by simp [hx]))
    rw [List.map_append, List.map_cons, List.map_nil] at h1
    rw [List.map_cons, keepR, keepR, rn_drop H hp hl, h1]
    by_cases hd : dropB p l = true
    · rw [if_pos hd, if_pos hd]
    · rw [if_neg hd, if_neg hd, List.map_cons]
theorem rn_addV {o : List Int} (ho : ∀ v ∈ o, v ∈ V) {x : Tm} (hx : Pure x) (hv : x.v > 0 → x.v ∈ V) : addV (o.map r) (sub ρ x) = (addV o x).map r := by
  by_cases h : x.v > 0
  · have hin := hv h
    rw [sub_eq, if_pos h, H.eq _ hin, addV_vt]
    have hp := H.pos _ hin
    have hc : (o.map r).contains (r x.v) = o.contains x.v := by
      rw [Bool.eq_iff_iff, List.contains_iff_mem, List.contains_iff_mem, List.mem_map]
      constructor
      · rintro ⟨u, hu, e⟩; rw [← H.inj u (ho u hu) _ hin e]; exact hu
      · intro hm; exact ⟨_, hm, rfl⟩
    rw [hc]
    unfold addV
    by_cases h2 : o.contains x.v = false
    · rw [if_pos ⟨hp, h2⟩, if_pos ⟨h, h2⟩, List.map_append]; rfl
    · rw [if_neg (fun e => h2 e.2), if_neg (fun e => h2 e.2)]
  · rw [sub_eq, if_neg h]
    unfold addV
    rw [if_neg (fun e => h e.1), if_neg (fun e => h (by simpa only [v_mk] using e.1))]
theorem rn_addVs : ∀ (l : List Tm) (o : List Int), (∀ v ∈ o, v ∈ V) → (∀ x ∈ l, Pure x ∧ (x.v > 0 → x.v ∈ V)) → addVs (o.map r) (l.map (sub ρ)) = (addVs o l).map r
  | [], _, _, _ => rfl
  | x :: l, o, ho, hl => by
    obtain ⟨h1, h2⟩ := hl x (by simp)
    show addVs (addV (o.map r) (sub ρ x)) (l.map (sub ρ)) = (addVs (addV o x) l).map r
    rw [rn_addV H ho h1 h2]
    refine rn_addVs l (addV o x) (fun v hv => ?_) (fun y hy => hl y (by simp [hy]))
    rcases addV_mem hv with h | ⟨h, h3⟩
    · exact ho v h
    · rw [h]; exact h2 h3
theorem rn_firstVars (l : List Tm) (hl : ∀ t ∈ l, Vin V t) : firstVars (l.map (sub ρ)) = (firstVars l).map r := by
  unfold firstVars
  have e : (l.map (sub ρ)).flatMap parts = (l.flatMap parts).map (sub ρ) := by
    induction l with
    | nil => rfl
    | cons t l ih => rw [List.map_cons, List.flatMap_cons, List.flatMap_cons, List.map_append, rn_parts H t (hl t (by simp)), ih fun u hu => hl u (by simp [hu])]
  rw [e]
  exact rn_addVs H _ [] (fun v hv => by cases hv) fun x hx => by
    obtain ⟨t, ht, hx⟩ := List.mem_flatMap.1 hx
    exact ⟨Pure.part (hl t ht).1 hx, (hl t ht).2 x hx⟩
end
theorem look_num : ∀ (vs : List Int) (i j : Nat) (h : j < vs.length), vs.Nodup → lookB vs[j] (numBs vs i) = some (vt ((i : Int) + j + 1))
  | v :: vs, i, 0, _, _ => by simp [numBs, lookB]
  | v :: vs, i, j + 1, h, hn => by
    rw [List.nodup_cons] at hn
    have hj : j < vs.length := by simpa using h
    have hne : ¬ vs[j] = v := fun e => hn.1 (by rw [← e]; exact List.getElem_mem _)
    rw [List.getElem_cons_succ, numBs, lookB, if_neg hne, look_num vs (i + 1) j hj hn.2]
    congr 2; omega
def posV (V : List Int) (v : Int) : Int := (V.idxOf v : Int) + 1
theorem num_rn {V : List Int} (hn : V.Nodup) : Rn (sbOf (numBs V 0)) (posV V) V := by
  refine ⟨fun v hv => ?_, fun v hv => by unfold posV; omega, fun v hv u hu h => ?_⟩
  · have hi := List.idxOf_lt_length_of_mem hv
    have := look_num V 0 (V.idxOf v) hi hn
    rw [List.getElem_idxOf hi] at this
    unfold sbOf posV
    rw [this]; simp
  · have h1 := List.getElem_idxOf (List.idxOf_lt_length_of_mem hv)
    have h2 := List.getElem_idxOf (List.idxOf_lt_length_of_mem hu)
    have : V.idxOf v = V.idxOf u := by unfold posV at h; omega
    rw [← h1, ← h2]
    congr 1
theorem pos_map {V : List Int} (hn : V.Nodup) : ∀ (i : Nat) (h : i < (V.map (posV V)).length), (V.map (posV V))[i] = (i : Int) + 1 := by
  intro i h
  have hl : i < V.length := by simpa using h
  rw [List.getElem_map]
  unfold posV
  have : V.idxOf V[i] = i := by
    have h1 := List.idxOf_lt_length_of_mem (List.getElem_mem hl)
    have h2 := List.getElem_idxOf h1
    exact (List.getElem_inj hn).1 h2
  rw [this]
theorem nodup_le : ∀ (n : Nat) (l : List Int), l.Nodup → (∀ v ∈ l, 1 ≤ v ∧ v ≤ n) → l.length ≤ n
  | 0, l, _, h => by
    cases l with
    | nil => simp
    | cons v l => have := h v (by simp); omega
  | n + 1, l, hn, h => by
    have h1 := nodup_le n (l.erase ((n : Int) + 1)) (hn.erase _) fun v hv => by
      have h2 := (hn.mem_erase_iff).1 hv
      have := h v h2.2
      have := h2.1
      omega
    rw [List.length_erase] at h1
    split at h1 <;> omega
theorem numBs_ident : ∀ (V : List Int) (k : Nat), (∀ (i : Nat) (h : i < V.length), V[i] = (k : Int) + i + 1) → ∀ v u, lookB v (numBs V k) = some u → u = vt v
  | [], _, _, v, u, h => by cases h
  | x :: V, k, hV, v, u, h => by
    rw [numBs, lookB] at h
    have h0 := hV 0 (by simp)
    simp only [List.getElem_cons_zero] at h0
    by_cases hv : v = x
    · rw [if_pos hv] at h; cases h; rw [hv, h0]; simp
    · rw [if_neg hv] at h
      exact numBs_ident V (k + 1) (fun i hi => by
        have := hV (i + 1) (by simpa using hi)
        simp only [List.getElem_cons_succ] at this
        rw [this]; omega) v u h
abbrev varsC (c : List Lt) : List Int := firstVars (termsOf c)
theorem termsOf_in {c : List Lt} {l : Lt} (hl : l ∈ c) : l.a ∈ termsOf c ∧ l.b ∈ termsOf c :=
  ⟨List.mem_flatMap.2 ⟨l, hl, by simp⟩, List.mem_flatMap.2 ⟨l, hl, by simp⟩⟩
theorem firstVars_has {l : List Tm} {t x : Tm} (ht : t ∈ l) (hx : x ∈ parts t) (hv : x.v > 0) : x.v ∈ firstVars l := addVs_has (List.mem_flatMap.2 ⟨t, ht, hx⟩) hv
def PureC (c : List Lt) : Prop := ∀ l ∈ c, Pure l.a ∧ Pure l.b
theorem PureC.vin {c : List Lt} (h : PureC c) : ∀ l ∈ c, Vin (varsC c) l.a ∧ Vin (varsC c) l.b := fun l hl =>
  ⟨⟨(h l hl).1, fun _ hx hv => firstVars_has (termsOf_in hl).1 hx hv⟩, ⟨(h l hl).2, fun _ hx hv => firstVars_has (termsOf_in hl).2 hx hv⟩⟩
theorem PureC.vinT {c : List Lt} (h : PureC c) : ∀ t ∈ termsOf c, Vin (varsC c) t := fun t ht => by
  obtain ⟨l, hl, rfl | rfl⟩ := termsOf_mem ht
  · exact (h.vin l hl).1
  · exact (h.vin l hl).2
theorem varsC_nodup (c : List Lt) : (varsC c).Nodup := addVs_nodup (by simp)
theorem termsOf_map (f : Tm → Tm) (c : List Lt) : termsOf (c.map (mapLt f)) = (termsOf c).map f := by
  induction c with
  | nil => rfl
  | cons l c ih => simp only [termsOf, List.map_cons, List.flatMap_cons, List.map_append, List.map_nil] at ih ⊢; rw [ih]; rfl
theorem tidyR_sub {c : List Lt} (h : PureC c) : tidyR c = (keepR [] c).map (subLt (sbOf (numBs (varsC (keepR [] c)) 0))) := by
  unfold tidyR
  exact mapLt_same fun l hl => ⟨applyR_sub _ _ (h l (keepR_mem hl)).1, applyR_sub _ _ (h l (keepR_mem hl)).2⟩
theorem keepR_keep : ∀ (c p q : List Lt), (∀ x, dropB q x = dropB p x) → keepR q (keepR p c) = keepR p c
  | [], _, _, _ => rfl
  | l :: c, p, q, h => by
    rw [keepR]
    by_cases hd : dropB p l = true
    · rw [if_pos hd]
      exact keepR_keep c (p ++ [l]) q fun x => by rw [h x, dropB_dropped hd]
    · rw [if_neg hd, keepR, h l, if_neg hd, keepR_keep c (p ++ [l]) (q ++ [l]) fun x => by rw [dropB_snoc, dropB_snoc, h x]]
theorem keepR_twice (c : List Lt) : keepR [] (keepR [] c) = keepR [] c := keepR_keep c [] [] fun _ => rfl
theorem tidy_vars {c : List Lt} (h : PureC c) : varsC (tidyR c) = (varsC (keepR [] c)).map (posV (varsC (keepR [] c))) := by
  have hk : PureC (keepR [] c) := fun l hl => h l (keepR_mem hl)
  have H := num_rn (varsC_nodup (keepR [] c))
  rw [tidyR_sub h]
  show firstVars (termsOf (List.map (mapLt (sub _)) _)) = _
  rw [termsOf_map, rn_firstVars H _ hk.vinT]
theorem tidy_pure {c : List Lt} (h : PureC c) : PureC (tidyR c) := by
  have hk : PureC (keepR [] c) := fun l hl => h l (keepR_mem hl)
  have H := num_rn (varsC_nodup (keepR [] c))
  rw [tidyR_sub h]
  generalize sbOf (numBs (varsC (keepR [] c)) 0) = ρ at *
  intro l hl
  obtain ⟨x, hx, rfl⟩ := List.mem_map.1 hl
  have key : ∀ t, Vin (varsC (keepR [] c)) t → Pure (sub ρ t) := by
    intro t ht y hy
    rw [rn_parts H t ht] at hy
    obtain ⟨z, hz, rfl⟩ := List.mem_map.1 hy
    obtain ⟨z1, z2⟩ := ht.1 z hz
    rw [sub_eq]
    by_cases hv : z.v > 0
    · have := ht.2 z hz hv
      rw [if_pos hv, H.eq _ this]
      have := H.pos _ this
      exact ⟨by simp only [v_mk]; omega, fun _ => rfl⟩
    · rw [if_neg hv]
      exact ⟨z1, fun h => absurd h hv⟩
  exact ⟨key _ (hk.vin x hx).1, key _ (hk.vin x hx).2⟩
theorem tidy_twice {c : List Lt} (h : PureC c) : tidyR (tidyR c) = tidyR c := by
  have hk : PureC (keepR [] c) := fun l hl => h l (keepR_mem hl)
  have H := num_rn (varsC_nodup (keepR [] c))
  have e := tidyR_sub h
  have ek : keepR [] (tidyR c) = tidyR c := by
    have := rn_keep H (keepR [] c) [] (fun x hx => by cases hx) hk.vin
    rw [List.map_nil, keepR_twice, ← e] at this
    exact this
  have hp := tidy_pure h
  rw [tidyR_sub hp, ek, tidy_vars h]
  have hid : ∀ t, Pure t → sub (sbOf (numBs ((varsC (keepR [] c)).map (posV (varsC (keepR [] c)))) 0)) t = t := by
    intro t ht
    refine Eq.trans (sub_congr t fun x hx hv => ?_) (sub_id t ht)
    unfold sbOf
    cases hl : lookB x.v (numBs ((varsC (keepR [] c)).map (posV (varsC (keepR [] c)))) 0) with
    | none => rfl
    | some u =>
      have := numBs_ident _ 0 (fun i hi => by rw [pos_map (varsC_nodup _)]; omega) _ _ hl
      rw [this]; rfl
  refine Eq.trans (List.map_congr_left fun l hl => ?_) (List.map_id' _)
  obtain ⟨y, a, b⟩ := l
  simp only [subLt, mapLt]
  rw [hid a (hp _ hl).1, hid b (hp _ hl).2]
theorem sub_len : ∀ (l m : List Int), l.Nodup → (∀ v ∈ l, v ∈ m) → l.length ≤ m.length
  | [], _, _, _ => Nat.zero_le _
  | x :: l, m, hn, h => by
    rw [List.nodup_cons] at hn
    have hx := h x (by simp)
    have h1 := sub_len l (m.erase x) hn.2 fun v hv => (List.mem_erase_of_ne (fun e => hn.1 (by rw [← e]; exact hv))).2 (h v (by simp [hv]))
    rw [List.length_erase_of_mem hx] at h1
    have : 0 < m.length := List.length_pos_of_mem hx
    rw [List.length_cons]; omega
theorem vars_keep {c : List Lt} : ∀ v ∈ varsC (keepR [] c), v ∈ varsC c := fun v hv => by
  rcases addVs_mem hv with h | ⟨x, hx, rfl, h2⟩
  · cases h
  · obtain ⟨t, ht, hx⟩ := List.mem_flatMap.1 hx
    obtain ⟨l, hl, h3⟩ := termsOf_mem ht
    have hl := keepR_mem hl
    refine firstVars_has (t := t) ?_ hx h2
    rcases h3 with rfl | rfl
    · exact (termsOf_in hl).1
    · exact (termsOf_in hl).2
theorem tidy_few {c : List Lt} (h : PureC c) : (varsC (tidyR c)).length ≤ (varsC c).length := by
  rw [tidy_vars h, List.length_map]
  exact sub_len _ _ (varsC_nodup _) vars_keep
theorem tidy_own {g : List Int} {c : List Lt} (h : ∀ l ∈ c, own g l.a = 0 ∧ own g l.b = 0) (hv : ∀ v ∈ varsC (keepR [] c), 1 ≤ v ∧ v ≤ 1000) : ∀ l ∈ tidyR c, own g l.a = 0 ∧ own g l.b = 0 := by
  have hp : PureC c := fun l hl => ⟨own_pure (h l hl).1, own_pure (h l hl).2⟩
  have hk : PureC (keepR [] c) := fun l hl => hp l (keepR_mem hl)
  have H := num_rn (varsC_nodup (keepR [] c))
  have hlen := nodup_le 1000 _ (varsC_nodup (keepR [] c)) hv
  rw [tidyR_sub hp]
  intro l hl
  obtain ⟨x, hx, rfl⟩ := List.mem_map.1 hl
  have hr : ∀ v ∈ varsC (keepR [] c), posV (varsC (keepR [] c)) v ≤ 1000 := fun v hv => by
    have := List.idxOf_lt_length_of_mem hv
    unfold posV; omega
  have ho := h x (keepR_mem hx)
  exact ⟨rn_own H g hr (hk.vin x hx).1 ho.1, rn_own H g hr (hk.vin x hx).2 ho.2⟩
theorem tidyR_len (c : List Lt) : (tidyR c).length ≤ c.length := by
  unfold tidyR; rw [List.length_map]; exact keepR_len c []
end Go.Proofs.Ytmeekpinkfpnhaa
