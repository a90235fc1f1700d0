/- superposeref.CoversOf. superposeref.AlwaysOf. Models checked: superposeref.CheckModel. -/
import Derived.Test.YtmeekpinkfpnhaaB12
set_option linter.unusedSimpArgs false
set_option linter.unusedSectionVars false
set_option linter.unusedVariables false
set_option linter.unnecessarySimpa false
set_option linter.all false
namespace Go.Proofs.Ytmeekpinkfpnhaa
open Go.RowKit
set_option linter.unusedSimpArgs false
set_option linter.unusedSectionVars false

set_option maxHeartbeats 2000000 in
set_option maxRecDepth 20000 in
theorem coversOf_tri (d : List Lt) (hd : d.length ≤ 4000000) : ∀ (c : List Lt), c.length ≤ 4000000 → ∀ (b : Bs), b.length + szC c ≤ 4000000 →
    Tri Try.prog 34 [.d (bsDV b), .d (clDV c), .d (clDV d)] (pure' (bA (covG grow c d b)))
  | [], _, b, _ => by
    refine tri_enter Try.func34 rfl Try.ntmps34 (by simp only [List.length_cons, List.length_nil]; omega) fun w0 h0 k hrd hwr => ?_
    repeat' (first
      | refine awp_seq_k fun K hK => ?_
      | ((first | refine awp_region_k (by kernel_rfl) fun R hR => ?_ | refine awp_draw mixed (by kernel_rfl) (by kernel_rfl) fun R hR => ?_); simp only [go_sem])
      | ((first | (refine hR _ ?_; clear hR R) | refine awp_skip ?_ | refine awp_exit ?_ | refine awp_ret ?_); try simp only [thenA, inBlockA, reduceIte, reduceCtorEq, Nat.reduceEqDiff, if_false, if_true])
      | ((first | refine hK _ ?_ | (clear hK K; first | refine hK _ ?_ | (clear hK K; first | refine hK _ ?_ | (clear hK K; first | refine hK _ ?_ | (clear hK K; refine hK _ ?_))))); clear hK K)
      | refine awp_true rfl rfl ?_
      | refine awp_false rfl rfl ?_
      | refine awp_block ?_
      | refine And.intro (by first | omega | exact trivial | rfl | assumption | (apply map_sz; intro a; simp only [go_sem]; done) | ((and_intros <;> first | omega | exact trivial | rfl | assumption | (apply map_sz; intro a; simp only [go_sem]; done) | fail); done) | fail) ?_
      | fail)
    first | refine ret_pure (by simp only [Try.results34, resOkL, resOk, Try.ntmps34, List.toList_toArray]; first | decide | (simp only [go_sem]; done) | (simp only [go_sem]; and_intros <;> first | omega | rfl | decide)) ?_ (by repeat (first | exact Fr.rfl' _ _ | assumption | refine Fr.updk ?_ (by omega) _)) | refine ret_ro (by simp only [Try.results34, resOkL, resOk, Try.ntmps34, List.toList_toArray]; first | decide | (simp only [go_sem]; done) | (simp only [go_sem]; and_intros <;> first | omega | rfl | decide)) ?_ (by repeat (first | exact Fr.rfl' _ _ | assumption | refine Fr.updk ?_ (by omega) _))
    simp only [resA, resV, Try.results34, go_sem]
    all_goals try (first | exact Co.t2 (.dat rfl) (.dat rfl) | exact Co.t3 (.dat rfl) (.dat rfl) (.dat rfl))
    exact .dat rfl
  | l :: c, hcl, b, hsz => by
    have hszc : szC (l :: c) = (l.a.size + l.b.size) + szC c := by simp [szC]
    have ih := coversOf_tri d hd c (by simp at hcl; omega)
    obtain ⟨G, hG⟩ : ∃ G : Lt → Bool, ∀ x, G x = ((x.y == l.y) && ((tryG grow l x b).1 && covG grow c d (tryG grow l x b).2)) := ⟨_, fun _ => rfl⟩
    have hF0 : covG grow (l :: c) d b = d.any fun x => G x || G (turnL x) := by
      rw [covG]; exact any_same fun x _ => by rw [hG, hG]; show _ = ((x.y == l.y && _) || (x.y == l.y && _)); cases (x.y == l.y) <;> rfl
    refine tri_enter Try.func34 rfl Try.ntmps34 (by simp only [List.length_cons, List.length_nil]; omega) fun w0 h0 k hrd hwr => ?_
    have htk : (c.map ltDV).take c.length = c.map ltDV := List.take_of_length_le (by simp)
    have ht1 : Int.toNat 1 = 1 := rfl
    have e0 : (ltDV l :: List.map ltDV c).getD (Int.toNat 0) default = ltDV l := rfl
    repeat' (first
      | refine awp_seq_k fun K hK => ?_
      | ((first | refine awp_region_k (by kernel_rfl) fun R hR => ?_ | refine awp_draw mixed (by kernel_rfl) (by kernel_rfl) fun R hR => ?_); simp only [go_sem, e0])
      | ((first | (refine hR _ ?_; clear hR R) | refine awp_skip ?_ | refine awp_exit ?_ | refine awp_ret ?_); try simp only [thenA, inBlockA, reduceIte, reduceCtorEq, Nat.reduceEqDiff, if_false, if_true])
      | ((first | refine hK _ ?_ | (clear hK K; first | refine hK _ ?_ | (clear hK K; first | refine hK _ ?_ | (clear hK K; first | refine hK _ ?_ | (clear hK K; refine hK _ ?_))))); clear hK K)
      | refine awp_true rfl rfl ?_
      | refine awp_false rfl rfl ?_
      | refine awp_block ?_
      | refine And.intro (by first | omega | exact trivial | rfl | assumption | (apply map_sz; intro a; simp only [go_sem]; done) | ((and_intros <;> first | omega | exact trivial | rfl | assumption | (apply map_sz; intro a; simp only [go_sem]; done) | fail); done) | fail) ?_
      | fail)
    refine awp_loop (fun σ => ∃ i : Nat, σ.t 0 = .d (bsDV b) ∧ σ.t 1 = .d (clDV (l :: c)) ∧ σ.t 2 = .d (clDV d) ∧ σ.t 6 = bA false ∧ σ.t 7 = iA i ∧ Fr k h0 σ.h ∧ k < σ.k ∧ i ≤ d.length ∧ ((d.drop i).any fun x => G x || G (turnL x)) = covG grow (l :: c) d b) (fun σ => d.length - (intOf' (σ.t 7)).toNat) ?_ ?_
    · refine ⟨0, ?_⟩
      simp only [go_sem, List.drop_zero]
      and_intros; all_goals try (first | rfl | omega | assumption | ((repeat (first | exact Fr.rfl' _ _ | assumption | refine Fr.updk ?_ (by omega) _)); done))
      all_goals rw [hF0]
    · rintro σ ⟨i, s0, s1, s2, s6, s7, hF, hk, hi, hv⟩
      rcases Nat.lt_or_ge i d.length with hlt | hge
      · have hz : (i : Int) < (d.length : Int) := by omega
        have e1 : (d.map ltDV).getD i default = ltDV d[i] := nth_map ltDV hlt _
        rw [List.drop_eq_getElem_cons hlt, List.any_cons] at hv
        obtain ⟨L, hL⟩ : ∃ L, L = [d[i], turnL d[i]] := ⟨_, rfl⟩
        have hL2 : L.length = 2 := by rw [hL]; rfl
        have hLv : ((L.drop 0).any G || (d.drop (i + 1)).any fun x => G x || G (turnL x)) = covG grow (l :: c) d b := by rw [hL, ← hv]; simp
        repeat' (first
          | refine awp_seq_k fun K hK => ?_
          | ((first | refine awp_region_k (by kernel_rfl) fun R hR => ?_ | refine awp_draw mixed (by kernel_rfl) (by kernel_rfl) fun R hR => ?_); simp only [go_sem, s0, s1, s2, s6, s7, e1, hz, Int.toNat_natCast])
          | ((first | (refine hR _ ?_; clear hR R) | refine awp_skip ?_ | refine awp_exit ?_ | refine awp_ret ?_); try simp only [thenA, inBlockA, reduceIte, reduceCtorEq, Nat.reduceEqDiff, if_false, if_true])
          | ((first | refine hK _ ?_ | (clear hK K; first | refine hK _ ?_ | (clear hK K; first | refine hK _ ?_ | (clear hK K; first | refine hK _ ?_ | (clear hK K; refine hK _ ?_))))); clear hK K)
          | refine awp_true rfl rfl ?_
          | refine awp_false rfl rfl ?_
          | refine awp_block ?_
          | refine And.intro (by first | omega | exact trivial | rfl | assumption | (apply map_sz; intro a; simp only [go_sem]; done) | ((and_intros <;> first | omega | exact trivial | rfl | assumption | (apply map_sz; intro a; simp only [go_sem]; done) | fail); done) | fail) ?_
          | fail)
        refine awp_loop (fun τ => ∃ j : Nat, τ.t 0 = .d (bsDV b) ∧ τ.t 1 = .d (clDV (l :: c)) ∧ τ.t 2 = .d (clDV d) ∧ τ.t 6 = bA false ∧ τ.t 7 = iA i ∧ τ.t 8 = iA j ∧
          Fr k h0 τ.h ∧ σ.k < τ.k ∧ j ≤ 2 ∧ ((L.drop j).any G || (d.drop (i + 1)).any fun x => G x || G (turnL x)) = covG grow (l :: c) d b) (fun τ => 2 - (intOf' (τ.t 8)).toNat) ?_ ?_
        · refine ⟨0, ?_⟩
          simp only [go_sem, s0, s1, s2, s6, s7]
          and_intros; all_goals try (first | rfl | omega | assumption | ((repeat (first | exact Fr.rfl' _ _ | assumption | refine Fr.updk ?_ (by omega) _)); done))
          all_goals exact hLv
        · rintro τ ⟨j, u0, u1, u2, u6, u7, u8, uF, uk, uj, uv⟩
          rcases Nat.lt_or_ge j 2 with jlt | jge
          · have z01 : ((0 : Int) == 1) = false := rfl
            have z02 : decide ((0 : Int) < 2) = true := rfl
            have z12 : decide ((1 : Int) < 2) = true := rfl
            have z11 : ((1 : Int) == 1) = true := rfl
            obtain rfl | rfl : j = 0 ∨ j = 1 := by omega
            · have u8' : τ.t 8 = iA 0 := u8
              have hd : L.drop 0 = d[i] :: L.drop (0 + 1) := by rw [hL]; rfl
              rw [hd, List.any_cons, hG] at uv
              cases hy : (d[i].y == l.y) with
              | false =>
                have hy' : (d[i].y == l.y) = false := hy
                rw [hy', Bool.false_and, Bool.false_or] at uv
                repeat' (first
                  | refine awp_seq_k fun K hK => ?_
                  | ((first | refine awp_region_k (by kernel_rfl) fun R hR => ?_ | refine awp_draw mixed (by kernel_rfl) (by kernel_rfl) fun R hR => ?_); simp only [go_sem, u0, u1, u2, u6, u7, u8', z01, z02, z12, z11, hz, e0, e1, hy, Int.toNat_natCast])
                  | ((first | (refine hR _ ?_; clear hR R) | refine awp_skip ?_ | refine awp_exit ?_ | refine awp_ret ?_); try simp only [thenA, inBlockA, reduceIte, reduceCtorEq, Nat.reduceEqDiff, if_false, if_true])
                  | ((first | refine hK _ ?_ | (clear hK K; first | refine hK _ ?_ | (clear hK K; first | refine hK _ ?_ | (clear hK K; first | refine hK _ ?_ | (clear hK K; refine hK _ ?_))))); clear hK K)
                  | refine awp_true rfl rfl ?_
                  | refine awp_false rfl rfl ?_
                  | refine awp_block ?_
                  | ((first | refine CallK.pure (enter93) (turned_tri d[i]) ?_ ?_ | refine CallD.pure (enter93) (turned_tri d[i]) ?_ ?_); (focus first | ((repeat (first | exact trivial | refine ⟨(by first | exact Or.inl rfl | exact Or.inr rfl), ?_⟩)); done) | (simp only [coL, AV.dat, true_or, or_true, AV.d.injEq, go_sem]; done)); simp only [go_sem, u0, u1, u2, u6, u7, u8', z01, z02, z12, z11, hz, e0, e1, hy, Int.toNat_natCast])
                  | refine And.intro (by first | omega | exact trivial | rfl | assumption | (apply map_sz; intro a; simp only [go_sem]; done) | ((and_intros <;> first | omega | exact trivial | rfl | assumption | (apply map_sz; intro a; simp only [go_sem]; done) | fail); done) | fail) ?_
                  | fail)
                refine ⟨⟨0 + 1, ?_⟩, ?_⟩
                rotate_left
                · simp only [go_sem, u0, u1, u2, u6, u7, u8']; omega
                simp only [go_sem, u0, u1, u2, u6, u7, u8']
                and_intros; all_goals try (first | rfl | omega | assumption | ((repeat (first | exact Fr.rfl' _ _ | assumption | refine Fr.updk ?_ (by omega) _)); done))
              | true =>
                have hy' : (d[i].y == l.y) = true := hy
                rw [hy', Bool.true_and] at uv
                have m1 := grow_tri l.a d[i].a b (by omega)
                have gl := grow_len l.a d[i].a b
                cases h3 : (grow l.a d[i].a b).1 with
                | false =>
                  rw [h3] at m1
                  have hG0 : tryG grow l d[i] b = (false, (grow l.a d[i].a b).2) := by
                    unfold tryG
                    show (if (grow l.a d[i].a b).1 = true then _ else (false, (grow l.a d[i].a b).2)) = _
                    rw [h3]; rfl
                  rw [hG0, Bool.false_and, Bool.false_or] at uv
                  repeat' (first
                    | refine awp_seq_k fun K hK => ?_
                    | ((first | refine awp_region_k (by kernel_rfl) fun R hR => ?_ | refine awp_draw mixed (by kernel_rfl) (by kernel_rfl) fun R hR => ?_); simp only [go_sem, u0, u1, u2, u6, u7, u8', z01, z02, z12, z11, hz, e0, e1, hy, htk, ht1, Int.toNat_natCast])
                    | ((first | (refine hR _ ?_; clear hR R) | refine awp_skip ?_ | refine awp_exit ?_ | refine awp_ret ?_); try simp only [thenA, inBlockA, reduceIte, reduceCtorEq, Nat.reduceEqDiff, if_false, if_true])
                    | ((first | refine hK _ ?_ | (clear hK K; first | refine hK _ ?_ | (clear hK K; first | refine hK _ ?_ | (clear hK K; first | refine hK _ ?_ | (clear hK K; refine hK _ ?_))))); clear hK K)
                    | refine awp_true rfl rfl ?_
                    | refine awp_false rfl rfl ?_
                    | refine awp_block ?_
                    | ((first | refine CallK.pure (enter93) (turned_tri d[i]) ?_ ?_ | refine CallD.pure (enter93) (turned_tri d[i]) ?_ ?_); (focus first | ((repeat (first | exact trivial | refine ⟨(by first | exact Or.inl rfl | exact Or.inr rfl), ?_⟩)); done) | (simp only [coL, AV.dat, true_or, or_true, AV.d.injEq, go_sem]; done)); simp only [go_sem, u0, u1, u2, u6, u7, u8', z01, z02, z12, z11, hz, e0, e1, hy, htk, ht1, Int.toNat_natCast])
                    | ((first | refine CallK.pure (enter94) (m1) ?_ ?_ | refine CallD.pure (enter94) (m1) ?_ ?_); (focus first | ((repeat (first | exact trivial | refine ⟨(by first | exact Or.inl rfl | exact Or.inr rfl), ?_⟩)); done) | (simp only [coL, AV.dat, true_or, or_true, AV.d.injEq, go_sem]; done)); simp only [go_sem, u0, u1, u2, u6, u7, u8', z01, z02, z12, z11, hz, e0, e1, hy, htk, ht1, Int.toNat_natCast])
                    | refine And.intro (by first | omega | exact trivial | rfl | assumption | (apply map_sz; intro a; simp only [go_sem]; done) | ((and_intros <;> first | omega | exact trivial | rfl | assumption | (apply map_sz; intro a; simp only [go_sem]; done) | fail); done) | fail) ?_
                    | fail)
                  refine ⟨⟨0 + 1, ?_⟩, ?_⟩
                  rotate_left
                  · simp only [go_sem, u0, u1, u2, u6, u7, u8']; omega
                  simp only [go_sem, u0, u1, u2, u6, u7, u8']
                  and_intros; all_goals try (first | rfl | omega | assumption | ((repeat (first | exact Fr.rfl' _ _ | assumption | refine Fr.updk ?_ (by omega) _)); done))
                | true =>
                  rw [h3] at m1
                  have hG0 : tryG grow l d[i] b = grow l.b d[i].b (grow l.a d[i].a b).2 := by
                    unfold tryG
                    show (if (grow l.a d[i].a b).1 = true then grow l.b d[i].b (grow l.a d[i].a b).2 else _) = _
                    rw [h3]; rfl
                  rw [hG0] at uv
                  generalize (grow l.a d[i].a b).2 = b1 at m1 uv hG0 gl
                  have m2 := grow_tri l.b d[i].b b1 (by omega)
                  have gl2 := grow_len l.b d[i].b b1
                  cases h4 : (grow l.b d[i].b b1).1 with
                  | false =>
                    rw [h4] at m2
                    rw [h4, Bool.false_and, Bool.false_or] at uv
                    repeat' (first
                      | refine awp_seq_k fun K hK => ?_
                      | ((first | refine awp_region_k (by kernel_rfl) fun R hR => ?_ | refine awp_draw mixed (by kernel_rfl) (by kernel_rfl) fun R hR => ?_); simp only [go_sem, u0, u1, u2, u6, u7, u8', z01, z02, z12, z11, hz, e0, e1, hy, htk, ht1, Int.toNat_natCast])
                      | ((first | (refine hR _ ?_; clear hR R) | refine awp_skip ?_ | refine awp_exit ?_ | refine awp_ret ?_); try simp only [thenA, inBlockA, reduceIte, reduceCtorEq, Nat.reduceEqDiff, if_false, if_true])
                      | ((first | refine hK _ ?_ | (clear hK K; first | refine hK _ ?_ | (clear hK K; first | refine hK _ ?_ | (clear hK K; first | refine hK _ ?_ | (clear hK K; refine hK _ ?_))))); clear hK K)
                      | refine awp_true rfl rfl ?_
                      | refine awp_false rfl rfl ?_
                      | refine awp_block ?_
                      | ((first | refine CallK.pure (enter93) (turned_tri d[i]) ?_ ?_ | refine CallD.pure (enter93) (turned_tri d[i]) ?_ ?_); (focus first | ((repeat (first | exact trivial | refine ⟨(by first | exact Or.inl rfl | exact Or.inr rfl), ?_⟩)); done) | (simp only [coL, AV.dat, true_or, or_true, AV.d.injEq, go_sem]; done)); simp only [go_sem, u0, u1, u2, u6, u7, u8', z01, z02, z12, z11, hz, e0, e1, hy, htk, ht1, Int.toNat_natCast])
                      | ((first | refine CallK.pure (enter94) (m1) ?_ ?_ | refine CallD.pure (enter94) (m1) ?_ ?_); (focus first | ((repeat (first | exact trivial | refine ⟨(by first | exact Or.inl rfl | exact Or.inr rfl), ?_⟩)); done) | (simp only [coL, AV.dat, true_or, or_true, AV.d.injEq, go_sem]; done)); simp only [go_sem, u0, u1, u2, u6, u7, u8', z01, z02, z12, z11, hz, e0, e1, hy, htk, ht1, Int.toNat_natCast])
                      | ((first | refine CallK.pure (enter94) (m2) ?_ ?_ | refine CallD.pure (enter94) (m2) ?_ ?_); (focus first | ((repeat (first | exact trivial | refine ⟨(by first | exact Or.inl rfl | exact Or.inr rfl), ?_⟩)); done) | (simp only [coL, AV.dat, true_or, or_true, AV.d.injEq, go_sem]; done)); simp only [go_sem, u0, u1, u2, u6, u7, u8', z01, z02, z12, z11, hz, e0, e1, hy, htk, ht1, Int.toNat_natCast])
                      | refine And.intro (by first | omega | exact trivial | rfl | assumption | (apply map_sz; intro a; simp only [go_sem]; done) | ((and_intros <;> first | omega | exact trivial | rfl | assumption | (apply map_sz; intro a; simp only [go_sem]; done) | fail); done) | fail) ?_
                      | fail)
                    refine ⟨⟨0 + 1, ?_⟩, ?_⟩
                    rotate_left
                    · simp only [go_sem, u0, u1, u2, u6, u7, u8']; omega
                    simp only [go_sem, u0, u1, u2, u6, u7, u8']
                    and_intros; all_goals try (first | rfl | omega | assumption | ((repeat (first | exact Fr.rfl' _ _ | assumption | refine Fr.updk ?_ (by omega) _)); done))
                  | true =>
                    rw [h4] at m2
                    rw [h4, Bool.true_and] at uv
                    generalize (grow l.b d[i].b b1).2 = b2 at m2 uv hG0 gl2
                    have m3 := ih b2 (by omega)
                    cases h5 : covG grow c d b2 with
                    | false =>
                      rw [h5] at m3
                      rw [h5, Bool.false_or] at uv
                      repeat' (first
                        | (refine And.intro ⟨fun a e => (by subst e; rfl), by omega, by omega, by omega, map_sz (by intro a; simp only [go_sem])⟩ ?_)
                        | refine awp_seq_k fun K hK => ?_
                        | ((first | refine awp_region_k (by kernel_rfl) fun R hR => ?_ | refine awp_draw mixed (by kernel_rfl) (by kernel_rfl) fun R hR => ?_); simp only [go_sem, u0, u1, u2, u6, u7, u8', z01, z02, z12, z11, hz, e0, e1, hy, htk, ht1, Int.toNat_natCast])
                        | ((first | (refine hR _ ?_; clear hR R) | refine awp_skip ?_ | refine awp_exit ?_ | refine awp_ret ?_); try simp only [thenA, inBlockA, reduceIte, reduceCtorEq, Nat.reduceEqDiff, if_false, if_true])
                        | ((first | refine hK _ ?_ | (clear hK K; first | refine hK _ ?_ | (clear hK K; first | refine hK _ ?_ | (clear hK K; first | refine hK _ ?_ | (clear hK K; refine hK _ ?_))))); clear hK K)
                        | refine awp_true rfl rfl ?_
                        | refine awp_false rfl rfl ?_
                        | refine awp_block ?_
                        | ((first | refine CallK.pure (enter93) (turned_tri d[i]) ?_ ?_ | refine CallD.pure (enter93) (turned_tri d[i]) ?_ ?_); (focus first | ((repeat (first | exact trivial | refine ⟨(by first | exact Or.inl rfl | exact Or.inr rfl), ?_⟩)); done) | (simp only [coL, AV.dat, true_or, or_true, AV.d.injEq, go_sem]; done)); simp only [go_sem, u0, u1, u2, u6, u7, u8', z01, z02, z12, z11, hz, e0, e1, hy, htk, ht1, Int.toNat_natCast])
                        | ((first | refine CallK.pure (enter94) (m1) ?_ ?_ | refine CallD.pure (enter94) (m1) ?_ ?_); (focus first | ((repeat (first | exact trivial | refine ⟨(by first | exact Or.inl rfl | exact Or.inr rfl), ?_⟩)); done) | (simp only [coL, AV.dat, true_or, or_true, AV.d.injEq, go_sem]; done)); simp only [go_sem, u0, u1, u2, u6, u7, u8', z01, z02, z12, z11, hz, e0, e1, hy, htk, ht1, Int.toNat_natCast])
                        | ((first | refine CallK.pure (enter94) (m2) ?_ ?_ | refine CallD.pure (enter94) (m2) ?_ ?_); (focus first | ((repeat (first | exact trivial | refine ⟨(by first | exact Or.inl rfl | exact Or.inr rfl), ?_⟩)); done) | (simp only [coL, AV.dat, true_or, or_true, AV.d.injEq, go_sem]; done)); simp only [go_sem, u0, u1, u2, u6, u7, u8', z01, z02, z12, z11, hz, e0, e1, hy, htk, ht1, Int.toNat_natCast])
                        | ((first | refine CallK.pure (enter34) (m3) ?_ ?_ | refine CallD.pure (enter34) (m3) ?_ ?_); (focus first | ((repeat (first | exact trivial | refine ⟨(by first | exact Or.inl rfl | exact Or.inr rfl), ?_⟩)); done) | (simp only [coL, AV.dat, true_or, or_true, AV.d.injEq, go_sem]; done)); simp only [go_sem, u0, u1, u2, u6, u7, u8', z01, z02, z12, z11, hz, e0, e1, hy, htk, ht1, Int.toNat_natCast])
                        | refine And.intro (by first | omega | exact trivial | rfl | assumption | (apply map_sz; intro a; simp only [go_sem]; done) | ((and_intros <;> first | omega | exact trivial | rfl | assumption | (apply map_sz; intro a; simp only [go_sem]; done) | fail); done) | fail) ?_
                        | fail)
                      refine ⟨⟨0 + 1, ?_⟩, ?_⟩
                      rotate_left
                      · simp only [go_sem, u0, u1, u2, u6, u7, u8']; omega
                      simp only [go_sem, u0, u1, u2, u6, u7, u8']
                      and_intros; all_goals try (first | rfl | omega | assumption | ((repeat (first | exact Fr.rfl' _ _ | assumption | refine Fr.updk ?_ (by omega) _)); done))
                    | true =>
                      rw [h5] at m3
                      rw [h5, Bool.true_or] at uv
                      repeat' (first
                        | (refine And.intro ⟨fun a e => (by subst e; rfl), by omega, by omega, by omega, map_sz (by intro a; simp only [go_sem])⟩ ?_)
                        | refine awp_seq_k fun K hK => ?_
                        | ((first | refine awp_region_k (by kernel_rfl) fun R hR => ?_ | refine awp_draw mixed (by kernel_rfl) (by kernel_rfl) fun R hR => ?_); simp only [go_sem, u0, u1, u2, u6, u7, u8', z01, z02, z12, z11, hz, e0, e1, hy, htk, ht1, Int.toNat_natCast])
                        | ((first | (refine hR _ ?_; clear hR R) | refine awp_skip ?_ | refine awp_exit ?_ | refine awp_ret ?_); try simp only [thenA, inBlockA, reduceIte, reduceCtorEq, Nat.reduceEqDiff, if_false, if_true])
                        | ((first | refine hK _ ?_ | (clear hK K; first | refine hK _ ?_ | (clear hK K; first | refine hK _ ?_ | (clear hK K; first | refine hK _ ?_ | (clear hK K; refine hK _ ?_))))); clear hK K)
                        | refine awp_true rfl rfl ?_
                        | refine awp_false rfl rfl ?_
                        | refine awp_block ?_
                        | ((first | refine CallK.pure (enter93) (turned_tri d[i]) ?_ ?_ | refine CallD.pure (enter93) (turned_tri d[i]) ?_ ?_); (focus first | ((repeat (first | exact trivial | refine ⟨(by first | exact Or.inl rfl | exact Or.inr rfl), ?_⟩)); done) | (simp only [coL, AV.dat, true_or, or_true, AV.d.injEq, go_sem]; done)); simp only [go_sem, u0, u1, u2, u6, u7, u8', z01, z02, z12, z11, hz, e0, e1, hy, htk, ht1, Int.toNat_natCast])
                        | ((first | refine CallK.pure (enter94) (m1) ?_ ?_ | refine CallD.pure (enter94) (m1) ?_ ?_); (focus first | ((repeat (first | exact trivial | refine ⟨(by first | exact Or.inl rfl | exact Or.inr rfl), ?_⟩)); done) | (simp only [coL, AV.dat, true_or, or_true, AV.d.injEq, go_sem]; done)); simp only [go_sem, u0, u1, u2, u6, u7, u8', z01, z02, z12, z11, hz, e0, e1, hy, htk, ht1, Int.toNat_natCast])
                        | ((first | refine CallK.pure (enter94) (m2) ?_ ?_ | refine CallD.pure (enter94) (m2) ?_ ?_); (focus first | ((repeat (first | exact trivial | refine ⟨(by first | exact Or.inl rfl | exact Or.inr rfl), ?_⟩)); done) | (simp only [coL, AV.dat, true_or, or_true, AV.d.injEq, go_sem]; done)); simp only [go_sem, u0, u1, u2, u6, u7, u8', z01, z02, z12, z11, hz, e0, e1, hy, htk, ht1, Int.toNat_natCast])
                        | ((first | refine CallK.pure (enter34) (m3) ?_ ?_ | refine CallD.pure (enter34) (m3) ?_ ?_); (focus first | ((repeat (first | exact trivial | refine ⟨(by first | exact Or.inl rfl | exact Or.inr rfl), ?_⟩)); done) | (simp only [coL, AV.dat, true_or, or_true, AV.d.injEq, go_sem]; done)); simp only [go_sem, u0, u1, u2, u6, u7, u8', z01, z02, z12, z11, hz, e0, e1, hy, htk, ht1, Int.toNat_natCast])
                        | refine And.intro (by first | omega | exact trivial | rfl | assumption | (apply map_sz; intro a; simp only [go_sem]; done) | ((and_intros <;> first | omega | exact trivial | rfl | assumption | (apply map_sz; intro a; simp only [go_sem]; done) | fail); done) | fail) ?_
                        | fail)
                      first | refine ret_pure (by simp only [Try.results34, resOkL, resOk, Try.ntmps34, List.toList_toArray]; first | decide | (simp only [go_sem, u6]; done) | (simp only [go_sem, u6]; and_intros <;> first | omega | rfl | decide)) ?_ (by repeat (first | exact Fr.rfl' _ _ | assumption | refine Fr.updk ?_ (by omega) _)) | refine ret_ro (by simp only [Try.results34, resOkL, resOk, Try.ntmps34, List.toList_toArray]; first | decide | (simp only [go_sem, u6]; done) | (simp only [go_sem, u6]; and_intros <;> first | omega | rfl | decide)) ?_ (by repeat (first | exact Fr.rfl' _ _ | assumption | refine Fr.updk ?_ (by omega) _))
                      simp only [resA, resV, Try.results34, go_sem, u6]
                      all_goals try (first | exact Co.t2 (.dat rfl) (.dat rfl) | exact Co.t3 (.dat rfl) (.dat rfl) (.dat rfl))
                      exact co_b uv
            · have u8' : τ.t 8 = iA 1 := u8
              have hd : L.drop 1 = (turnL d[i]) :: L.drop (1 + 1) := by rw [hL]; rfl
              rw [hd, List.any_cons, hG] at uv
              cases hy : (d[i].y == l.y) with
              | false =>
                have hy' : ((turnL d[i]).y == l.y) = false := hy
                rw [hy', Bool.false_and, Bool.false_or] at uv
                repeat' (first
                  | refine awp_seq_k fun K hK => ?_
                  | ((first | refine awp_region_k (by kernel_rfl) fun R hR => ?_ | refine awp_draw mixed (by kernel_rfl) (by kernel_rfl) fun R hR => ?_); simp only [go_sem, u0, u1, u2, u6, u7, u8', z01, z02, z12, z11, hz, e0, e1, hy, Int.toNat_natCast])
                  | ((first | (refine hR _ ?_; clear hR R) | refine awp_skip ?_ | refine awp_exit ?_ | refine awp_ret ?_); try simp only [thenA, inBlockA, reduceIte, reduceCtorEq, Nat.reduceEqDiff, if_false, if_true])
                  | ((first | refine hK _ ?_ | (clear hK K; first | refine hK _ ?_ | (clear hK K; first | refine hK _ ?_ | (clear hK K; first | refine hK _ ?_ | (clear hK K; refine hK _ ?_))))); clear hK K)
                  | refine awp_true rfl rfl ?_
                  | refine awp_false rfl rfl ?_
                  | refine awp_block ?_
                  | ((first | refine CallK.pure (enter93) (turned_tri d[i]) ?_ ?_ | refine CallD.pure (enter93) (turned_tri d[i]) ?_ ?_); (focus first | ((repeat (first | exact trivial | refine ⟨(by first | exact Or.inl rfl | exact Or.inr rfl), ?_⟩)); done) | (simp only [coL, AV.dat, true_or, or_true, AV.d.injEq, go_sem]; done)); simp only [go_sem, u0, u1, u2, u6, u7, u8', z01, z02, z12, z11, hz, e0, e1, hy, Int.toNat_natCast])
                  | refine And.intro (by first | omega | exact trivial | rfl | assumption | (apply map_sz; intro a; simp only [go_sem]; done) | ((and_intros <;> first | omega | exact trivial | rfl | assumption | (apply map_sz; intro a; simp only [go_sem]; done) | fail); done) | fail) ?_
                  | fail)
                refine ⟨⟨1 + 1, ?_⟩, ?_⟩
                rotate_left
                · simp only [go_sem, u0, u1, u2, u6, u7, u8']; omega
                simp only [go_sem, u0, u1, u2, u6, u7, u8']
                and_intros; all_goals try (first | rfl | omega | assumption | ((repeat (first | exact Fr.rfl' _ _ | assumption | refine Fr.updk ?_ (by omega) _)); done))
              | true =>
                have hy' : ((turnL d[i]).y == l.y) = true := hy
                rw [hy', Bool.true_and] at uv
                have m1 := grow_tri l.a d[i].b b (by omega)
                have gl := grow_len l.a d[i].b b
                cases h3 : (grow l.a d[i].b b).1 with
                | false =>
                  rw [h3] at m1
                  have hG0 : tryG grow l (turnL d[i]) b = (false, (grow l.a d[i].b b).2) := by
                    unfold tryG
                    show (if (grow l.a d[i].b b).1 = true then _ else (false, (grow l.a d[i].b b).2)) = _
                    rw [h3]; rfl
                  rw [hG0, Bool.false_and, Bool.false_or] at uv
                  repeat' (first
                    | refine awp_seq_k fun K hK => ?_
                    | ((first | refine awp_region_k (by kernel_rfl) fun R hR => ?_ | refine awp_draw mixed (by kernel_rfl) (by kernel_rfl) fun R hR => ?_); simp only [go_sem, u0, u1, u2, u6, u7, u8', z01, z02, z12, z11, hz, e0, e1, hy, htk, ht1, Int.toNat_natCast])
                    | ((first | (refine hR _ ?_; clear hR R) | refine awp_skip ?_ | refine awp_exit ?_ | refine awp_ret ?_); try simp only [thenA, inBlockA, reduceIte, reduceCtorEq, Nat.reduceEqDiff, if_false, if_true])
                    | ((first | refine hK _ ?_ | (clear hK K; first | refine hK _ ?_ | (clear hK K; first | refine hK _ ?_ | (clear hK K; first | refine hK _ ?_ | (clear hK K; refine hK _ ?_))))); clear hK K)
                    | refine awp_true rfl rfl ?_
                    | refine awp_false rfl rfl ?_
                    | refine awp_block ?_
                    | ((first | refine CallK.pure (enter93) (turned_tri d[i]) ?_ ?_ | refine CallD.pure (enter93) (turned_tri d[i]) ?_ ?_); (focus first | ((repeat (first | exact trivial | refine ⟨(by first | exact Or.inl rfl | exact Or.inr rfl), ?_⟩)); done) | (simp only [coL, AV.dat, true_or, or_true, AV.d.injEq, go_sem]; done)); simp only [go_sem, u0, u1, u2, u6, u7, u8', z01, z02, z12, z11, hz, e0, e1, hy, htk, ht1, Int.toNat_natCast])
                    | ((first | refine CallK.pure (enter94) (m1) ?_ ?_ | refine CallD.pure (enter94) (m1) ?_ ?_); (focus first | ((repeat (first | exact trivial | refine ⟨(by first | exact Or.inl rfl | exact Or.inr rfl), ?_⟩)); done) | (simp only [coL, AV.dat, true_or, or_true, AV.d.injEq, go_sem]; done)); simp only [go_sem, u0, u1, u2, u6, u7, u8', z01, z02, z12, z11, hz, e0, e1, hy, htk, ht1, Int.toNat_natCast])
                    | refine And.intro (by first | omega | exact trivial | rfl | assumption | (apply map_sz; intro a; simp only [go_sem]; done) | ((and_intros <;> first | omega | exact trivial | rfl | assumption | (apply map_sz; intro a; simp only [go_sem]; done) | fail); done) | fail) ?_
                    | fail)
                  refine ⟨⟨1 + 1, ?_⟩, ?_⟩
                  rotate_left
                  · simp only [go_sem, u0, u1, u2, u6, u7, u8']; omega
                  simp only [go_sem, u0, u1, u2, u6, u7, u8']
                  and_intros; all_goals try (first | rfl | omega | assumption | ((repeat (first | exact Fr.rfl' _ _ | assumption | refine Fr.updk ?_ (by omega) _)); done))
                | true =>
                  rw [h3] at m1
                  have hG0 : tryG grow l (turnL d[i]) b = grow l.b d[i].a (grow l.a d[i].b b).2 := by
                    unfold tryG
                    show (if (grow l.a d[i].b b).1 = true then grow l.b d[i].a (grow l.a d[i].b b).2 else _) = _
                    rw [h3]; rfl
                  rw [hG0] at uv
                  generalize (grow l.a d[i].b b).2 = b1 at m1 uv hG0 gl
                  have m2 := grow_tri l.b d[i].a b1 (by omega)
                  have gl2 := grow_len l.b d[i].a b1
                  cases h4 : (grow l.b d[i].a b1).1 with
                  | false =>
                    rw [h4] at m2
                    rw [h4, Bool.false_and, Bool.false_or] at uv
                    repeat' (first
                      | refine awp_seq_k fun K hK => ?_
                      | ((first | refine awp_region_k (by kernel_rfl) fun R hR => ?_ | refine awp_draw mixed (by kernel_rfl) (by kernel_rfl) fun R hR => ?_); simp only [go_sem, u0, u1, u2, u6, u7, u8', z01, z02, z12, z11, hz, e0, e1, hy, htk, ht1, Int.toNat_natCast])
                      | ((first | (refine hR _ ?_; clear hR R) | refine awp_skip ?_ | refine awp_exit ?_ | refine awp_ret ?_); try simp only [thenA, inBlockA, reduceIte, reduceCtorEq, Nat.reduceEqDiff, if_false, if_true])
                      | ((first | refine hK _ ?_ | (clear hK K; first | refine hK _ ?_ | (clear hK K; first | refine hK _ ?_ | (clear hK K; first | refine hK _ ?_ | (clear hK K; refine hK _ ?_))))); clear hK K)
                      | refine awp_true rfl rfl ?_
                      | refine awp_false rfl rfl ?_
                      | refine awp_block ?_
                      | ((first | refine CallK.pure (enter93) (turned_tri d[i]) ?_ ?_ | refine CallD.pure (enter93) (turned_tri d[i]) ?_ ?_); (focus first | ((repeat (first | exact trivial | refine ⟨(by first | exact Or.inl rfl | exact Or.inr rfl), ?_⟩)); done) | (simp only [coL, AV.dat, true_or, or_true, AV.d.injEq, go_sem]; done)); simp only [go_sem, u0, u1, u2, u6, u7, u8', z01, z02, z12, z11, hz, e0, e1, hy, htk, ht1, Int.toNat_natCast])
                      | ((first | refine CallK.pure (enter94) (m1) ?_ ?_ | refine CallD.pure (enter94) (m1) ?_ ?_); (focus first | ((repeat (first | exact trivial | refine ⟨(by first | exact Or.inl rfl | exact Or.inr rfl), ?_⟩)); done) | (simp only [coL, AV.dat, true_or, or_true, AV.d.injEq, go_sem]; done)); simp only [go_sem, u0, u1, u2, u6, u7, u8', z01, z02, z12, z11, hz, e0, e1, hy, htk, ht1, Int.toNat_natCast])
                      | ((first | refine CallK.pure (enter94) (m2) ?_ ?_ | refine CallD.pure (enter94) (m2) ?_ ?_); (focus first | ((repeat (first | exact trivial | refine ⟨(by first | exact Or.inl rfl | exact Or.inr rfl), ?_⟩)); done) | (simp only [coL, AV.dat, true_or, or_true, AV.d.injEq, go_sem]; done)); simp only [go_sem, u0, u1, u2, u6, u7, u8', z01, z02, z12, z11, hz, e0, e1, hy, htk, ht1, Int.toNat_natCast])
                      | refine And.intro (by first | omega | exact trivial | rfl | assumption | (apply map_sz; intro a; simp only [go_sem]; done) | ((and_intros <;> first | omega | exact trivial | rfl | assumption | (apply map_sz; intro a; simp only [go_sem]; done) | fail); done) | fail) ?_
                      | fail)
                    refine ⟨⟨1 + 1, ?_⟩, ?_⟩
                    rotate_left
                    · simp only [go_sem, u0, u1, u2, u6, u7, u8']; omega
                    simp only [go_sem, u0, u1, u2, u6, u7, u8']
                    and_intros; all_goals try (first | rfl | omega | assumption | ((repeat (first | exact Fr.rfl' _ _ | assumption | refine Fr.updk ?_ (by omega) _)); done))
                  | true =>
                    rw [h4] at m2
                    rw [h4, Bool.true_and] at uv
                    generalize (grow l.b d[i].a b1).2 = b2 at m2 uv hG0 gl2
                    have m3 := ih b2 (by omega)
                    cases h5 : covG grow c d b2 with
                    | false =>
                      rw [h5] at m3
                      rw [h5, Bool.false_or] at uv
                      repeat' (first
                        | (refine And.intro ⟨fun a e => (by subst e; rfl), by omega, by omega, by omega, map_sz (by intro a; simp only [go_sem])⟩ ?_)
                        | refine awp_seq_k fun K hK => ?_
                        | ((first | refine awp_region_k (by kernel_rfl) fun R hR => ?_ | refine awp_draw mixed (by kernel_rfl) (by kernel_rfl) fun R hR => ?_); simp only [go_sem, u0, u1, u2, u6, u7, u8', z01, z02, z12, z11, hz, e0, e1, hy, htk, ht1, Int.toNat_natCast])
                        | ((first | (refine hR _ ?_; clear hR R) | refine awp_skip ?_ | refine awp_exit ?_ | refine awp_ret ?_); try simp only [thenA, inBlockA, reduceIte, reduceCtorEq, Nat.reduceEqDiff, if_false, if_true])
                        | ((first | refine hK _ ?_ | (clear hK K; first | refine hK _ ?_ | (clear hK K; first | refine hK _ ?_ | (clear hK K; first | refine hK _ ?_ | (clear hK K; refine hK _ ?_))))); clear hK K)
                        | refine awp_true rfl rfl ?_
                        | refine awp_false rfl rfl ?_
                        | refine awp_block ?_
                        | ((first | refine CallK.pure (enter93) (turned_tri d[i]) ?_ ?_ | refine CallD.pure (enter93) (turned_tri d[i]) ?_ ?_); (focus first | ((repeat (first | exact trivial | refine ⟨(by first | exact Or.inl rfl | exact Or.inr rfl), ?_⟩)); done) | (simp only [coL, AV.dat, true_or, or_true, AV.d.injEq, go_sem]; done)); simp only [go_sem, u0, u1, u2, u6, u7, u8', z01, z02, z12, z11, hz, e0, e1, hy, htk, ht1, Int.toNat_natCast])
                        | ((first | refine CallK.pure (enter94) (m1) ?_ ?_ | refine CallD.pure (enter94) (m1) ?_ ?_); (focus first | ((repeat (first | exact trivial | refine ⟨(by first | exact Or.inl rfl | exact Or.inr rfl), ?_⟩)); done) | (simp only [coL, AV.dat, true_or, or_true, AV.d.injEq, go_sem]; done)); simp only [go_sem, u0, u1, u2, u6, u7, u8', z01, z02, z12, z11, hz, e0, e1, hy, htk, ht1, Int.toNat_natCast])
                        | ((first | refine CallK.pure (enter94) (m2) ?_ ?_ | refine CallD.pure (enter94) (m2) ?_ ?_); (focus first | ((repeat (first | exact trivial | refine ⟨(by first | exact Or.inl rfl | exact Or.inr rfl), ?_⟩)); done) | (simp only [coL, AV.dat, true_or, or_true, AV.d.injEq, go_sem]; done)); simp only [go_sem, u0, u1, u2, u6, u7, u8', z01, z02, z12, z11, hz, e0, e1, hy, htk, ht1, Int.toNat_natCast])
                        | ((first | refine CallK.pure (enter34) (m3) ?_ ?_ | refine CallD.pure (enter34) (m3) ?_ ?_); (focus first | ((repeat (first | exact trivial | refine ⟨(by first | exact Or.inl rfl | exact Or.inr rfl), ?_⟩)); done) | (simp only [coL, AV.dat, true_or, or_true, AV.d.injEq, go_sem]; done)); simp only [go_sem, u0, u1, u2, u6, u7, u8', z01, z02, z12, z11, hz, e0, e1, hy, htk, ht1, Int.toNat_natCast])
                        | refine And.intro (by first | omega | exact trivial | rfl | assumption | (apply map_sz; intro a; simp only [go_sem]; done) | ((and_intros <;> first | omega | exact trivial | rfl | assumption | (apply map_sz; intro a; simp only [go_sem]; done) | fail); done) | fail) ?_
                        | fail)
                      refine ⟨⟨1 + 1, ?_⟩, ?_⟩
                      rotate_left
                      · simp only [go_sem, u0, u1, u2, u6, u7, u8']; omega
                      simp only [go_sem, u0, u1, u2, u6, u7, u8']
                      and_intros; all_goals try (first | rfl | omega | assumption | ((repeat (first | exact Fr.rfl' _ _ | assumption | refine Fr.updk ?_ (by omega) _)); done))
                    | true =>
                      rw [h5] at m3
                      rw [h5, Bool.true_or] at uv
                      repeat' (first
                        | (refine And.intro ⟨fun a e => (by subst e; rfl), by omega, by omega, by omega, map_sz (by intro a; simp only [go_sem])⟩ ?_)
                        | refine awp_seq_k fun K hK => ?_
                        | ((first | refine awp_region_k (by kernel_rfl) fun R hR => ?_ | refine awp_draw mixed (by kernel_rfl) (by kernel_rfl) fun R hR => ?_); simp only [go_sem, u0, u1, u2, u6, u7, u8', z01, z02, z12, z11, hz, e0, e1, hy, htk, ht1, Int.toNat_natCast])
                        | ((first | (refine hR _ ?_; clear hR R) | refine awp_skip ?_ | refine awp_exit ?_ | refine awp_ret ?_); try simp only [thenA, inBlockA, reduceIte, reduceCtorEq, Nat.reduceEqDiff, if_false, if_true])
                        | ((first | refine hK _ ?_ | (clear hK K; first | refine hK _ ?_ | (clear hK K; first | refine hK _ ?_ | (clear hK K; first | refine hK _ ?_ | (clear hK K; refine hK _ ?_))))); clear hK K)
                        | refine awp_true rfl rfl ?_
                        | refine awp_false rfl rfl ?_
                        | refine awp_block ?_
                        | ((first | refine CallK.pure (enter93) (turned_tri d[i]) ?_ ?_ | refine CallD.pure (enter93) (turned_tri d[i]) ?_ ?_); (focus first | ((repeat (first | exact trivial | refine ⟨(by first | exact Or.inl rfl | exact Or.inr rfl), ?_⟩)); done) | (simp only [coL, AV.dat, true_or, or_true, AV.d.injEq, go_sem]; done)); simp only [go_sem, u0, u1, u2, u6, u7, u8', z01, z02, z12, z11, hz, e0, e1, hy, htk, ht1, Int.toNat_natCast])
                        | ((first | refine CallK.pure (enter94) (m1) ?_ ?_ | refine CallD.pure (enter94) (m1) ?_ ?_); (focus first | ((repeat (first | exact trivial | refine ⟨(by first | exact Or.inl rfl | exact Or.inr rfl), ?_⟩)); done) | (simp only [coL, AV.dat, true_or, or_true, AV.d.injEq, go_sem]; done)); simp only [go_sem, u0, u1, u2, u6, u7, u8', z01, z02, z12, z11, hz, e0, e1, hy, htk, ht1, Int.toNat_natCast])
                        | ((first | refine CallK.pure (enter94) (m2) ?_ ?_ | refine CallD.pure (enter94) (m2) ?_ ?_); (focus first | ((repeat (first | exact trivial | refine ⟨(by first | exact Or.inl rfl | exact Or.inr rfl), ?_⟩)); done) | (simp only [coL, AV.dat, true_or, or_true, AV.d.injEq, go_sem]; done)); simp only [go_sem, u0, u1, u2, u6, u7, u8', z01, z02, z12, z11, hz, e0, e1, hy, htk, ht1, Int.toNat_natCast])
                        | ((first | refine CallK.pure (enter34) (m3) ?_ ?_ | refine CallD.pure (enter34) (m3) ?_ ?_); (focus first | ((repeat (first | exact trivial | refine ⟨(by first | exact Or.inl rfl | exact Or.inr rfl), ?_⟩)); done) | (simp only [coL, AV.dat, true_or, or_true, AV.d.injEq, go_sem]; done)); simp only [go_sem, u0, u1, u2, u6, u7, u8', z01, z02, z12, z11, hz, e0, e1, hy, htk, ht1, Int.toNat_natCast])
                        | refine And.intro (by first | omega | exact trivial | rfl | assumption | (apply map_sz; intro a; simp only [go_sem]; done) | ((and_intros <;> first | omega | exact trivial | rfl | assumption | (apply map_sz; intro a; simp only [go_sem]; done) | fail); done) | fail) ?_
                        | fail)
                      first | refine ret_pure (by simp only [Try.results34, resOkL, resOk, Try.ntmps34, List.toList_toArray]; first | decide | (simp only [go_sem, u6]; done) | (simp only [go_sem, u6]; and_intros <;> first | omega | rfl | decide)) ?_ (by repeat (first | exact Fr.rfl' _ _ | assumption | refine Fr.updk ?_ (by omega) _)) | refine ret_ro (by simp only [Try.results34, resOkL, resOk, Try.ntmps34, List.toList_toArray]; first | decide | (simp only [go_sem, u6]; done) | (simp only [go_sem, u6]; and_intros <;> first | omega | rfl | decide)) ?_ (by repeat (first | exact Fr.rfl' _ _ | assumption | refine Fr.updk ?_ (by omega) _))
                      simp only [resA, resV, Try.results34, go_sem, u6]
                      all_goals try (first | exact Co.t2 (.dat rfl) (.dat rfl) | exact Co.t3 (.dat rfl) (.dat rfl) (.dat rfl))
                      exact co_b uv
          · have jz : ¬ ((j : Int) < 2) := by omega
            obtain rfl : j = 2 := by omega
            rw [List.drop_eq_nil_of_le (by omega), List.any_nil, Bool.false_or] at uv
            repeat' (first
              | refine awp_seq_k fun K hK => ?_
              | ((first | refine awp_region_k (by kernel_rfl) fun R hR => ?_ | refine awp_draw mixed (by kernel_rfl) (by kernel_rfl) fun R hR => ?_); simp only [go_sem, u0, u1, u2, u6, u7, u8, jz])
              | ((first | (refine hR _ ?_; clear hR R) | refine awp_skip ?_ | refine awp_exit ?_ | refine awp_ret ?_); try simp only [thenA, inBlockA, reduceIte, reduceCtorEq, Nat.reduceEqDiff, if_false, if_true])
              | ((first | refine hK _ ?_ | (clear hK K; first | refine hK _ ?_ | (clear hK K; first | refine hK _ ?_ | (clear hK K; first | refine hK _ ?_ | (clear hK K; refine hK _ ?_))))); clear hK K)
              | refine awp_true rfl rfl ?_
              | refine awp_false rfl rfl ?_
              | refine awp_block ?_
              | refine And.intro (by first | omega | exact trivial | rfl | assumption | (apply map_sz; intro a; simp only [go_sem]; done) | ((and_intros <;> first | omega | exact trivial | rfl | assumption | (apply map_sz; intro a; simp only [go_sem]; done) | fail); done) | fail) ?_
              | fail)
            refine ⟨⟨i + 1, ?_⟩, ?_⟩
            rotate_left
            · simp only [go_sem, u0, u1, u2, u6, u7, u8, s7]; omega
            simp only [go_sem, u0, u1, u2, u6, u7, u8, s7]
            and_intros; all_goals try (first | rfl | omega | assumption | ((repeat (first | exact Fr.rfl' _ _ | assumption | refine Fr.updk ?_ (by omega) _)); done))
      · have hz : ¬ ((i : Int) < (d.length : Int)) := by omega
        obtain rfl : i = d.length := by omega
        rw [List.drop_length, List.any_nil] at hv
        repeat' (first
          | refine awp_seq_k fun K hK => ?_
          | ((first | refine awp_region_k (by kernel_rfl) fun R hR => ?_ | refine awp_draw mixed (by kernel_rfl) (by kernel_rfl) fun R hR => ?_); simp only [go_sem, s0, s1, s2, s6, s7, hz])
          | ((first | (refine hR _ ?_; clear hR R) | refine awp_skip ?_ | refine awp_exit ?_ | refine awp_ret ?_); try simp only [thenA, inBlockA, reduceIte, reduceCtorEq, Nat.reduceEqDiff, if_false, if_true])
          | ((first | refine hK _ ?_ | (clear hK K; first | refine hK _ ?_ | (clear hK K; first | refine hK _ ?_ | (clear hK K; first | refine hK _ ?_ | (clear hK K; refine hK _ ?_))))); clear hK K)
          | refine awp_true rfl rfl ?_
          | refine awp_false rfl rfl ?_
          | refine awp_block ?_
          | refine And.intro (by first | omega | exact trivial | rfl | assumption | (apply map_sz; intro a; simp only [go_sem]; done) | ((and_intros <;> first | omega | exact trivial | rfl | assumption | (apply map_sz; intro a; simp only [go_sem]; done) | fail); done) | fail) ?_
          | fail)
        first | refine ret_pure (by simp only [Try.results34, resOkL, resOk, Try.ntmps34, List.toList_toArray]; first | decide | (simp only [go_sem, s6]; done) | (simp only [go_sem, s6]; and_intros <;> first | omega | rfl | decide)) ?_ (by repeat (first | exact Fr.rfl' _ _ | assumption | refine Fr.updk ?_ (by omega) _)) | refine ret_ro (by simp only [Try.results34, resOkL, resOk, Try.ntmps34, List.toList_toArray]; first | decide | (simp only [go_sem, s6]; done) | (simp only [go_sem, s6]; and_intros <;> first | omega | rfl | decide)) ?_ (by repeat (first | exact Fr.rfl' _ _ | assumption | refine Fr.updk ?_ (by omega) _))
        simp only [resA, resV, Try.results34, go_sem, s6]
        all_goals try (first | exact Co.t2 (.dat rfl) (.dat rfl) | exact Co.t3 (.dat rfl) (.dat rfl) (.dat rfl))
        exact co_b hv
end Go.Proofs.Ytmeekpinkfpnhaa

namespace Go.Proofs.Ytmeekpinkfpnhaa
open Go.RowKit
set_option linter.unusedSimpArgs false
set_option linter.unusedSectionVars false

theorem ltDV_y {l : Lt} {y : Bool} (h : l.y = y) : ltDV l = ltDV ⟨y, l.a, l.b⟩ := by rw [← h]
set_option maxHeartbeats 2000000 in
set_option maxRecDepth 20000 in
theorem alwaysOf_tri (c : List Lt) (hc : c.length ≤ 4000000) : Tri Try.prog 33 [.d (clDV c)] (pure' (bA (alwB c))) := by
  refine tri_enter Try.func33 rfl Try.ntmps33 (by simp only [List.length_cons, List.length_nil]; omega) fun w0 h0 k hrd hwr => ?_
  repeat' (first
    | refine awp_seq_k fun K hK => ?_
    | ((first | refine awp_region_k (by kernel_rfl) fun R hR => ?_ | refine awp_draw mixed (by kernel_rfl) (by kernel_rfl) fun R hR => ?_); simp only [go_sem])
    | ((first | (refine hR _ ?_; clear hR R) | refine awp_skip ?_ | refine awp_exit ?_ | refine awp_ret ?_); try simp only [thenA, inBlockA, reduceIte, reduceCtorEq, Nat.reduceEqDiff, if_false, if_true])
    | ((first | refine hK _ ?_ | (clear hK K; first | refine hK _ ?_ | (clear hK K; first | refine hK _ ?_ | (clear hK K; first | refine hK _ ?_ | (clear hK K; refine hK _ ?_))))); clear hK K)
    | refine awp_true rfl rfl ?_
    | refine awp_false rfl rfl ?_
    | refine awp_block ?_
    | refine And.intro (by first | omega | exact trivial | rfl | assumption | (apply map_sz; intro a; simp only [go_sem]; done) | ((and_intros <;> first | omega | exact trivial | rfl | assumption | (apply map_sz; intro a; simp only [go_sem]; done) | fail); done) | fail) ?_
    | fail)
  refine awp_loop (fun σ => ∃ i : Nat, σ.t 0 = .d (clDV c) ∧ σ.t 3 = iA i ∧ σ.h = h0 ∧ k < σ.k ∧ i ≤ c.length ∧ ((c.drop i).any fun l => l.y && (same l.a l.b || c.any fun x => !x.y && sidesB x l)) = alwB c) (fun σ => c.length - (intOf' (σ.t 3)).toNat) ?_ ?_
  · refine ⟨0, ?_⟩
    simp only [go_sem, List.drop_zero]
    and_intros; all_goals try (first | rfl | omega | assumption | ((repeat (first | exact Fr.rfl' _ _ | assumption | refine Fr.updk ?_ (by omega) _)); done))
  · rintro σ ⟨i, s0, s3, sh, hk, hi, hv⟩
    have hfr : Fr k h0 σ.h := by rw [sh]; exact Fr.rfl' _ _
    rcases Nat.lt_or_ge i c.length with hlt | hge
    · have hz : (i : Int) < (c.length : Int) := by omega
      have e1 : (c.map ltDV).getD i default = ltDV c[i] := nth_map ltDV hlt _
      rw [List.drop_eq_getElem_cons hlt, List.any_cons] at hv
      generalize c[i] = l at *
      obtain ⟨y, s, t⟩ := l
      dsimp only at hv
      cases y with
      | false =>
        rw [Bool.false_and, Bool.false_or] at hv
        repeat' (first
          | refine awp_seq_k fun K hK => ?_
          | ((first | refine awp_region_k (by kernel_rfl) fun R hR => ?_ | refine awp_draw mixed (by kernel_rfl) (by kernel_rfl) fun R hR => ?_); simp only [go_sem, s0, s3, hz, e1, Int.toNat_natCast])
          | ((first | (refine hR _ ?_; clear hR R) | refine awp_skip ?_ | refine awp_exit ?_ | refine awp_ret ?_); try simp only [thenA, inBlockA, reduceIte, reduceCtorEq, Nat.reduceEqDiff, if_false, if_true])
          | ((first | refine hK _ ?_ | (clear hK K; first | refine hK _ ?_ | (clear hK K; first | refine hK _ ?_ | (clear hK K; first | refine hK _ ?_ | (clear hK K; refine hK _ ?_))))); clear hK K)
          | refine awp_true rfl rfl ?_
          | refine awp_false rfl rfl ?_
          | refine awp_block ?_
          | refine And.intro (by first | omega | exact trivial | rfl | assumption | (apply map_sz; intro a; simp only [go_sem]; done) | ((and_intros <;> first | omega | exact trivial | rfl | assumption | (apply map_sz; intro a; simp only [go_sem]; done) | fail); done) | fail) ?_
          | fail)
        refine ⟨⟨i + 1, ?_⟩, ?_⟩
        rotate_left
        · simp only [go_sem, s0, s3, sh]; omega
        simp only [go_sem, s0, s3, sh]
        and_intros; all_goals try (first | rfl | omega | assumption | ((repeat (first | exact Fr.rfl' _ _ | assumption | refine Fr.updk ?_ (by omega) _)); done))
      | true =>
        rw [Bool.true_and] at hv
        cases h1 : same s t with
        | true =>
          rw [h1, Bool.true_or, Bool.true_or] at hv
          repeat' (first
            | refine awp_seq_k fun K hK => ?_
            | ((first | refine awp_region_k (by kernel_rfl) fun R hR => ?_ | refine awp_draw mixed (by kernel_rfl) (by kernel_rfl) fun R hR => ?_); simp only [go_sem, s0, s3, hz, e1, h1, Int.toNat_natCast])
            | ((first | (refine hR _ ?_; clear hR R) | refine awp_skip ?_ | refine awp_exit ?_ | refine awp_ret ?_); try simp only [thenA, inBlockA, reduceIte, reduceCtorEq, Nat.reduceEqDiff, if_false, if_true])
            | ((first | refine hK _ ?_ | (clear hK K; first | refine hK _ ?_ | (clear hK K; first | refine hK _ ?_ | (clear hK K; first | refine hK _ ?_ | (clear hK K; refine hK _ ?_))))); clear hK K)
            | refine awp_true rfl rfl ?_
            | refine awp_false rfl rfl ?_
            | refine awp_block ?_
            | ((first | refine CallK.pure (enter47) (sameR_tri s t) ?_ ?_ | refine CallD.pure (enter47) (sameR_tri s t) ?_ ?_); (focus first | ((repeat (first | exact trivial | refine ⟨(by first | exact Or.inl rfl | exact Or.inr rfl), ?_⟩)); done) | (simp only [coL, AV.dat, true_or, or_true, AV.d.injEq, go_sem]; done)); simp only [go_sem, s0, s3, hz, e1, h1, Int.toNat_natCast])
            | refine And.intro (by first | omega | exact trivial | rfl | assumption | (apply map_sz; intro a; simp only [go_sem]; done) | ((and_intros <;> first | omega | exact trivial | rfl | assumption | (apply map_sz; intro a; simp only [go_sem]; done) | fail); done) | fail) ?_
            | fail)
          first | refine ret_pure (by simp only [Try.results33, resOkL, resOk, Try.ntmps33, List.toList_toArray]; first | decide | (simp only [go_sem]; done) | (simp only [go_sem]; and_intros <;> first | omega | rfl | decide)) ?_ (by repeat (first | exact Fr.rfl' _ _ | assumption | refine Fr.updk ?_ (by omega) _)) | refine ret_ro (by simp only [Try.results33, resOkL, resOk, Try.ntmps33, List.toList_toArray]; first | decide | (simp only [go_sem]; done) | (simp only [go_sem]; and_intros <;> first | omega | rfl | decide)) ?_ (by repeat (first | exact Fr.rfl' _ _ | assumption | refine Fr.updk ?_ (by omega) _))
          simp only [resA, resV, Try.results33, go_sem]
          all_goals try (first | exact Co.t2 (.dat rfl) (.dat rfl) | exact Co.t3 (.dat rfl) (.dat rfl) (.dat rfl))
          exact co_b hv
        | false =>
          rw [h1, Bool.false_or] at hv
          repeat' (first
            | refine awp_seq_k fun K hK => ?_
            | ((first | refine awp_region_k (by kernel_rfl) fun R hR => ?_ | refine awp_draw mixed (by kernel_rfl) (by kernel_rfl) fun R hR => ?_); simp only [go_sem, s0, s3, hz, e1, h1, Int.toNat_natCast])
            | ((first | (refine hR _ ?_; clear hR R) | refine awp_skip ?_ | refine awp_exit ?_ | refine awp_ret ?_); try simp only [thenA, inBlockA, reduceIte, reduceCtorEq, Nat.reduceEqDiff, if_false, if_true])
            | ((first | refine hK _ ?_ | (clear hK K; first | refine hK _ ?_ | (clear hK K; first | refine hK _ ?_ | (clear hK K; first | refine hK _ ?_ | (clear hK K; refine hK _ ?_))))); clear hK K)
            | refine awp_true rfl rfl ?_
            | refine awp_false rfl rfl ?_
            | refine awp_block ?_
            | ((first | refine CallK.pure (enter47) (sameR_tri s t) ?_ ?_ | refine CallD.pure (enter47) (sameR_tri s t) ?_ ?_); (focus first | ((repeat (first | exact trivial | refine ⟨(by first | exact Or.inl rfl | exact Or.inr rfl), ?_⟩)); done) | (simp only [coL, AV.dat, true_or, or_true, AV.d.injEq, go_sem]; done)); simp only [go_sem, s0, s3, hz, e1, h1, Int.toNat_natCast])
            | refine And.intro (by first | omega | exact trivial | rfl | assumption | (apply map_sz; intro a; simp only [go_sem]; done) | ((and_intros <;> first | omega | exact trivial | rfl | assumption | (apply map_sz; intro a; simp only [go_sem]; done) | fail); done) | fail) ?_
            | fail)
          refine awp_loop (fun τ => ∃ j : Nat, τ.t 0 = .d (clDV c) ∧ τ.t 3 = iA i ∧ τ.t 4 = iA j ∧ τ.h = h0 ∧ k < τ.k ∧ j ≤ c.length ∧ ((c.drop j).any fun x => !x.y && sidesB x ⟨true, s, t⟩) = c.any fun x => !x.y && sidesB x ⟨true, s, t⟩) (fun τ => c.length - (intOf' (τ.t 4)).toNat) ?_ ?_
          · refine ⟨0, ?_⟩
            simp only [go_sem, s0, s3, sh, List.drop_zero]
            and_intros; all_goals try (first | rfl | omega | assumption | ((repeat (first | exact Fr.rfl' _ _ | assumption | refine Fr.updk ?_ (by omega) _)); done))
          · rintro τ ⟨j, u0, u3, u4, uh, uk, uj, uv⟩
            have hfr' : Fr k h0 τ.h := by rw [uh]; exact Fr.rfl' _ _
            rcases Nat.lt_or_ge j c.length with hlt' | hge'
            · have hz' : (j : Int) < (c.length : Int) := by omega
              have e2 : (c.map ltDV).getD j default = ltDV c[j] := nth_map ltDV hlt' _
              rw [List.drop_eq_getElem_cons hlt', List.any_cons] at uv
              generalize c[j] = x at *
              obtain ⟨y', s', t'⟩ := x
              dsimp only at uv
              cases y' with
              | true =>
                rw [Bool.not_true, Bool.false_and, Bool.false_or] at uv
                repeat' (first
                  | refine awp_seq_k fun K hK => ?_
                  | ((first | refine awp_region_k (by kernel_rfl) fun R hR => ?_ | refine awp_draw mixed (by kernel_rfl) (by kernel_rfl) fun R hR => ?_); simp only [go_sem, u0, u3, u4, hz, hz', e1, e2, Int.toNat_natCast])
                  | ((first | (refine hR _ ?_; clear hR R) | refine awp_skip ?_ | refine awp_exit ?_ | refine awp_ret ?_); try simp only [thenA, inBlockA, reduceIte, reduceCtorEq, Nat.reduceEqDiff, if_false, if_true])
                  | ((first | refine hK _ ?_ | (clear hK K; first | refine hK _ ?_ | (clear hK K; first | refine hK _ ?_ | (clear hK K; first | refine hK _ ?_ | (clear hK K; refine hK _ ?_))))); clear hK K)
                  | refine awp_true rfl rfl ?_
                  | refine awp_false rfl rfl ?_
                  | refine awp_block ?_
                  | refine And.intro (by first | omega | exact trivial | rfl | assumption | (apply map_sz; intro a; simp only [go_sem]; done) | ((and_intros <;> first | omega | exact trivial | rfl | assumption | (apply map_sz; intro a; simp only [go_sem]; done) | fail); done) | fail) ?_
                  | fail)
                refine ⟨⟨j + 1, ?_⟩, ?_⟩
                rotate_left
                · simp only [go_sem, u0, u3, u4, uh]; omega
                simp only [go_sem, u0, u3, u4, uh]
                and_intros; all_goals try (first | rfl | omega | assumption | ((repeat (first | exact Fr.rfl' _ _ | assumption | refine Fr.updk ?_ (by omega) _)); done))
              | false =>
                have hs := sameSides_tri ⟨true, s, t⟩ ⟨false, s', t'⟩
                rw [sides_comm] at hs
                cases h2 : sidesB ⟨false, s', t'⟩ ⟨true, s, t⟩ with
                | true =>
                  rw [h2] at hs uv
                  rw [Bool.not_false, Bool.true_and, Bool.true_or] at uv
                  rw [← uv, Bool.true_or] at hv
                  repeat' (first
                    | refine awp_seq_k fun K hK => ?_
                    | ((first | refine awp_region_k (by kernel_rfl) fun R hR => ?_ | refine awp_draw mixed (by kernel_rfl) (by kernel_rfl) fun R hR => ?_); simp only [go_sem, u0, u3, u4, hz, hz', e1, e2, Int.toNat_natCast])
                    | ((first | (refine hR _ ?_; clear hR R) | refine awp_skip ?_ | refine awp_exit ?_ | refine awp_ret ?_); try simp only [thenA, inBlockA, reduceIte, reduceCtorEq, Nat.reduceEqDiff, if_false, if_true])
                    | ((first | refine hK _ ?_ | (clear hK K; first | refine hK _ ?_ | (clear hK K; first | refine hK _ ?_ | (clear hK K; first | refine hK _ ?_ | (clear hK K; refine hK _ ?_))))); clear hK K)
                    | refine awp_true rfl rfl ?_
                    | refine awp_false rfl rfl ?_
                    | refine awp_block ?_
                    | ((first | refine CallK.pure (enter91) (hs) ?_ ?_ | refine CallD.pure (enter91) (hs) ?_ ?_); (focus first | ((repeat (first | exact trivial | refine ⟨(by first | exact Or.inl rfl | exact Or.inr rfl), ?_⟩)); done) | (simp only [coL, AV.dat, true_or, or_true, AV.d.injEq, go_sem]; done)); simp only [go_sem, u0, u3, u4, hz, hz', e1, e2, Int.toNat_natCast])
                    | refine And.intro (by first | omega | exact trivial | rfl | assumption | (apply map_sz; intro a; simp only [go_sem]; done) | ((and_intros <;> first | omega | exact trivial | rfl | assumption | (apply map_sz; intro a; simp only [go_sem]; done) | fail); done) | fail) ?_
                    | fail)
                  first | refine ret_pure (by simp only [Try.results33, resOkL, resOk, Try.ntmps33, List.toList_toArray]; first | decide | (simp only [go_sem]; done) | (simp only [go_sem]; and_intros <;> first | omega | rfl | decide)) ?_ (by repeat (first | exact Fr.rfl' _ _ | assumption | refine Fr.updk ?_ (by omega) _)) | refine ret_ro (by simp only [Try.results33, resOkL, resOk, Try.ntmps33, List.toList_toArray]; first | decide | (simp only [go_sem]; done) | (simp only [go_sem]; and_intros <;> first | omega | rfl | decide)) ?_ (by repeat (first | exact Fr.rfl' _ _ | assumption | refine Fr.updk ?_ (by omega) _))
                  simp only [resA, resV, Try.results33, go_sem]
                  all_goals try (first | exact Co.t2 (.dat rfl) (.dat rfl) | exact Co.t3 (.dat rfl) (.dat rfl) (.dat rfl))
                  exact co_b hv
                | false =>
                  rw [h2] at hs uv
                  rw [Bool.and_false, Bool.false_or] at uv
                  repeat' (first
                    | refine awp_seq_k fun K hK => ?_
                    | ((first | refine awp_region_k (by kernel_rfl) fun R hR => ?_ | refine awp_draw mixed (by kernel_rfl) (by kernel_rfl) fun R hR => ?_); simp only [go_sem, u0, u3, u4, hz, hz', e1, e2, Int.toNat_natCast])
                    | ((first | (refine hR _ ?_; clear hR R) | refine awp_skip ?_ | refine awp_exit ?_ | refine awp_ret ?_); try simp only [thenA, inBlockA, reduceIte, reduceCtorEq, Nat.reduceEqDiff, if_false, if_true])
                    | ((first | refine hK _ ?_ | (clear hK K; first | refine hK _ ?_ | (clear hK K; first | refine hK _ ?_ | (clear hK K; first | refine hK _ ?_ | (clear hK K; refine hK _ ?_))))); clear hK K)
                    | refine awp_true rfl rfl ?_
                    | refine awp_false rfl rfl ?_
                    | refine awp_block ?_
                    | ((first | refine CallK.pure (enter91) (hs) ?_ ?_ | refine CallD.pure (enter91) (hs) ?_ ?_); (focus first | ((repeat (first | exact trivial | refine ⟨(by first | exact Or.inl rfl | exact Or.inr rfl), ?_⟩)); done) | (simp only [coL, AV.dat, true_or, or_true, AV.d.injEq, go_sem]; done)); simp only [go_sem, u0, u3, u4, hz, hz', e1, e2, Int.toNat_natCast])
                    | refine And.intro (by first | omega | exact trivial | rfl | assumption | (apply map_sz; intro a; simp only [go_sem]; done) | ((and_intros <;> first | omega | exact trivial | rfl | assumption | (apply map_sz; intro a; simp only [go_sem]; done) | fail); done) | fail) ?_
                    | fail)
                  refine ⟨⟨j + 1, ?_⟩, ?_⟩
                  rotate_left
                  · simp only [go_sem, u0, u3, u4, uh]; omega
                  simp only [go_sem, u0, u3, u4, uh]
                  and_intros; all_goals try (first | rfl | omega | assumption | ((repeat (first | exact Fr.rfl' _ _ | assumption | refine Fr.updk ?_ (by omega) _)); done))
            · have hz' : ¬ ((j : Int) < (c.length : Int)) := by omega
              rw [List.drop_eq_nil_of_le hge', List.any_nil] at uv
              rw [← uv, Bool.false_or] at hv
              repeat' (first
                | refine awp_seq_k fun K hK => ?_
                | ((first | refine awp_region_k (by kernel_rfl) fun R hR => ?_ | refine awp_draw mixed (by kernel_rfl) (by kernel_rfl) fun R hR => ?_); simp only [go_sem, u0, u3, u4, hz'])
                | ((first | (refine hR _ ?_; clear hR R) | refine awp_skip ?_ | refine awp_exit ?_ | refine awp_ret ?_); try simp only [thenA, inBlockA, reduceIte, reduceCtorEq, Nat.reduceEqDiff, if_false, if_true])
                | ((first | refine hK _ ?_ | (clear hK K; first | refine hK _ ?_ | (clear hK K; first | refine hK _ ?_ | (clear hK K; first | refine hK _ ?_ | (clear hK K; refine hK _ ?_))))); clear hK K)
                | refine awp_true rfl rfl ?_
                | refine awp_false rfl rfl ?_
                | refine awp_block ?_
                | refine And.intro (by first | omega | exact trivial | rfl | assumption | (apply map_sz; intro a; simp only [go_sem]; done) | ((and_intros <;> first | omega | exact trivial | rfl | assumption | (apply map_sz; intro a; simp only [go_sem]; done) | fail); done) | fail) ?_
                | fail)
              refine ⟨⟨i + 1, ?_⟩, ?_⟩
              rotate_left
              · simp only [go_sem, u0, u3, uh, s3]; omega
              simp only [go_sem, u0, u3, uh, s3]
              and_intros; all_goals try (first | rfl | omega | assumption | ((repeat (first | exact Fr.rfl' _ _ | assumption | refine Fr.updk ?_ (by omega) _)); done))
    · have hz : ¬ ((i : Int) < (c.length : Int)) := by omega
      rw [List.drop_eq_nil_of_le hge, List.any_nil] at hv
      repeat' (first
        | refine awp_seq_k fun K hK => ?_
        | ((first | refine awp_region_k (by kernel_rfl) fun R hR => ?_ | refine awp_draw mixed (by kernel_rfl) (by kernel_rfl) fun R hR => ?_); simp only [go_sem, s0, s3, hz])
        | ((first | (refine hR _ ?_; clear hR R) | refine awp_skip ?_ | refine awp_exit ?_ | refine awp_ret ?_); try simp only [thenA, inBlockA, reduceIte, reduceCtorEq, Nat.reduceEqDiff, if_false, if_true])
        | ((first | refine hK _ ?_ | (clear hK K; first | refine hK _ ?_ | (clear hK K; first | refine hK _ ?_ | (clear hK K; first | refine hK _ ?_ | (clear hK K; refine hK _ ?_))))); clear hK K)
        | refine awp_true rfl rfl ?_
        | refine awp_false rfl rfl ?_
        | refine awp_block ?_
        | refine And.intro (by first | omega | exact trivial | rfl | assumption | (apply map_sz; intro a; simp only [go_sem]; done) | ((and_intros <;> first | omega | exact trivial | rfl | assumption | (apply map_sz; intro a; simp only [go_sem]; done) | fail); done) | fail) ?_
        | fail)
      first | refine ret_pure (by simp only [Try.results33, resOkL, resOk, Try.ntmps33, List.toList_toArray]; first | decide | (simp only [go_sem]; done) | (simp only [go_sem]; and_intros <;> first | omega | rfl | decide)) ?_ (by repeat (first | exact Fr.rfl' _ _ | assumption | refine Fr.updk ?_ (by omega) _)) | refine ret_ro (by simp only [Try.results33, resOkL, resOk, Try.ntmps33, List.toList_toArray]; first | decide | (simp only [go_sem]; done) | (simp only [go_sem]; and_intros <;> first | omega | rfl | decide)) ?_ (by repeat (first | exact Fr.rfl' _ _ | assumption | refine Fr.updk ?_ (by omega) _))
      simp only [resA, resV, Try.results33, go_sem]
      all_goals try (first | exact Co.t2 (.dat rfl) (.dat rfl) | exact Co.t3 (.dat rfl) (.dat rfl) (.dat rfl))
      exact co_b hv
end Go.Proofs.Ytmeekpinkfpnhaa

namespace Go.Proofs.Ytmeekpinkfpnhaa
open Go.RowKit
set_option linter.unusedSimpArgs false
set_option linter.unusedSectionVars false

set_option maxHeartbeats 4000000 in
set_option maxRecDepth 20000 in
theorem checkModel_tri (g : List Int) (sz : Int) (tb : List (List Int)) (hl : tb.length ≤ 4000000) (hr : ∀ r ∈ tb, r.length ≤ 4000000) : Tri Try.prog 20 [.d (sgDV g), .d (mdDV sz tb)] (pure' (iA (mdOk g sz tb))) := by
  refine tri_enter Try.func20 rfl Try.ntmps20 (by simp only [List.length_cons, List.length_nil]; omega) fun w0 h0 k hrd hwr => ?_
  cases hs : sigOk g == 0 with
  | false =>
    have hs' : (sigOk g != 0) = true := by simpa using hs
    have hv : mdOk g sz tb = sigOk g := by unfold mdOk; rw [if_pos (by simpa using hs)]
    repeat' (first
      | refine awp_seq_k fun K hK => ?_
      | ((first | refine awp_region_k (by kernel_rfl) fun R hR => ?_ | refine awp_draw mixed (by kernel_rfl) (by kernel_rfl) fun R hR => ?_); simp only [go_sem, hs'])
      | ((first | (refine hR _ ?_; clear hR R) | refine awp_skip ?_ | refine awp_exit ?_ | refine awp_ret ?_); try simp only [thenA, inBlockA, reduceIte, reduceCtorEq, Nat.reduceEqDiff, if_false, if_true])
      | ((first | refine hK _ ?_ | (clear hK K; first | refine hK _ ?_ | (clear hK K; first | refine hK _ ?_ | (clear hK K; first | refine hK _ ?_ | (clear hK K; refine hK _ ?_))))); clear hK K)
      | refine awp_true rfl rfl ?_
      | refine awp_false rfl rfl ?_
      | refine awp_block ?_
      | ((first | refine CallK.pure (enter54) (checkSig_tri g) ?_ ?_ | refine CallD.pure (enter54) (checkSig_tri g) ?_ ?_); (focus first | ((repeat (first | exact trivial | refine ⟨(by first | exact Or.inl rfl | exact Or.inr rfl), ?_⟩)); done) | (simp only [coL, AV.dat, true_or, or_true, AV.d.injEq, go_sem]; done)); simp only [go_sem, hs'])
      | refine And.intro (by first | omega | exact trivial | rfl | assumption | (apply map_sz; intro a; simp only [go_sem]; done) | ((and_intros <;> first | omega | exact trivial | rfl | assumption | (apply map_sz; intro a; simp only [go_sem]; done) | fail); done) | fail) ?_
      | fail)
    first | refine ret_pure (by simp only [Try.results20, resOkL, resOk, Try.ntmps20, List.toList_toArray]; first | decide | (simp only [go_sem]; done) | (simp only [go_sem]; and_intros <;> first | omega | rfl | decide)) ?_ (by repeat (first | exact Fr.rfl' _ _ | assumption | refine Fr.updk ?_ (by omega) _)) | refine ret_ro (by simp only [Try.results20, resOkL, resOk, Try.ntmps20, List.toList_toArray]; first | decide | (simp only [go_sem]; done) | (simp only [go_sem]; and_intros <;> first | omega | rfl | decide)) ?_ (by repeat (first | exact Fr.rfl' _ _ | assumption | refine Fr.updk ?_ (by omega) _))
    simp only [resA, resV, Try.results20, go_sem]
    all_goals try (first | exact Co.t2 (.dat rfl) (.dat rfl) | exact Co.t3 (.dat rfl) (.dat rfl) (.dat rfl))
    exact co_i hv.symm
  | true =>
    have hs2 : sigOk g = 0 := by simpa using hs
    have hlen := sig_len hs2
    by_cases hsz : sz < 1 ∨ sz > 3
    · have hv : mdOk g sz tb = 3 := by unfold mdOk; rw [if_neg (by simp [hs2]), if_pos hsz]
      have hbt : btw sz 1 3 = false := by unfold btw; simp; omega
      repeat' (first
        | refine awp_seq_k fun K hK => ?_
        | ((first | refine awp_region_k (by kernel_rfl) fun R hR => ?_ | refine awp_draw mixed (by kernel_rfl) (by kernel_rfl) fun R hR => ?_); simp only [go_sem, hs2, bne_self_eq_false, hbt])
        | ((first | (refine hR _ ?_; clear hR R) | refine awp_skip ?_ | refine awp_exit ?_ | refine awp_ret ?_); try simp only [thenA, inBlockA, reduceIte, reduceCtorEq, Nat.reduceEqDiff, if_false, if_true])
        | ((first | refine hK _ ?_ | (clear hK K; first | refine hK _ ?_ | (clear hK K; first | refine hK _ ?_ | (clear hK K; first | refine hK _ ?_ | (clear hK K; refine hK _ ?_))))); clear hK K)
        | refine awp_true rfl rfl ?_
        | refine awp_false rfl rfl ?_
        | refine awp_block ?_
        | ((first | refine CallK.pure (enter54) (checkSig_tri g) ?_ ?_ | refine CallD.pure (enter54) (checkSig_tri g) ?_ ?_); (focus first | ((repeat (first | exact trivial | refine ⟨(by first | exact Or.inl rfl | exact Or.inr rfl), ?_⟩)); done) | (simp only [coL, AV.dat, true_or, or_true, AV.d.injEq, go_sem]; done)); simp only [go_sem, hs2, bne_self_eq_false, hbt])
        | ((first | refine CallK.pure (enter80) (between_tri sz 1 3) ?_ ?_ | refine CallD.pure (enter80) (between_tri sz 1 3) ?_ ?_); (focus first | ((repeat (first | exact trivial | refine ⟨(by first | exact Or.inl rfl | exact Or.inr rfl), ?_⟩)); done) | (simp only [coL, AV.dat, true_or, or_true, AV.d.injEq, go_sem]; done)); simp only [go_sem, hs2, bne_self_eq_false, hbt])
        | refine And.intro (by first | omega | exact trivial | rfl | assumption | (apply map_sz; intro a; simp only [go_sem]; done) | ((and_intros <;> first | omega | exact trivial | rfl | assumption | (apply map_sz; intro a; simp only [go_sem]; done) | fail); done) | fail) ?_
        | fail)
      first | refine ret_pure (by simp only [Try.results20, resOkL, resOk, Try.ntmps20, List.toList_toArray]; first | decide | (simp only [go_sem]; done) | (simp only [go_sem]; and_intros <;> first | omega | rfl | decide)) ?_ (by repeat (first | exact Fr.rfl' _ _ | assumption | refine Fr.updk ?_ (by omega) _)) | refine ret_ro (by simp only [Try.results20, resOkL, resOk, Try.ntmps20, List.toList_toArray]; first | decide | (simp only [go_sem]; done) | (simp only [go_sem]; and_intros <;> first | omega | rfl | decide)) ?_ (by repeat (first | exact Fr.rfl' _ _ | assumption | refine Fr.updk ?_ (by omega) _))
      simp only [resA, resV, Try.results20, go_sem]
      all_goals try (first | exact Co.t2 (.dat rfl) (.dat rfl) | exact Co.t3 (.dat rfl) (.dat rfl) (.dat rfl))
      exact co_i hv.symm
    · have hbt : btw sz 1 3 = true := by unfold btw; simp; omega
      cases h3 : ((tb.length : Int) != (g.length : Int)) with
      | true =>
        have hv : mdOk g sz tb = 1 := by unfold mdOk; rw [if_neg (by simp [hs2]), if_neg hsz, if_pos (by simp at h3; omega)]
        repeat' (first
          | refine awp_seq_k fun K hK => ?_
          | ((first | refine awp_region_k (by kernel_rfl) fun R hR => ?_ | refine awp_draw mixed (by kernel_rfl) (by kernel_rfl) fun R hR => ?_); simp only [go_sem, hs2, bne_self_eq_false, hbt, h3])
          | ((first | (refine hR _ ?_; clear hR R) | refine awp_skip ?_ | refine awp_exit ?_ | refine awp_ret ?_); try simp only [thenA, inBlockA, reduceIte, reduceCtorEq, Nat.reduceEqDiff, if_false, if_true])
          | ((first | refine hK _ ?_ | (clear hK K; first | refine hK _ ?_ | (clear hK K; first | refine hK _ ?_ | (clear hK K; first | refine hK _ ?_ | (clear hK K; refine hK _ ?_))))); clear hK K)
          | refine awp_true rfl rfl ?_
          | refine awp_false rfl rfl ?_
          | refine awp_block ?_
          | ((first | refine CallK.pure (enter54) (checkSig_tri g) ?_ ?_ | refine CallD.pure (enter54) (checkSig_tri g) ?_ ?_); (focus first | ((repeat (first | exact trivial | refine ⟨(by first | exact Or.inl rfl | exact Or.inr rfl), ?_⟩)); done) | (simp only [coL, AV.dat, true_or, or_true, AV.d.injEq, go_sem]; done)); simp only [go_sem, hs2, bne_self_eq_false, hbt, h3])
          | ((first | refine CallK.pure (enter80) (between_tri sz 1 3) ?_ ?_ | refine CallD.pure (enter80) (between_tri sz 1 3) ?_ ?_); (focus first | ((repeat (first | exact trivial | refine ⟨(by first | exact Or.inl rfl | exact Or.inr rfl), ?_⟩)); done) | (simp only [coL, AV.dat, true_or, or_true, AV.d.injEq, go_sem]; done)); simp only [go_sem, hs2, bne_self_eq_false, hbt, h3])
          | refine And.intro (by first | omega | exact trivial | rfl | assumption | (apply map_sz; intro a; simp only [go_sem]; done) | ((and_intros <;> first | omega | exact trivial | rfl | assumption | (apply map_sz; intro a; simp only [go_sem]; done) | fail); done) | fail) ?_
          | fail)
        first | refine ret_pure (by simp only [Try.results20, resOkL, resOk, Try.ntmps20, List.toList_toArray]; first | decide | (simp only [go_sem]; done) | (simp only [go_sem]; and_intros <;> first | omega | rfl | decide)) ?_ (by repeat (first | exact Fr.rfl' _ _ | assumption | refine Fr.updk ?_ (by omega) _)) | refine ret_ro (by simp only [Try.results20, resOkL, resOk, Try.ntmps20, List.toList_toArray]; first | decide | (simp only [go_sem]; done) | (simp only [go_sem]; and_intros <;> first | omega | rfl | decide)) ?_ (by repeat (first | exact Fr.rfl' _ _ | assumption | refine Fr.updk ?_ (by omega) _))
        simp only [resA, resV, Try.results20, go_sem]
        all_goals try (first | exact Co.t2 (.dat rfl) (.dat rfl) | exact Co.t3 (.dat rfl) (.dat rfl) (.dat rfl))
        exact co_i hv.symm
      | false =>
        have h3' : tb.length = g.length := by simp at h3; omega
        have hv : mdOk g sz tb = if rowsBad sz g tb = true then 1 else if (tb.any fun r => r.any (outOf sz)) = true then 5 else 0 := by unfold mdOk; rw [if_neg (by simp [hs2]), if_neg hsz, if_neg (by simp [h3'])]
        repeat' (first
          | refine awp_seq_k fun K hK => ?_
          | ((first | refine awp_region_k (by kernel_rfl) fun R hR => ?_ | refine awp_draw mixed (by kernel_rfl) (by kernel_rfl) fun R hR => ?_); simp only [go_sem, hs2, bne_self_eq_false, hbt, h3])
          | ((first | (refine hR _ ?_; clear hR R) | refine awp_skip ?_ | refine awp_exit ?_ | refine awp_ret ?_); try simp only [thenA, inBlockA, reduceIte, reduceCtorEq, Nat.reduceEqDiff, if_false, if_true])
          | ((first | refine hK _ ?_ | (clear hK K; first | refine hK _ ?_ | (clear hK K; first | refine hK _ ?_ | (clear hK K; first | refine hK _ ?_ | (clear hK K; refine hK _ ?_))))); clear hK K)
          | refine awp_true rfl rfl ?_
          | refine awp_false rfl rfl ?_
          | refine awp_block ?_
          | ((first | refine CallK.pure (enter54) (checkSig_tri g) ?_ ?_ | refine CallD.pure (enter54) (checkSig_tri g) ?_ ?_); (focus first | ((repeat (first | exact trivial | refine ⟨(by first | exact Or.inl rfl | exact Or.inr rfl), ?_⟩)); done) | (simp only [coL, AV.dat, true_or, or_true, AV.d.injEq, go_sem]; done)); simp only [go_sem, hs2, bne_self_eq_false, hbt, h3])
          | ((first | refine CallK.pure (enter80) (between_tri sz 1 3) ?_ ?_ | refine CallD.pure (enter80) (between_tri sz 1 3) ?_ ?_); (focus first | ((repeat (first | exact trivial | refine ⟨(by first | exact Or.inl rfl | exact Or.inr rfl), ?_⟩)); done) | (simp only [coL, AV.dat, true_or, or_true, AV.d.injEq, go_sem]; done)); simp only [go_sem, hs2, bne_self_eq_false, hbt, h3])
          | refine And.intro (by first | omega | exact trivial | rfl | assumption | (apply map_sz; intro a; simp only [go_sem]; done) | ((and_intros <;> first | omega | exact trivial | rfl | assumption | (apply map_sz; intro a; simp only [go_sem]; done) | fail); done) | fail) ?_
          | fail)
        refine awp_loop (fun σ => ∃ i : Nat, σ.t 2 = .ptr (k, 0) 0 ∧ σ.t 3 = .ptr (k, 1) 0 ∧ σ.t 6 = iA i ∧ σ.h (k, 0) = some (.cells 24 [.d (.sl (g.map iD))]) ∧ σ.h (k, 1) = some (.cells 39 [iA sz, .d (.sl (tb.map gI))]) ∧ Fr k h0 σ.h ∧ k < σ.k ∧ i ≤ tb.length ∧ rowsBad sz (g.drop i) (tb.drop i) = rowsBad sz g tb) (fun σ => tb.length - (intOf' (σ.t 6)).toNat) ?_ ?_
        · refine ⟨0, ?_⟩
          simp only [go_sem, List.drop_zero]
          and_intros; all_goals try (first | rfl | omega | assumption | ((repeat (first | exact Fr.rfl' _ _ | assumption | refine Fr.updk ?_ (by omega) _)); done))
        · rintro σ ⟨i, s2, s3, s6, sh, sh', hF, hk, hi, hb⟩
          have hne := ltne hk
          rcases Nat.lt_or_ge i tb.length with hlt | hge
          · have hlt' : i < g.length := by omega
            have hz : (i : Int) < (tb.length : Int) := by omega
            have hz' : (i : Int) < (g.length : Int) := by omega
            have e1 : (tb.map gI).getD i default = gI tb[i] := nth_map gI hlt _
            have e2 : (g.map iD).getD i default = iD g[i] := nth_map iD hlt' _
            obtain ⟨g1, g2⟩ := sig_each hs2 g[i] (List.getElem_mem hlt')
            have pw := powerOf_tri (n := sz) (by omega) (by omega) (j := g[i].toNat) (by omega)
            rw [show ((g[i].toNat : Nat) : Int) = g[i] by omega] at pw
            rw [rowsBad_at hlt' hlt] at hb
            cases hc : ((tb[i].length : Int) != sz ^ g[i].toNat) with
            | true =>
              rw [hc, Bool.true_or] at hb
              repeat' (first
                | refine awp_seq_k fun K hK => ?_
                | ((first | refine awp_region_k (by kernel_rfl) fun R hR => ?_ | refine awp_draw mixed (by kernel_rfl) (by kernel_rfl) fun R hR => ?_); simp only [go_sem, s2, s3, s6, sh, sh', hz, hz', e1, e2, hne, hc, Int.toNat_natCast])
                | ((first | (refine hR _ ?_; clear hR R) | refine awp_skip ?_ | refine awp_exit ?_ | refine awp_ret ?_); try simp only [thenA, inBlockA, reduceIte, reduceCtorEq, Nat.reduceEqDiff, if_false, if_true])
                | ((first | refine hK _ ?_ | (clear hK K; first | refine hK _ ?_ | (clear hK K; first | refine hK _ ?_ | (clear hK K; first | refine hK _ ?_ | (clear hK K; refine hK _ ?_))))); clear hK K)
                | refine awp_true rfl rfl ?_
                | refine awp_false rfl rfl ?_
                | refine awp_block ?_
                | ((first | refine CallK.pure (enter81) (pw) ?_ ?_ | refine CallD.pure (enter81) (pw) ?_ ?_); (focus first | ((repeat (first | exact trivial | refine ⟨(by first | exact Or.inl rfl | exact Or.inr rfl), ?_⟩)); done) | (simp only [coL, AV.dat, true_or, or_true, AV.d.injEq, go_sem]; done)); simp only [go_sem, s2, s3, s6, sh, sh', hz, hz', e1, e2, hne, hc, Int.toNat_natCast])
                | refine And.intro (by first | omega | exact trivial | rfl | assumption | (apply map_sz; intro a; simp only [go_sem]; done) | ((and_intros <;> first | omega | exact trivial | rfl | assumption | (apply map_sz; intro a; simp only [go_sem]; done) | fail); done) | fail) ?_
                | fail)
              first | refine ret_pure (by simp only [Try.results20, resOkL, resOk, Try.ntmps20, List.toList_toArray]; first | decide | (simp only [go_sem]; done) | (simp only [go_sem]; and_intros <;> first | omega | rfl | decide)) ?_ (by repeat (first | exact Fr.rfl' _ _ | assumption | refine Fr.updk ?_ (by omega) _)) | refine ret_ro (by simp only [Try.results20, resOkL, resOk, Try.ntmps20, List.toList_toArray]; first | decide | (simp only [go_sem]; done) | (simp only [go_sem]; and_intros <;> first | omega | rfl | decide)) ?_ (by repeat (first | exact Fr.rfl' _ _ | assumption | refine Fr.updk ?_ (by omega) _))
              simp only [resA, resV, Try.results20, go_sem]
              all_goals try (first | exact Co.t2 (.dat rfl) (.dat rfl) | exact Co.t3 (.dat rfl) (.dat rfl) (.dat rfl))
              exact co_i (by rw [hv, ← hb]; rfl)
            | false =>
              rw [hc, Bool.false_or] at hb
              repeat' (first
                | refine awp_seq_k fun K hK => ?_
                | ((first | refine awp_region_k (by kernel_rfl) fun R hR => ?_ | refine awp_draw mixed (by kernel_rfl) (by kernel_rfl) fun R hR => ?_); simp only [go_sem, s2, s3, s6, sh, sh', hz, hz', e1, e2, hne, hc, Int.toNat_natCast])
                | ((first | (refine hR _ ?_; clear hR R) | refine awp_skip ?_ | refine awp_exit ?_ | refine awp_ret ?_); try simp only [thenA, inBlockA, reduceIte, reduceCtorEq, Nat.reduceEqDiff, if_false, if_true])
                | ((first | refine hK _ ?_ | (clear hK K; first | refine hK _ ?_ | (clear hK K; first | refine hK _ ?_ | (clear hK K; first | refine hK _ ?_ | (clear hK K; refine hK _ ?_))))); clear hK K)
                | refine awp_true rfl rfl ?_
                | refine awp_false rfl rfl ?_
                | refine awp_block ?_
                | ((first | refine CallK.pure (enter81) (pw) ?_ ?_ | refine CallD.pure (enter81) (pw) ?_ ?_); (focus first | ((repeat (first | exact trivial | refine ⟨(by first | exact Or.inl rfl | exact Or.inr rfl), ?_⟩)); done) | (simp only [coL, AV.dat, true_or, or_true, AV.d.injEq, go_sem]; done)); simp only [go_sem, s2, s3, s6, sh, sh', hz, hz', e1, e2, hne, hc, Int.toNat_natCast])
                | refine And.intro (by first | omega | exact trivial | rfl | assumption | (apply map_sz; intro a; simp only [go_sem]; done) | ((and_intros <;> first | omega | exact trivial | rfl | assumption | (apply map_sz; intro a; simp only [go_sem]; done) | fail); done) | fail) ?_
                | fail)
              refine ⟨⟨i + 1, ?_⟩, ?_⟩
              rotate_left
              · simp only [go_sem, s2, s3, s6, sh, sh', hne]; omega
              simp only [go_sem, s2, s3, s6, sh, sh', hne]
              and_intros; all_goals try (first | rfl | omega | assumption | ((repeat (first | exact Fr.rfl' _ _ | assumption | refine Fr.updk ?_ (by omega) _)); done))
          · have hz : ¬ ((i : Int) < (tb.length : Int)) := by omega
            rw [rowsBad_end hge] at hb
            rw [← hb] at hv
            simp only [Bool.false_eq_true, if_false] at hv
            repeat' (first
              | refine awp_seq_k fun K hK => ?_
              | ((first | refine awp_region_k (by kernel_rfl) fun R hR => ?_ | refine awp_draw mixed (by kernel_rfl) (by kernel_rfl) fun R hR => ?_); simp only [go_sem, s3, s6, sh', hz, hne])
              | ((first | (refine hR _ ?_; clear hR R) | refine awp_skip ?_ | refine awp_exit ?_ | refine awp_ret ?_); try simp only [thenA, inBlockA, reduceIte, reduceCtorEq, Nat.reduceEqDiff, if_false, if_true])
              | ((first | refine hK _ ?_ | (clear hK K; first | refine hK _ ?_ | (clear hK K; first | refine hK _ ?_ | (clear hK K; first | refine hK _ ?_ | (clear hK K; refine hK _ ?_))))); clear hK K)
              | refine awp_true rfl rfl ?_
              | refine awp_false rfl rfl ?_
              | refine awp_block ?_
              | refine And.intro (by first | omega | exact trivial | rfl | assumption | (apply map_sz; intro a; simp only [go_sem]; done) | ((and_intros <;> first | omega | exact trivial | rfl | assumption | (apply map_sz; intro a; simp only [go_sem]; done) | fail); done) | fail) ?_
              | fail)
            refine awp_loop (fun σ => ∃ i : Nat, σ.t 3 = .ptr (k, 1) 0 ∧ σ.t 7 = iA i ∧ σ.h (k, 1) = some (.cells 39 [iA sz, .d (.sl (tb.map gI))]) ∧ Fr k h0 σ.h ∧ k < σ.k ∧ i ≤ tb.length ∧ ((tb.drop i).any fun r => r.any (outOf sz)) = tb.any fun r => r.any (outOf sz)) (fun σ => tb.length - (intOf' (σ.t 7)).toNat) ?_ ?_
            · refine ⟨0, ?_⟩
              simp only [go_sem, List.drop_zero, s3, sh']
              and_intros; all_goals try (first | rfl | omega | assumption | ((repeat (first | exact Fr.rfl' _ _ | assumption | refine Fr.updk ?_ (by omega) _)); done))
            · clear s2 s3 s6 sh sh' hF hk hi hne hge hz hb
              rintro τ ⟨i, s3, s7, sh', hF, hk, hi, hb⟩
              have hne := ltne hk
              rcases Nat.lt_or_ge i tb.length with hlt | hge
              · have hz : (i : Int) < (tb.length : Int) := by omega
                have e1 : (tb.map gI).getD i default = gI tb[i] := nth_map gI hlt _
                rw [List.drop_eq_getElem_cons hlt, List.any_cons] at hb
                have hrl := hr _ (List.getElem_mem hlt)
                repeat' (first
                  | refine awp_seq_k fun K hK => ?_
                  | ((first | refine awp_region_k (by kernel_rfl) fun R hR => ?_ | refine awp_draw mixed (by kernel_rfl) (by kernel_rfl) fun R hR => ?_); simp only [go_sem, s3, s7, sh', hz, e1, hne, Int.toNat_natCast])
                  | ((first | (refine hR _ ?_; clear hR R) | refine awp_skip ?_ | refine awp_exit ?_ | refine awp_ret ?_); try simp only [thenA, inBlockA, reduceIte, reduceCtorEq, Nat.reduceEqDiff, if_false, if_true])
                  | ((first | refine hK _ ?_ | (clear hK K; first | refine hK _ ?_ | (clear hK K; first | refine hK _ ?_ | (clear hK K; first | refine hK _ ?_ | (clear hK K; refine hK _ ?_))))); clear hK K)
                  | refine awp_true rfl rfl ?_
                  | refine awp_false rfl rfl ?_
                  | refine awp_block ?_
                  | refine And.intro (by first | omega | exact trivial | rfl | assumption | (apply map_sz; intro a; simp only [go_sem]; done) | ((and_intros <;> first | omega | exact trivial | rfl | assumption | (apply map_sz; intro a; simp only [go_sem]; done) | fail); done) | fail) ?_
                  | fail)
                refine awp_loop (fun σ => ∃ j : Nat, σ.t 3 = .ptr (k, 1) 0 ∧ σ.t 7 = iA i ∧ σ.t 8 = iA j ∧ σ.h (k, 1) = some (.cells 39 [iA sz, .d (.sl (tb.map gI))]) ∧ Fr k h0 σ.h ∧ k < σ.k ∧ j ≤ tb[i].length ∧ ((tb[i].drop j).any (outOf sz)) = tb[i].any (outOf sz)) (fun σ => tb[i].length - (intOf' (σ.t 8)).toNat) ?_ ?_
                · refine ⟨0, ?_⟩
                  simp only [go_sem, List.drop_zero, s3, s7, sh']
                  and_intros; all_goals try (first | rfl | omega | assumption | ((repeat (first | exact Fr.rfl' _ _ | assumption | refine Fr.updk ?_ (by omega) _)); done))
                · rintro υ ⟨j, u3, u7, u8, uh', uF, uk, uj, ub⟩
                  have hne' := ltne uk
                  rcases Nat.lt_or_ge j tb[i].length with hlt' | hge'
                  · have hz' : (j : Int) < (tb[i].length : Int) := by omega
                    have e2 : (tb[i].map iD).getD j default = iD tb[i][j] := nth_map iD hlt' _
                    rw [List.drop_eq_getElem_cons hlt', List.any_cons] at ub
                    generalize tb[i][j] = x at *
                    have hbx : btw x 0 (sz - 1) = !outOf sz x := by unfold btw outOf; rw [Bool.eq_iff_iff]; simp; omega
                    cases hc : outOf sz x with
                    | true =>
                      rw [hc, Bool.true_or] at ub
                      rw [← ub, Bool.true_or] at hb
                      repeat' (first
                        | refine awp_seq_k fun K hK => ?_
                        | ((first | refine awp_region_k (by kernel_rfl) fun R hR => ?_ | refine awp_draw mixed (by kernel_rfl) (by kernel_rfl) fun R hR => ?_); simp only [go_sem, u3, u7, u8, uh', hz, hz', e1, e2, hne', hbx, hc, Int.toNat_natCast])
                        | ((first | (refine hR _ ?_; clear hR R) | refine awp_skip ?_ | refine awp_exit ?_ | refine awp_ret ?_); try simp only [thenA, inBlockA, reduceIte, reduceCtorEq, Nat.reduceEqDiff, if_false, if_true])
                        | ((first | refine hK _ ?_ | (clear hK K; first | refine hK _ ?_ | (clear hK K; first | refine hK _ ?_ | (clear hK K; first | refine hK _ ?_ | (clear hK K; refine hK _ ?_))))); clear hK K)
                        | refine awp_true rfl rfl ?_
                        | refine awp_false rfl rfl ?_
                        | refine awp_block ?_
                        | ((first | refine CallK.pure (enter80) (between_tri x 0 (sz - 1)) ?_ ?_ | refine CallD.pure (enter80) (between_tri x 0 (sz - 1)) ?_ ?_); (focus first | ((repeat (first | exact trivial | refine ⟨(by first | exact Or.inl rfl | exact Or.inr rfl), ?_⟩)); done) | (simp only [coL, AV.dat, true_or, or_true, AV.d.injEq, go_sem]; done)); simp only [go_sem, u3, u7, u8, uh', hz, hz', e1, e2, hne', hbx, hc, Int.toNat_natCast])
                        | refine And.intro (by first | omega | exact trivial | rfl | assumption | (apply map_sz; intro a; simp only [go_sem]; done) | ((and_intros <;> first | omega | exact trivial | rfl | assumption | (apply map_sz; intro a; simp only [go_sem]; done) | fail); done) | fail) ?_
                        | fail)
                      first | refine ret_pure (by simp only [Try.results20, resOkL, resOk, Try.ntmps20, List.toList_toArray]; first | decide | (simp only [go_sem]; done) | (simp only [go_sem]; and_intros <;> first | omega | rfl | decide)) ?_ (by repeat (first | exact Fr.rfl' _ _ | assumption | refine Fr.updk ?_ (by omega) _)) | refine ret_ro (by simp only [Try.results20, resOkL, resOk, Try.ntmps20, List.toList_toArray]; first | decide | (simp only [go_sem]; done) | (simp only [go_sem]; and_intros <;> first | omega | rfl | decide)) ?_ (by repeat (first | exact Fr.rfl' _ _ | assumption | refine Fr.updk ?_ (by omega) _))
                      simp only [resA, resV, Try.results20, go_sem]
                      all_goals try (first | exact Co.t2 (.dat rfl) (.dat rfl) | exact Co.t3 (.dat rfl) (.dat rfl) (.dat rfl))
                      exact co_i (by rw [hv, ← hb]; rfl)
                    | false =>
                      rw [hc, Bool.false_or] at ub
                      repeat' (first
                        | refine awp_seq_k fun K hK => ?_
                        | ((first | refine awp_region_k (by kernel_rfl) fun R hR => ?_ | refine awp_draw mixed (by kernel_rfl) (by kernel_rfl) fun R hR => ?_); simp only [go_sem, u3, u7, u8, uh', hz, hz', e1, e2, hne', hbx, hc, Int.toNat_natCast])
                        | ((first | (refine hR _ ?_; clear hR R) | refine awp_skip ?_ | refine awp_exit ?_ | refine awp_ret ?_); try simp only [thenA, inBlockA, reduceIte, reduceCtorEq, Nat.reduceEqDiff, if_false, if_true])
                        | ((first | refine hK _ ?_ | (clear hK K; first | refine hK _ ?_ | (clear hK K; first | refine hK _ ?_ | (clear hK K; first | refine hK _ ?_ | (clear hK K; refine hK _ ?_))))); clear hK K)
                        | refine awp_true rfl rfl ?_
                        | refine awp_false rfl rfl ?_
                        | refine awp_block ?_
                        | ((first | refine CallK.pure (enter80) (between_tri x 0 (sz - 1)) ?_ ?_ | refine CallD.pure (enter80) (between_tri x 0 (sz - 1)) ?_ ?_); (focus first | ((repeat (first | exact trivial | refine ⟨(by first | exact Or.inl rfl | exact Or.inr rfl), ?_⟩)); done) | (simp only [coL, AV.dat, true_or, or_true, AV.d.injEq, go_sem]; done)); simp only [go_sem, u3, u7, u8, uh', hz, hz', e1, e2, hne', hbx, hc, Int.toNat_natCast])
                        | refine And.intro (by first | omega | exact trivial | rfl | assumption | (apply map_sz; intro a; simp only [go_sem]; done) | ((and_intros <;> first | omega | exact trivial | rfl | assumption | (apply map_sz; intro a; simp only [go_sem]; done) | fail); done) | fail) ?_
                        | fail)
                      refine ⟨⟨j + 1, ?_⟩, ?_⟩
                      rotate_left
                      · simp only [go_sem, u3, u7, u8, uh', hne']; omega
                      simp only [go_sem, u3, u7, u8, uh', hne']
                      and_intros; all_goals try (first | rfl | omega | assumption | ((repeat (first | exact Fr.rfl' _ _ | assumption | refine Fr.updk ?_ (by omega) _)); done))
                  · have hz' : ¬ ((j : Int) < (tb[i].length : Int)) := by omega
                    rw [List.drop_eq_nil_of_le hge', List.any_nil] at ub
                    rw [← ub, Bool.false_or] at hb
                    repeat' (first
                      | refine awp_seq_k fun K hK => ?_
                      | ((first | refine awp_region_k (by kernel_rfl) fun R hR => ?_ | refine awp_draw mixed (by kernel_rfl) (by kernel_rfl) fun R hR => ?_); simp only [go_sem, u3, u7, u8, uh', hz, hz', e1, hne', Int.toNat_natCast])
                      | ((first | (refine hR _ ?_; clear hR R) | refine awp_skip ?_ | refine awp_exit ?_ | refine awp_ret ?_); try simp only [thenA, inBlockA, reduceIte, reduceCtorEq, Nat.reduceEqDiff, if_false, if_true])
                      | ((first | refine hK _ ?_ | (clear hK K; first | refine hK _ ?_ | (clear hK K; first | refine hK _ ?_ | (clear hK K; first | refine hK _ ?_ | (clear hK K; refine hK _ ?_))))); clear hK K)
                      | refine awp_true rfl rfl ?_
                      | refine awp_false rfl rfl ?_
                      | refine awp_block ?_
                      | refine And.intro (by first | omega | exact trivial | rfl | assumption | (apply map_sz; intro a; simp only [go_sem]; done) | ((and_intros <;> first | omega | exact trivial | rfl | assumption | (apply map_sz; intro a; simp only [go_sem]; done) | fail); done) | fail) ?_
                      | fail)
                    refine ⟨⟨i + 1, ?_⟩, ?_⟩
                    rotate_left
                    · simp only [go_sem, u3, u7, uh', hne', s7]; omega
                    simp only [go_sem, u3, u7, uh', hne', s7]
                    and_intros; all_goals try (first | rfl | omega | assumption | ((repeat (first | exact Fr.rfl' _ _ | assumption | refine Fr.updk ?_ (by omega) _)); done))
              · have hz : ¬ ((i : Int) < (tb.length : Int)) := by omega
                rw [List.drop_eq_nil_of_le hge, List.any_nil] at hb
                rw [← hb] at hv
                repeat' (first
                  | refine awp_seq_k fun K hK => ?_
                  | ((first | refine awp_region_k (by kernel_rfl) fun R hR => ?_ | refine awp_draw mixed (by kernel_rfl) (by kernel_rfl) fun R hR => ?_); simp only [go_sem, s3, s7, sh', hz, hne])
                  | ((first | (refine hR _ ?_; clear hR R) | refine awp_skip ?_ | refine awp_exit ?_ | refine awp_ret ?_); try simp only [thenA, inBlockA, reduceIte, reduceCtorEq, Nat.reduceEqDiff, if_false, if_true])
                  | ((first | refine hK _ ?_ | (clear hK K; first | refine hK _ ?_ | (clear hK K; first | refine hK _ ?_ | (clear hK K; first | refine hK _ ?_ | (clear hK K; refine hK _ ?_))))); clear hK K)
                  | refine awp_true rfl rfl ?_
                  | refine awp_false rfl rfl ?_
                  | refine awp_block ?_
                  | refine And.intro (by first | omega | exact trivial | rfl | assumption | (apply map_sz; intro a; simp only [go_sem]; done) | ((and_intros <;> first | omega | exact trivial | rfl | assumption | (apply map_sz; intro a; simp only [go_sem]; done) | fail); done) | fail) ?_
                  | fail)
                first | refine ret_pure (by simp only [Try.results20, resOkL, resOk, Try.ntmps20, List.toList_toArray]; first | decide | (simp only [go_sem]; done) | (simp only [go_sem]; and_intros <;> first | omega | rfl | decide)) ?_ (by repeat (first | exact Fr.rfl' _ _ | assumption | refine Fr.updk ?_ (by omega) _)) | refine ret_ro (by simp only [Try.results20, resOkL, resOk, Try.ntmps20, List.toList_toArray]; first | decide | (simp only [go_sem]; done) | (simp only [go_sem]; and_intros <;> first | omega | rfl | decide)) ?_ (by repeat (first | exact Fr.rfl' _ _ | assumption | refine Fr.updk ?_ (by omega) _))
                simp only [resA, resV, Try.results20, go_sem]
                all_goals try (first | exact Co.t2 (.dat rfl) (.dat rfl) | exact Co.t3 (.dat rfl) (.dat rfl) (.dat rfl))
                exact co_i (by rw [hv]; rfl)
end Go.Proofs.Ytmeekpinkfpnhaa
