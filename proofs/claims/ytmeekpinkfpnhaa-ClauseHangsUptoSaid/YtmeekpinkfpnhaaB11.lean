/- superposeref.TidyOf. maps.Clone. clause.Covers, superposeref.CoversOf: what is plain. No program in sight. clause.covers, clause.Covers. FRSTH clause.Covers, clause.Subsumes. -/
import Derived.Test.YtmeekpinkfpnhaaB04
import Derived.Test.YtmeekpinkfpnhaaB06
import Derived.Test.YtmeekpinkfpnhaaB07
import Derived.Test.YtmeekpinkfpnhaaB09
import Derived.Test.YtmeekpinkfpnhaaB10
import Derived.Shelf.SlMaps.Clone
set_option linter.unusedSimpArgs false
set_option linter.unusedSectionVars false
set_option linter.unusedVariables false
set_option linter.unnecessarySimpa false
set_option linter.all false
namespace Go.Proofs.Ytmeekpinkfpnhaa
open Go.RowKit
theorem keepR_at {c : List Lt} {i : Nat} (hi : i < c.length) : keepR (c.take i) (c.drop i) = if dropB (c.take i) c[i] = true then keepR (c.take (i + 1)) (c.drop (i + 1)) else c[i] :: keepR (c.take (i + 1)) (c.drop (i + 1)) := by
  rw [List.drop_eq_getElem_cons hi, keepR, List.take_succ_eq_append_getElem hi]
theorem leaf_bd (v i : Int) : DV.st [iD v, iD i, iD 0, .sl []] = bdDV (v, .mk i 0 []) := rfl
theorem Small.keepR {c : List Lt} (h : Small c) : Small (Go.Proofs.Ytmeekpinkfpnhaa.keepR [] c) := by rw [← keep_nil]; exact h.keep
set_option maxHeartbeats 4000000 in
set_option maxRecDepth 20000 in
theorem tidyOf_tri (c : List Lt) (hc : Small c) : Tri Try.prog 32 [.d (clDV c)] (pure' (.d (clDV (tidyR c)))) := by
  have hcl := hc.len
  refine tri_enter Try.func32 rfl Try.ntmps32 (by simp only [List.length_cons, List.length_nil]; omega) fun w0 h0 k hrd hwr => ?_
  repeat' (first | refine awp_ghost (ghost_nil (i := 3) (e := 107) rfl) ?_ | refine awp_seq_k fun K hK => ?_ | ((first | refine awp_region_k (by kernel_rfl) fun R hR => ?_ | refine awp_draw mixed (by kernel_rfl) (by kernel_rfl) fun R hR => ?_); simp only [go_sem]) | ((first | (refine hR _ ?_; clear hR R) | refine awp_skip ?_ | refine awp_exit ?_ | refine awp_ret ?_); try simp only [thenA, inBlockA, reduceIte, reduceCtorEq, Nat.reduceEqDiff, if_false, if_true]) | ((first | refine hK _ ?_ | (clear hK K; first | refine hK _ ?_ | (clear hK K; first | refine hK _ ?_ | (clear hK K; first | refine hK _ ?_ | (clear hK K; refine hK _ ?_))))); clear hK K) | refine awp_true rfl rfl ?_ | refine awp_false rfl rfl ?_ | refine awp_block ?_ | refine And.intro (by first | ((repeat' first | omega | exact trivial | rfl | assumption | (intro a e; subst e; rfl) | exact map_sz fun a => (by simp only [go_sem]) | refine And.intro ?_ ?_); done) | fail) ?_ | fail)
  refine awp_loop (fun σ => ∃ (i : Nat) (o : List Lt), σ.t 0 = .d (clDV c) ∧ σ.t 3 = .own (k + 1 + 1, 0) (o.map ltDV) ∧ σ.t 4 = iA i ∧
    σ.h (k + 1 + 1, 0) = some (.perm 107 o.length) ∧ Fr k h0 σ.h ∧ k + 1 + 1 < σ.k ∧ i ≤ c.length ∧ o.length ≤ i ∧ o ++ keepR (c.take i) (c.drop i) = keepR [] c) (fun σ => c.length - (intOf' (σ.t 4)).toNat) ?_ ?_
  · refine ⟨0, [], ?_⟩
    simp only [go_sem, List.drop_zero, List.take_zero, List.map_nil]
    and_intros; all_goals try (first | rfl | omega | assumption | ((repeat (first | exact Fr.rfl' _ _ | assumption | refine Fr.updk ?_ (by omega) _)); done))
  · rintro σ ⟨i, o, s0, s3, s4, sh, hF, hk, hi, ho, hv⟩
    have hne2 := ltne hk
    rcases Nat.lt_or_ge i c.length with hlt | hge
    · have hz : (i : Int) < (c.length : Int) := by omega
      have e1 : (c.map ltDV).getD i default = ltDV c[i] := nth_map ltDV hlt _
      have etk : o.map ltDV ++ [ltDV c[i]] = (o ++ [c[i]]).map ltDV := by simp
      rw [keepR_at hlt] at hv
      have four : c[i].y = true ∨ (c[i].y = false ∧ same c[i].a c[i].b = true) ∨ (c[i].y = false ∧ same c[i].a c[i].b = false) := by
        cases c[i].y <;> cases same c[i].a c[i].b <;> simp
      rcases four with hy | ⟨hy, hs⟩ | ⟨hy, hs⟩
      · have hd0 : (!c[i].y && same c[i].a c[i].b) = false := by simp [hy]
        repeat' (first | refine awp_seq_k fun K hK => ?_ | ((first | refine awp_region_k (by kernel_rfl) fun R hR => ?_ | refine awp_draw mixed (by kernel_rfl) (by kernel_rfl) fun R hR => ?_); simp only [go_sem, s0, s3, s4, sh, hz, e1, hne2, hy, Int.toNat_natCast]) | ((first | (refine hR _ ?_; clear hR R) | refine awp_skip ?_ | refine awp_exit ?_ | refine awp_ret ?_); try simp only [thenA, inBlockA, reduceIte, reduceCtorEq, Nat.reduceEqDiff, if_false, if_true]) | ((first | refine hK _ ?_ | (clear hK K; first | refine hK _ ?_ | (clear hK K; first | refine hK _ ?_ | (clear hK K; first | refine hK _ ?_ | (clear hK K; refine hK _ ?_))))); clear hK K) | refine awp_true rfl rfl ?_ | refine awp_false rfl rfl ?_ | refine awp_block ?_ | ((first | refine CallK.pure (enter47) (sameR_tri c[i].a c[i].b) ?_ ?_ | refine CallD.pure (enter47) (sameR_tri c[i].a c[i].b) ?_ ?_); (focus first | ((repeat (first | exact trivial | refine ⟨(by first | exact Or.inl rfl | exact Or.inr rfl), ?_⟩)); done) | (simp only [coL, AV.dat, true_or, or_true, AV.d.injEq, go_sem]; done)); simp only [go_sem, s0, s3, s4, sh, hz, e1, hne2, hy, Int.toNat_natCast]) | refine And.intro (by first | ((repeat' first | omega | exact trivial | rfl | assumption | (intro a e; subst e; rfl) | exact map_sz fun a => (by simp only [go_sem]) | refine And.intro ?_ ?_); done) | fail) ?_ | fail)
        refine awp_loop (fun τ => ∃ (j : Nat) (cur : Bool), τ.t 0 = .d (clDV c) ∧ τ.t 3 = .own (k + 1 + 1, 0) (o.map ltDV) ∧ τ.t 4 = iA i ∧ τ.t 5 = bA cur ∧ τ.t 6 = iA j ∧
          τ.h (k + 1 + 1, 0) = some (.perm 107 o.length) ∧ Fr k h0 τ.h ∧ σ.k < τ.k ∧ j ≤ i ∧ (cur || ((c.take i).drop j).any fun x => x.y == c[i].y && sidesB x c[i]) = dropB (c.take i) c[i]) (fun τ => i - (intOf' (τ.t 6)).toNat) ?_ ?_
        · refine ⟨0, false, ?_⟩
          simp only [go_sem, s0, s3, s4, sh, hne2, List.drop_zero]
          and_intros; all_goals try (first | rfl | omega | assumption | ((repeat (first | exact Fr.rfl' _ _ | assumption | refine Fr.updk ?_ (by omega) _)); done))
          unfold dropB; rw [hd0]
          try simp only [Bool.false_or, Bool.true_or]
        · rintro τ ⟨j, cur, u0, u3, u4, u5, u6, uh, uF, uk, uj, uv⟩
          have r2 := ltne (show k + 1 + 1 < τ.k by omega)
          rcases Nat.lt_or_ge j i with jlt | jge
          · have jz : (j : Int) < (i : Int) := by omega
            have jc : j < c.length := by omega
            have jz2 : (j : Int) < (c.length : Int) := by omega
            have e2 : (c.map ltDV).getD j default = ltDV c[j] := nth_map ltDV jc _
            have jt : j < (c.take i).length := by rw [List.length_take]; omega
            rw [List.drop_eq_getElem_cons jt, List.any_cons, List.getElem_take] at uv
            cases cur with
            | true =>
              rw [Bool.true_or] at uv
              repeat' (first | refine awp_seq_k fun K hK => ?_ | ((first | refine awp_region_k (by kernel_rfl) fun R hR => ?_ | refine awp_draw mixed (by kernel_rfl) (by kernel_rfl) fun R hR => ?_); simp only [go_sem, u0, u3, u4, u5, u6, uh, jz, r2, Int.toNat_natCast]) | ((first | (refine hR _ ?_; clear hR R) | refine awp_skip ?_ | refine awp_exit ?_ | refine awp_ret ?_); try simp only [thenA, inBlockA, reduceIte, reduceCtorEq, Nat.reduceEqDiff, if_false, if_true]) | ((first | refine hK _ ?_ | (clear hK K; first | refine hK _ ?_ | (clear hK K; first | refine hK _ ?_ | (clear hK K; first | refine hK _ ?_ | (clear hK K; refine hK _ ?_))))); clear hK K) | refine awp_true rfl rfl ?_ | refine awp_false rfl rfl ?_ | refine awp_block ?_ | refine And.intro (by first | ((repeat' first | omega | exact trivial | rfl | assumption | (intro a e; subst e; rfl) | exact map_sz fun a => (by simp only [go_sem]) | refine And.intro ?_ ?_); done) | fail) ?_ | fail)
              refine ⟨⟨j + 1, true, ?_⟩, ?_⟩
              rotate_left
              · simp only [go_sem, u0, u3, u4, u5, u6, uh, r2]; omega
              simp only [go_sem, u0, u3, u4, u5, u6, uh, r2]
              and_intros; all_goals try (first | rfl | omega | assumption | ((repeat (first | exact Fr.rfl' _ _ | assumption | refine Fr.updk ?_ (by omega) _)); done))
              all_goals (rw [Bool.true_or]; exact uv)
            | false =>
              rw [Bool.false_or] at uv
              cases hyk : (c[j].y == c[i].y) with
              | false =>
                rw [hyk, Bool.false_and, Bool.false_or] at uv
                repeat' (first | refine awp_seq_k fun K hK => ?_ | ((first | refine awp_region_k (by kernel_rfl) fun R hR => ?_ | refine awp_draw mixed (by kernel_rfl) (by kernel_rfl) fun R hR => ?_); simp only [go_sem, u0, u3, u4, u5, u6, uh, hz, jz, jz2, e1, e2, hyk, r2, Int.toNat_natCast]) | ((first | (refine hR _ ?_; clear hR R) | refine awp_skip ?_ | refine awp_exit ?_ | refine awp_ret ?_); try simp only [thenA, inBlockA, reduceIte, reduceCtorEq, Nat.reduceEqDiff, if_false, if_true]) | ((first | refine hK _ ?_ | (clear hK K; first | refine hK _ ?_ | (clear hK K; first | refine hK _ ?_ | (clear hK K; first | refine hK _ ?_ | (clear hK K; refine hK _ ?_))))); clear hK K) | refine awp_true rfl rfl ?_ | refine awp_false rfl rfl ?_ | refine awp_block ?_ | refine And.intro (by first | ((repeat' first | omega | exact trivial | rfl | assumption | (intro a e; subst e; rfl) | exact map_sz fun a => (by simp only [go_sem]) | refine And.intro ?_ ?_); done) | fail) ?_ | fail)
                refine ⟨⟨j + 1, false, ?_⟩, ?_⟩
                rotate_left
                · simp only [go_sem, u0, u3, u4, u5, u6, uh, r2]; omega
                simp only [go_sem, u0, u3, u4, u5, u6, uh, r2]
                and_intros; all_goals try (first | rfl | omega | assumption | ((repeat (first | exact Fr.rfl' _ _ | assumption | refine Fr.updk ?_ (by omega) _)); done))
              | true =>
                rw [hyk, Bool.true_and] at uv
                have hss := sameSides_tri c[j] c[i]
                cases hsk : sidesB c[j] c[i] with
                | false =>
                  rw [hsk] at hss
                  rw [hsk, Bool.false_or] at uv
                  repeat' (first | refine awp_seq_k fun K hK => ?_ | ((first | refine awp_region_k (by kernel_rfl) fun R hR => ?_ | refine awp_draw mixed (by kernel_rfl) (by kernel_rfl) fun R hR => ?_); simp only [go_sem, u0, u3, u4, u5, u6, uh, hz, jz, jz2, e1, e2, hyk, r2, Int.toNat_natCast]) | ((first | (refine hR _ ?_; clear hR R) | refine awp_skip ?_ | refine awp_exit ?_ | refine awp_ret ?_); try simp only [thenA, inBlockA, reduceIte, reduceCtorEq, Nat.reduceEqDiff, if_false, if_true]) | ((first | refine hK _ ?_ | (clear hK K; first | refine hK _ ?_ | (clear hK K; first | refine hK _ ?_ | (clear hK K; first | refine hK _ ?_ | (clear hK K; refine hK _ ?_))))); clear hK K) | refine awp_true rfl rfl ?_ | refine awp_false rfl rfl ?_ | refine awp_block ?_ | ((first | refine CallK.pure (enter91) (hss) ?_ ?_ | refine CallD.pure (enter91) (hss) ?_ ?_); (focus first | ((repeat (first | exact trivial | refine ⟨(by first | exact Or.inl rfl | exact Or.inr rfl), ?_⟩)); done) | (simp only [coL, AV.dat, true_or, or_true, AV.d.injEq, go_sem]; done)); simp only [go_sem, u0, u3, u4, u5, u6, uh, hz, jz, jz2, e1, e2, hyk, r2, Int.toNat_natCast]) | refine And.intro (by first | ((repeat' first | omega | exact trivial | rfl | assumption | (intro a e; subst e; rfl) | exact map_sz fun a => (by simp only [go_sem]) | refine And.intro ?_ ?_); done) | fail) ?_ | fail)
                  refine ⟨⟨j + 1, false, ?_⟩, ?_⟩
                  rotate_left
                  · simp only [go_sem, u0, u3, u4, u5, u6, uh, r2]; omega
                  simp only [go_sem, u0, u3, u4, u5, u6, uh, r2]
                  and_intros; all_goals try (first | rfl | omega | assumption | ((repeat (first | exact Fr.rfl' _ _ | assumption | refine Fr.updk ?_ (by omega) _)); done))
                | true =>
                  rw [hsk] at hss
                  rw [hsk, Bool.true_or] at uv
                  repeat' (first | refine awp_seq_k fun K hK => ?_ | ((first | refine awp_region_k (by kernel_rfl) fun R hR => ?_ | refine awp_draw mixed (by kernel_rfl) (by kernel_rfl) fun R hR => ?_); simp only [go_sem, u0, u3, u4, u5, u6, uh, hz, jz, jz2, e1, e2, hyk, r2, Int.toNat_natCast]) | ((first | (refine hR _ ?_; clear hR R) | refine awp_skip ?_ | refine awp_exit ?_ | refine awp_ret ?_); try simp only [thenA, inBlockA, reduceIte, reduceCtorEq, Nat.reduceEqDiff, if_false, if_true]) | ((first | refine hK _ ?_ | (clear hK K; first | refine hK _ ?_ | (clear hK K; first | refine hK _ ?_ | (clear hK K; first | refine hK _ ?_ | (clear hK K; refine hK _ ?_))))); clear hK K) | refine awp_true rfl rfl ?_ | refine awp_false rfl rfl ?_ | refine awp_block ?_ | ((first | refine CallK.pure (enter91) (hss) ?_ ?_ | refine CallD.pure (enter91) (hss) ?_ ?_); (focus first | ((repeat (first | exact trivial | refine ⟨(by first | exact Or.inl rfl | exact Or.inr rfl), ?_⟩)); done) | (simp only [coL, AV.dat, true_or, or_true, AV.d.injEq, go_sem]; done)); simp only [go_sem, u0, u3, u4, u5, u6, uh, hz, jz, jz2, e1, e2, hyk, r2, Int.toNat_natCast]) | refine And.intro (by first | ((repeat' first | omega | exact trivial | rfl | assumption | (intro a e; subst e; rfl) | exact map_sz fun a => (by simp only [go_sem]) | refine And.intro ?_ ?_); done) | fail) ?_ | fail)
                  refine ⟨⟨j + 1, true, ?_⟩, ?_⟩
                  rotate_left
                  · simp only [go_sem, u0, u3, u4, u5, u6, uh, r2]; omega
                  simp only [go_sem, u0, u3, u4, u5, u6, uh, r2]
                  and_intros; all_goals try (first | rfl | omega | assumption | ((repeat (first | exact Fr.rfl' _ _ | assumption | refine Fr.updk ?_ (by omega) _)); done))
                  all_goals (rw [Bool.true_or]; exact uv)
          · have jz : ¬ ((j : Int) < (i : Int)) := by omega
            obtain rfl : j = i := by omega
            rw [List.drop_eq_nil_of_le (by rw [List.length_take]; omega), List.any_nil, Bool.or_false] at uv
            rw [← uv] at hv
            cases cur with
            | true =>
              rw [if_pos rfl] at hv
              repeat' (first | refine awp_seq_k fun K hK => ?_ | ((first | refine awp_region_k (by kernel_rfl) fun R hR => ?_ | refine awp_draw mixed (by kernel_rfl) (by kernel_rfl) fun R hR => ?_); simp only [go_sem, u0, u3, u4, u5, u6, uh, jz, r2, Int.toNat_natCast]) | ((first | (refine hR _ ?_; clear hR R) | refine awp_skip ?_ | refine awp_exit ?_ | refine awp_ret ?_); try simp only [thenA, inBlockA, reduceIte, reduceCtorEq, Nat.reduceEqDiff, if_false, if_true]) | ((first | refine hK _ ?_ | (clear hK K; first | refine hK _ ?_ | (clear hK K; first | refine hK _ ?_ | (clear hK K; first | refine hK _ ?_ | (clear hK K; refine hK _ ?_))))); clear hK K) | refine awp_true rfl rfl ?_ | refine awp_false rfl rfl ?_ | refine awp_block ?_ | refine And.intro (by first | ((repeat' first | omega | exact trivial | rfl | assumption | (intro a e; subst e; rfl) | exact map_sz fun a => (by simp only [go_sem]) | refine And.intro ?_ ?_); done) | fail) ?_ | fail)
              refine ⟨⟨j + 1, o, ?_⟩, ?_⟩
              rotate_left
              · simp only [go_sem, u0, u3, u4, u5, u6, uh, r2, s4]; omega
              simp only [go_sem, u0, u3, u4, u5, u6, uh, r2, s4]
              and_intros; all_goals try (first | rfl | omega | assumption | ((repeat (first | exact Fr.rfl' _ _ | assumption | refine Fr.updk ?_ (by omega) _)); done))
            | false =>
              rw [if_neg (by simp)] at hv
              repeat' (first | refine awp_seq_k fun K hK => ?_ | ((first | refine awp_region_k (by kernel_rfl) fun R hR => ?_ | refine awp_draw mixed (by kernel_rfl) (by kernel_rfl) fun R hR => ?_); simp only [go_sem, u0, u3, u4, u5, u6, uh, hz, jz, e1, r2, List.length_map, Int.toNat_natCast]) | ((first | (refine hR _ ?_; clear hR R) | refine awp_skip ?_ | refine awp_exit ?_ | refine awp_ret ?_); try simp only [thenA, inBlockA, reduceIte, reduceCtorEq, Nat.reduceEqDiff, if_false, if_true]) | ((first | refine hK _ ?_ | (clear hK K; first | refine hK _ ?_ | (clear hK K; first | refine hK _ ?_ | (clear hK K; first | refine hK _ ?_ | (clear hK K; refine hK _ ?_))))); clear hK K) | refine awp_true rfl rfl ?_ | refine awp_false rfl rfl ?_ | refine awp_block ?_ | refine And.intro (by first | ((repeat' first | omega | exact trivial | rfl | assumption | (intro a e; subst e; rfl) | exact map_sz fun a => (by simp only [go_sem]) | refine And.intro ?_ ?_); done) | fail) ?_ | fail)
              refine ⟨⟨j + 1, o ++ [c[j]], ?_⟩, ?_⟩
              rotate_left
              · simp only [go_sem, u0, u3, u4, u5, u6, uh, r2, s4, etk, List.length_map, List.append_assoc, List.cons_append, List.nil_append]; omega
              simp only [go_sem, u0, u3, u4, u5, u6, uh, r2, s4, etk, List.length_map, List.append_assoc, List.cons_append, List.nil_append]
              and_intros; all_goals try (first | rfl | omega | assumption | ((repeat (first | exact Fr.rfl' _ _ | assumption | refine Fr.updk ?_ (by omega) _)); done))
              all_goals (simp only [List.length_append, List.length_singleton]; omega)
      · have hd0 : (!c[i].y && same c[i].a c[i].b) = true := by simp [hy, hs]
        repeat' (first | refine awp_seq_k fun K hK => ?_ | ((first | refine awp_region_k (by kernel_rfl) fun R hR => ?_ | refine awp_draw mixed (by kernel_rfl) (by kernel_rfl) fun R hR => ?_); simp only [go_sem, s0, s3, s4, sh, hz, e1, hne2, hy, hs, Int.toNat_natCast]) | ((first | (refine hR _ ?_; clear hR R) | refine awp_skip ?_ | refine awp_exit ?_ | refine awp_ret ?_); try simp only [thenA, inBlockA, reduceIte, reduceCtorEq, Nat.reduceEqDiff, if_false, if_true]) | ((first | refine hK _ ?_ | (clear hK K; first | refine hK _ ?_ | (clear hK K; first | refine hK _ ?_ | (clear hK K; first | refine hK _ ?_ | (clear hK K; refine hK _ ?_))))); clear hK K) | refine awp_true rfl rfl ?_ | refine awp_false rfl rfl ?_ | refine awp_block ?_ | ((first | refine CallK.pure (enter47) (sameR_tri c[i].a c[i].b) ?_ ?_ | refine CallD.pure (enter47) (sameR_tri c[i].a c[i].b) ?_ ?_); (focus first | ((repeat (first | exact trivial | refine ⟨(by first | exact Or.inl rfl | exact Or.inr rfl), ?_⟩)); done) | (simp only [coL, AV.dat, true_or, or_true, AV.d.injEq, go_sem]; done)); simp only [go_sem, s0, s3, s4, sh, hz, e1, hne2, hy, hs, Int.toNat_natCast]) | refine And.intro (by first | ((repeat' first | omega | exact trivial | rfl | assumption | (intro a e; subst e; rfl) | exact map_sz fun a => (by simp only [go_sem]) | refine And.intro ?_ ?_); done) | fail) ?_ | fail)
        refine awp_loop (fun τ => ∃ (j : Nat) (cur : Bool), τ.t 0 = .d (clDV c) ∧ τ.t 3 = .own (k + 1 + 1, 0) (o.map ltDV) ∧ τ.t 4 = iA i ∧ τ.t 5 = bA cur ∧ τ.t 6 = iA j ∧
          τ.h (k + 1 + 1, 0) = some (.perm 107 o.length) ∧ Fr k h0 τ.h ∧ σ.k < τ.k ∧ j ≤ i ∧ (cur || ((c.take i).drop j).any fun x => x.y == c[i].y && sidesB x c[i]) = dropB (c.take i) c[i]) (fun τ => i - (intOf' (τ.t 6)).toNat) ?_ ?_
        · refine ⟨0, true, ?_⟩
          simp only [go_sem, s0, s3, s4, sh, hne2, List.drop_zero]
          and_intros; all_goals try (first | rfl | omega | assumption | ((repeat (first | exact Fr.rfl' _ _ | assumption | refine Fr.updk ?_ (by omega) _)); done))
          unfold dropB; rw [hd0]
          try simp only [Bool.false_or, Bool.true_or]
        · rintro τ ⟨j, cur, u0, u3, u4, u5, u6, uh, uF, uk, uj, uv⟩
          have r2 := ltne (show k + 1 + 1 < τ.k by omega)
          rcases Nat.lt_or_ge j i with jlt | jge
          · have jz : (j : Int) < (i : Int) := by omega
            have jc : j < c.length := by omega
            have jz2 : (j : Int) < (c.length : Int) := by omega
            have e2 : (c.map ltDV).getD j default = ltDV c[j] := nth_map ltDV jc _
            have jt : j < (c.take i).length := by rw [List.length_take]; omega
            rw [List.drop_eq_getElem_cons jt, List.any_cons, List.getElem_take] at uv
            cases cur with
            | true =>
              rw [Bool.true_or] at uv
              repeat' (first | refine awp_seq_k fun K hK => ?_ | ((first | refine awp_region_k (by kernel_rfl) fun R hR => ?_ | refine awp_draw mixed (by kernel_rfl) (by kernel_rfl) fun R hR => ?_); simp only [go_sem, u0, u3, u4, u5, u6, uh, jz, r2, Int.toNat_natCast]) | ((first | (refine hR _ ?_; clear hR R) | refine awp_skip ?_ | refine awp_exit ?_ | refine awp_ret ?_); try simp only [thenA, inBlockA, reduceIte, reduceCtorEq, Nat.reduceEqDiff, if_false, if_true]) | ((first | refine hK _ ?_ | (clear hK K; first | refine hK _ ?_ | (clear hK K; first | refine hK _ ?_ | (clear hK K; first | refine hK _ ?_ | (clear hK K; refine hK _ ?_))))); clear hK K) | refine awp_true rfl rfl ?_ | refine awp_false rfl rfl ?_ | refine awp_block ?_ | refine And.intro (by first | ((repeat' first | omega | exact trivial | rfl | assumption | (intro a e; subst e; rfl) | exact map_sz fun a => (by simp only [go_sem]) | refine And.intro ?_ ?_); done) | fail) ?_ | fail)
              refine ⟨⟨j + 1, true, ?_⟩, ?_⟩
              rotate_left
              · simp only [go_sem, u0, u3, u4, u5, u6, uh, r2]; omega
              simp only [go_sem, u0, u3, u4, u5, u6, uh, r2]
              and_intros; all_goals try (first | rfl | omega | assumption | ((repeat (first | exact Fr.rfl' _ _ | assumption | refine Fr.updk ?_ (by omega) _)); done))
              all_goals (rw [Bool.true_or]; exact uv)
            | false =>
              rw [Bool.false_or] at uv
              cases hyk : (c[j].y == c[i].y) with
              | false =>
                rw [hyk, Bool.false_and, Bool.false_or] at uv
                repeat' (first | refine awp_seq_k fun K hK => ?_ | ((first | refine awp_region_k (by kernel_rfl) fun R hR => ?_ | refine awp_draw mixed (by kernel_rfl) (by kernel_rfl) fun R hR => ?_); simp only [go_sem, u0, u3, u4, u5, u6, uh, hz, jz, jz2, e1, e2, hyk, r2, Int.toNat_natCast]) | ((first | (refine hR _ ?_; clear hR R) | refine awp_skip ?_ | refine awp_exit ?_ | refine awp_ret ?_); try simp only [thenA, inBlockA, reduceIte, reduceCtorEq, Nat.reduceEqDiff, if_false, if_true]) | ((first | refine hK _ ?_ | (clear hK K; first | refine hK _ ?_ | (clear hK K; first | refine hK _ ?_ | (clear hK K; first | refine hK _ ?_ | (clear hK K; refine hK _ ?_))))); clear hK K) | refine awp_true rfl rfl ?_ | refine awp_false rfl rfl ?_ | refine awp_block ?_ | refine And.intro (by first | ((repeat' first | omega | exact trivial | rfl | assumption | (intro a e; subst e; rfl) | exact map_sz fun a => (by simp only [go_sem]) | refine And.intro ?_ ?_); done) | fail) ?_ | fail)
                refine ⟨⟨j + 1, false, ?_⟩, ?_⟩
                rotate_left
                · simp only [go_sem, u0, u3, u4, u5, u6, uh, r2]; omega
                simp only [go_sem, u0, u3, u4, u5, u6, uh, r2]
                and_intros; all_goals try (first | rfl | omega | assumption | ((repeat (first | exact Fr.rfl' _ _ | assumption | refine Fr.updk ?_ (by omega) _)); done))
              | true =>
                rw [hyk, Bool.true_and] at uv
                have hss := sameSides_tri c[j] c[i]
                cases hsk : sidesB c[j] c[i] with
                | false =>
                  rw [hsk] at hss
                  rw [hsk, Bool.false_or] at uv
                  repeat' (first | refine awp_seq_k fun K hK => ?_ | ((first | refine awp_region_k (by kernel_rfl) fun R hR => ?_ | refine awp_draw mixed (by kernel_rfl) (by kernel_rfl) fun R hR => ?_); simp only [go_sem, u0, u3, u4, u5, u6, uh, hz, jz, jz2, e1, e2, hyk, r2, Int.toNat_natCast]) | ((first | (refine hR _ ?_; clear hR R) | refine awp_skip ?_ | refine awp_exit ?_ | refine awp_ret ?_); try simp only [thenA, inBlockA, reduceIte, reduceCtorEq, Nat.reduceEqDiff, if_false, if_true]) | ((first | refine hK _ ?_ | (clear hK K; first | refine hK _ ?_ | (clear hK K; first | refine hK _ ?_ | (clear hK K; first | refine hK _ ?_ | (clear hK K; refine hK _ ?_))))); clear hK K) | refine awp_true rfl rfl ?_ | refine awp_false rfl rfl ?_ | refine awp_block ?_ | ((first | refine CallK.pure (enter91) (hss) ?_ ?_ | refine CallD.pure (enter91) (hss) ?_ ?_); (focus first | ((repeat (first | exact trivial | refine ⟨(by first | exact Or.inl rfl | exact Or.inr rfl), ?_⟩)); done) | (simp only [coL, AV.dat, true_or, or_true, AV.d.injEq, go_sem]; done)); simp only [go_sem, u0, u3, u4, u5, u6, uh, hz, jz, jz2, e1, e2, hyk, r2, Int.toNat_natCast]) | refine And.intro (by first | ((repeat' first | omega | exact trivial | rfl | assumption | (intro a e; subst e; rfl) | exact map_sz fun a => (by simp only [go_sem]) | refine And.intro ?_ ?_); done) | fail) ?_ | fail)
                  refine ⟨⟨j + 1, false, ?_⟩, ?_⟩
                  rotate_left
                  · simp only [go_sem, u0, u3, u4, u5, u6, uh, r2]; omega
                  simp only [go_sem, u0, u3, u4, u5, u6, uh, r2]
                  and_intros; all_goals try (first | rfl | omega | assumption | ((repeat (first | exact Fr.rfl' _ _ | assumption | refine Fr.updk ?_ (by omega) _)); done))
                | true =>
                  rw [hsk] at hss
                  rw [hsk, Bool.true_or] at uv
                  repeat' (first | refine awp_seq_k fun K hK => ?_ | ((first | refine awp_region_k (by kernel_rfl) fun R hR => ?_ | refine awp_draw mixed (by kernel_rfl) (by kernel_rfl) fun R hR => ?_); simp only [go_sem, u0, u3, u4, u5, u6, uh, hz, jz, jz2, e1, e2, hyk, r2, Int.toNat_natCast]) | ((first | (refine hR _ ?_; clear hR R) | refine awp_skip ?_ | refine awp_exit ?_ | refine awp_ret ?_); try simp only [thenA, inBlockA, reduceIte, reduceCtorEq, Nat.reduceEqDiff, if_false, if_true]) | ((first | refine hK _ ?_ | (clear hK K; first | refine hK _ ?_ | (clear hK K; first | refine hK _ ?_ | (clear hK K; first | refine hK _ ?_ | (clear hK K; refine hK _ ?_))))); clear hK K) | refine awp_true rfl rfl ?_ | refine awp_false rfl rfl ?_ | refine awp_block ?_ | ((first | refine CallK.pure (enter91) (hss) ?_ ?_ | refine CallD.pure (enter91) (hss) ?_ ?_); (focus first | ((repeat (first | exact trivial | refine ⟨(by first | exact Or.inl rfl | exact Or.inr rfl), ?_⟩)); done) | (simp only [coL, AV.dat, true_or, or_true, AV.d.injEq, go_sem]; done)); simp only [go_sem, u0, u3, u4, u5, u6, uh, hz, jz, jz2, e1, e2, hyk, r2, Int.toNat_natCast]) | refine And.intro (by first | ((repeat' first | omega | exact trivial | rfl | assumption | (intro a e; subst e; rfl) | exact map_sz fun a => (by simp only [go_sem]) | refine And.intro ?_ ?_); done) | fail) ?_ | fail)
                  refine ⟨⟨j + 1, true, ?_⟩, ?_⟩
                  rotate_left
                  · simp only [go_sem, u0, u3, u4, u5, u6, uh, r2]; omega
                  simp only [go_sem, u0, u3, u4, u5, u6, uh, r2]
                  and_intros; all_goals try (first | rfl | omega | assumption | ((repeat (first | exact Fr.rfl' _ _ | assumption | refine Fr.updk ?_ (by omega) _)); done))
                  all_goals (rw [Bool.true_or]; exact uv)
          · have jz : ¬ ((j : Int) < (i : Int)) := by omega
            obtain rfl : j = i := by omega
            rw [List.drop_eq_nil_of_le (by rw [List.length_take]; omega), List.any_nil, Bool.or_false] at uv
            rw [← uv] at hv
            cases cur with
            | true =>
              rw [if_pos rfl] at hv
              repeat' (first | refine awp_seq_k fun K hK => ?_ | ((first | refine awp_region_k (by kernel_rfl) fun R hR => ?_ | refine awp_draw mixed (by kernel_rfl) (by kernel_rfl) fun R hR => ?_); simp only [go_sem, u0, u3, u4, u5, u6, uh, jz, r2, Int.toNat_natCast]) | ((first | (refine hR _ ?_; clear hR R) | refine awp_skip ?_ | refine awp_exit ?_ | refine awp_ret ?_); try simp only [thenA, inBlockA, reduceIte, reduceCtorEq, Nat.reduceEqDiff, if_false, if_true]) | ((first | refine hK _ ?_ | (clear hK K; first | refine hK _ ?_ | (clear hK K; first | refine hK _ ?_ | (clear hK K; first | refine hK _ ?_ | (clear hK K; refine hK _ ?_))))); clear hK K) | refine awp_true rfl rfl ?_ | refine awp_false rfl rfl ?_ | refine awp_block ?_ | refine And.intro (by first | ((repeat' first | omega | exact trivial | rfl | assumption | (intro a e; subst e; rfl) | exact map_sz fun a => (by simp only [go_sem]) | refine And.intro ?_ ?_); done) | fail) ?_ | fail)
              refine ⟨⟨j + 1, o, ?_⟩, ?_⟩
              rotate_left
              · simp only [go_sem, u0, u3, u4, u5, u6, uh, r2, s4]; omega
              simp only [go_sem, u0, u3, u4, u5, u6, uh, r2, s4]
              and_intros; all_goals try (first | rfl | omega | assumption | ((repeat (first | exact Fr.rfl' _ _ | assumption | refine Fr.updk ?_ (by omega) _)); done))
            | false =>
              rw [if_neg (by simp)] at hv
              repeat' (first | refine awp_seq_k fun K hK => ?_ | ((first | refine awp_region_k (by kernel_rfl) fun R hR => ?_ | refine awp_draw mixed (by kernel_rfl) (by kernel_rfl) fun R hR => ?_); simp only [go_sem, u0, u3, u4, u5, u6, uh, hz, jz, e1, r2, List.length_map, Int.toNat_natCast]) | ((first | (refine hR _ ?_; clear hR R) | refine awp_skip ?_ | refine awp_exit ?_ | refine awp_ret ?_); try simp only [thenA, inBlockA, reduceIte, reduceCtorEq, Nat.reduceEqDiff, if_false, if_true]) | ((first | refine hK _ ?_ | (clear hK K; first | refine hK _ ?_ | (clear hK K; first | refine hK _ ?_ | (clear hK K; first | refine hK _ ?_ | (clear hK K; refine hK _ ?_))))); clear hK K) | refine awp_true rfl rfl ?_ | refine awp_false rfl rfl ?_ | refine awp_block ?_ | refine And.intro (by first | ((repeat' first | omega | exact trivial | rfl | assumption | (intro a e; subst e; rfl) | exact map_sz fun a => (by simp only [go_sem]) | refine And.intro ?_ ?_); done) | fail) ?_ | fail)
              refine ⟨⟨j + 1, o ++ [c[j]], ?_⟩, ?_⟩
              rotate_left
              · simp only [go_sem, u0, u3, u4, u5, u6, uh, r2, s4, etk, List.length_map, List.append_assoc, List.cons_append, List.nil_append]; omega
              simp only [go_sem, u0, u3, u4, u5, u6, uh, r2, s4, etk, List.length_map, List.append_assoc, List.cons_append, List.nil_append]
              and_intros; all_goals try (first | rfl | omega | assumption | ((repeat (first | exact Fr.rfl' _ _ | assumption | refine Fr.updk ?_ (by omega) _)); done))
              all_goals (simp only [List.length_append, List.length_singleton]; omega)
      · have hd0 : (!c[i].y && same c[i].a c[i].b) = false := by simp [hy, hs]
        repeat' (first | refine awp_seq_k fun K hK => ?_ | ((first | refine awp_region_k (by kernel_rfl) fun R hR => ?_ | refine awp_draw mixed (by kernel_rfl) (by kernel_rfl) fun R hR => ?_); simp only [go_sem, s0, s3, s4, sh, hz, e1, hne2, hy, hs, Int.toNat_natCast]) | ((first | (refine hR _ ?_; clear hR R) | refine awp_skip ?_ | refine awp_exit ?_ | refine awp_ret ?_); try simp only [thenA, inBlockA, reduceIte, reduceCtorEq, Nat.reduceEqDiff, if_false, if_true]) | ((first | refine hK _ ?_ | (clear hK K; first | refine hK _ ?_ | (clear hK K; first | refine hK _ ?_ | (clear hK K; first | refine hK _ ?_ | (clear hK K; refine hK _ ?_))))); clear hK K) | refine awp_true rfl rfl ?_ | refine awp_false rfl rfl ?_ | refine awp_block ?_ | ((first | refine CallK.pure (enter47) (sameR_tri c[i].a c[i].b) ?_ ?_ | refine CallD.pure (enter47) (sameR_tri c[i].a c[i].b) ?_ ?_); (focus first | ((repeat (first | exact trivial | refine ⟨(by first | exact Or.inl rfl | exact Or.inr rfl), ?_⟩)); done) | (simp only [coL, AV.dat, true_or, or_true, AV.d.injEq, go_sem]; done)); simp only [go_sem, s0, s3, s4, sh, hz, e1, hne2, hy, hs, Int.toNat_natCast]) | refine And.intro (by first | ((repeat' first | omega | exact trivial | rfl | assumption | (intro a e; subst e; rfl) | exact map_sz fun a => (by simp only [go_sem]) | refine And.intro ?_ ?_); done) | fail) ?_ | fail)
        refine awp_loop (fun τ => ∃ (j : Nat) (cur : Bool), τ.t 0 = .d (clDV c) ∧ τ.t 3 = .own (k + 1 + 1, 0) (o.map ltDV) ∧ τ.t 4 = iA i ∧ τ.t 5 = bA cur ∧ τ.t 6 = iA j ∧
          τ.h (k + 1 + 1, 0) = some (.perm 107 o.length) ∧ Fr k h0 τ.h ∧ σ.k < τ.k ∧ j ≤ i ∧ (cur || ((c.take i).drop j).any fun x => x.y == c[i].y && sidesB x c[i]) = dropB (c.take i) c[i]) (fun τ => i - (intOf' (τ.t 6)).toNat) ?_ ?_
        · refine ⟨0, false, ?_⟩
          simp only [go_sem, s0, s3, s4, sh, hne2, List.drop_zero]
          and_intros; all_goals try (first | rfl | omega | assumption | ((repeat (first | exact Fr.rfl' _ _ | assumption | refine Fr.updk ?_ (by omega) _)); done))
          unfold dropB; rw [hd0]
          try simp only [Bool.false_or, Bool.true_or]
        · rintro τ ⟨j, cur, u0, u3, u4, u5, u6, uh, uF, uk, uj, uv⟩
          have r2 := ltne (show k + 1 + 1 < τ.k by omega)
          rcases Nat.lt_or_ge j i with jlt | jge
          · have jz : (j : Int) < (i : Int) := by omega
            have jc : j < c.length := by omega
            have jz2 : (j : Int) < (c.length : Int) := by omega
            have e2 : (c.map ltDV).getD j default = ltDV c[j] := nth_map ltDV jc _
            have jt : j < (c.take i).length := by rw [List.length_take]; omega
            rw [List.drop_eq_getElem_cons jt, List.any_cons, List.getElem_take] at uv
            cases cur with
            | true =>
              rw [Bool.true_or] at uv
              repeat' (first | refine awp_seq_k fun K hK => ?_ | ((first | refine awp_region_k (by kernel_rfl) fun R hR => ?_ | refine awp_draw mixed (by kernel_rfl) (by kernel_rfl) fun R hR => ?_); simp only [go_sem, u0, u3, u4, u5, u6, uh, jz, r2, Int.toNat_natCast]) | ((first | (refine hR _ ?_; clear hR R) | refine awp_skip ?_ | refine awp_exit ?_ | refine awp_ret ?_); try simp only [thenA, inBlockA, reduceIte, reduceCtorEq, Nat.reduceEqDiff, if_false, if_true]) | ((first | refine hK _ ?_ | (clear hK K; first | refine hK _ ?_ | (clear hK K; first | refine hK _ ?_ | (clear hK K; first | refine hK _ ?_ | (clear hK K; refine hK _ ?_))))); clear hK K) | refine awp_true rfl rfl ?_ | refine awp_false rfl rfl ?_ | refine awp_block ?_ | refine And.intro (by first | ((repeat' first | omega | exact trivial | rfl | assumption | (intro a e; subst e; rfl) | exact map_sz fun a => (by simp only [go_sem]) | refine And.intro ?_ ?_); done) | fail) ?_ | fail)
              refine ⟨⟨j + 1, true, ?_⟩, ?_⟩
              rotate_left
              · simp only [go_sem, u0, u3, u4, u5, u6, uh, r2]; omega
              simp only [go_sem, u0, u3, u4, u5, u6, uh, r2]
              and_intros; all_goals try (first | rfl | omega | assumption | ((repeat (first | exact Fr.rfl' _ _ | assumption | refine Fr.updk ?_ (by omega) _)); done))
              all_goals (rw [Bool.true_or]; exact uv)
            | false =>
              rw [Bool.false_or] at uv
              cases hyk : (c[j].y == c[i].y) with
              | false =>
                rw [hyk, Bool.false_and, Bool.false_or] at uv
                repeat' (first | refine awp_seq_k fun K hK => ?_ | ((first | refine awp_region_k (by kernel_rfl) fun R hR => ?_ | refine awp_draw mixed (by kernel_rfl) (by kernel_rfl) fun R hR => ?_); simp only [go_sem, u0, u3, u4, u5, u6, uh, hz, jz, jz2, e1, e2, hyk, r2, Int.toNat_natCast]) | ((first | (refine hR _ ?_; clear hR R) | refine awp_skip ?_ | refine awp_exit ?_ | refine awp_ret ?_); try simp only [thenA, inBlockA, reduceIte, reduceCtorEq, Nat.reduceEqDiff, if_false, if_true]) | ((first | refine hK _ ?_ | (clear hK K; first | refine hK _ ?_ | (clear hK K; first | refine hK _ ?_ | (clear hK K; first | refine hK _ ?_ | (clear hK K; refine hK _ ?_))))); clear hK K) | refine awp_true rfl rfl ?_ | refine awp_false rfl rfl ?_ | refine awp_block ?_ | refine And.intro (by first | ((repeat' first | omega | exact trivial | rfl | assumption | (intro a e; subst e; rfl) | exact map_sz fun a => (by simp only [go_sem]) | refine And.intro ?_ ?_); done) | fail) ?_ | fail)
                refine ⟨⟨j + 1, false, ?_⟩, ?_⟩
                rotate_left
                · simp only [go_sem, u0, u3, u4, u5, u6, uh, r2]; omega
                simp only [go_sem, u0, u3, u4, u5, u6, uh, r2]
                and_intros; all_goals try (first | rfl | omega | assumption | ((repeat (first | exact Fr.rfl' _ _ | assumption | refine Fr.updk ?_ (by omega) _)); done))
              | true =>
                rw [hyk, Bool.true_and] at uv
                have hss := sameSides_tri c[j] c[i]
                cases hsk : sidesB c[j] c[i] with
                | false =>
                  rw [hsk] at hss
                  rw [hsk, Bool.false_or] at uv
                  repeat' (first | refine awp_seq_k fun K hK => ?_ | ((first | refine awp_region_k (by kernel_rfl) fun R hR => ?_ | refine awp_draw mixed (by kernel_rfl) (by kernel_rfl) fun R hR => ?_); simp only [go_sem, u0, u3, u4, u5, u6, uh, hz, jz, jz2, e1, e2, hyk, r2, Int.toNat_natCast]) | ((first | (refine hR _ ?_; clear hR R) | refine awp_skip ?_ | refine awp_exit ?_ | refine awp_ret ?_); try simp only [thenA, inBlockA, reduceIte, reduceCtorEq, Nat.reduceEqDiff, if_false, if_true]) | ((first | refine hK _ ?_ | (clear hK K; first | refine hK _ ?_ | (clear hK K; first | refine hK _ ?_ | (clear hK K; first | refine hK _ ?_ | (clear hK K; refine hK _ ?_))))); clear hK K) | refine awp_true rfl rfl ?_ | refine awp_false rfl rfl ?_ | refine awp_block ?_ | ((first | refine CallK.pure (enter91) (hss) ?_ ?_ | refine CallD.pure (enter91) (hss) ?_ ?_); (focus first | ((repeat (first | exact trivial | refine ⟨(by first | exact Or.inl rfl | exact Or.inr rfl), ?_⟩)); done) | (simp only [coL, AV.dat, true_or, or_true, AV.d.injEq, go_sem]; done)); simp only [go_sem, u0, u3, u4, u5, u6, uh, hz, jz, jz2, e1, e2, hyk, r2, Int.toNat_natCast]) | refine And.intro (by first | ((repeat' first | omega | exact trivial | rfl | assumption | (intro a e; subst e; rfl) | exact map_sz fun a => (by simp only [go_sem]) | refine And.intro ?_ ?_); done) | fail) ?_ | fail)
                  refine ⟨⟨j + 1, false, ?_⟩, ?_⟩
                  rotate_left
                  · simp only [go_sem, u0, u3, u4, u5, u6, uh, r2]; omega
                  simp only [go_sem, u0, u3, u4, u5, u6, uh, r2]
                  and_intros; all_goals try (first | rfl | omega | assumption | ((repeat (first | exact Fr.rfl' _ _ | assumption | refine Fr.updk ?_ (by omega) _)); done))
                | true =>
                  rw [hsk] at hss
                  rw [hsk, Bool.true_or] at uv
                  repeat' (first | refine awp_seq_k fun K hK => ?_ | ((first | refine awp_region_k (by kernel_rfl) fun R hR => ?_ | refine awp_draw mixed (by kernel_rfl) (by kernel_rfl) fun R hR => ?_); simp only [go_sem, u0, u3, u4, u5, u6, uh, hz, jz, jz2, e1, e2, hyk, r2, Int.toNat_natCast]) | ((first | (refine hR _ ?_; clear hR R) | refine awp_skip ?_ | refine awp_exit ?_ | refine awp_ret ?_); try simp only [thenA, inBlockA, reduceIte, reduceCtorEq, Nat.reduceEqDiff, if_false, if_true]) | ((first | refine hK _ ?_ | (clear hK K; first | refine hK _ ?_ | (clear hK K; first | refine hK _ ?_ | (clear hK K; first | refine hK _ ?_ | (clear hK K; refine hK _ ?_))))); clear hK K) | refine awp_true rfl rfl ?_ | refine awp_false rfl rfl ?_ | refine awp_block ?_ | ((first | refine CallK.pure (enter91) (hss) ?_ ?_ | refine CallD.pure (enter91) (hss) ?_ ?_); (focus first | ((repeat (first | exact trivial | refine ⟨(by first | exact Or.inl rfl | exact Or.inr rfl), ?_⟩)); done) | (simp only [coL, AV.dat, true_or, or_true, AV.d.injEq, go_sem]; done)); simp only [go_sem, u0, u3, u4, u5, u6, uh, hz, jz, jz2, e1, e2, hyk, r2, Int.toNat_natCast]) | refine And.intro (by first | ((repeat' first | omega | exact trivial | rfl | assumption | (intro a e; subst e; rfl) | exact map_sz fun a => (by simp only [go_sem]) | refine And.intro ?_ ?_); done) | fail) ?_ | fail)
                  refine ⟨⟨j + 1, true, ?_⟩, ?_⟩
                  rotate_left
                  · simp only [go_sem, u0, u3, u4, u5, u6, uh, r2]; omega
                  simp only [go_sem, u0, u3, u4, u5, u6, uh, r2]
                  and_intros; all_goals try (first | rfl | omega | assumption | ((repeat (first | exact Fr.rfl' _ _ | assumption | refine Fr.updk ?_ (by omega) _)); done))
                  all_goals (rw [Bool.true_or]; exact uv)
          · have jz : ¬ ((j : Int) < (i : Int)) := by omega
            obtain rfl : j = i := by omega
            rw [List.drop_eq_nil_of_le (by rw [List.length_take]; omega), List.any_nil, Bool.or_false] at uv
            rw [← uv] at hv
            cases cur with
            | true =>
              rw [if_pos rfl] at hv
              repeat' (first | refine awp_seq_k fun K hK => ?_ | ((first | refine awp_region_k (by kernel_rfl) fun R hR => ?_ | refine awp_draw mixed (by kernel_rfl) (by kernel_rfl) fun R hR => ?_); simp only [go_sem, u0, u3, u4, u5, u6, uh, jz, r2, Int.toNat_natCast]) | ((first | (refine hR _ ?_; clear hR R) | refine awp_skip ?_ | refine awp_exit ?_ | refine awp_ret ?_); try simp only [thenA, inBlockA, reduceIte, reduceCtorEq, Nat.reduceEqDiff, if_false, if_true]) | ((first | refine hK _ ?_ | (clear hK K; first | refine hK _ ?_ | (clear hK K; first | refine hK _ ?_ | (clear hK K; first | refine hK _ ?_ | (clear hK K; refine hK _ ?_))))); clear hK K) | refine awp_true rfl rfl ?_ | refine awp_false rfl rfl ?_ | refine awp_block ?_ | refine And.intro (by first | ((repeat' first | omega | exact trivial | rfl | assumption | (intro a e; subst e; rfl) | exact map_sz fun a => (by simp only [go_sem]) | refine And.intro ?_ ?_); done) | fail) ?_ | fail)
              refine ⟨⟨j + 1, o, ?_⟩, ?_⟩
              rotate_left
              · simp only [go_sem, u0, u3, u4, u5, u6, uh, r2, s4]; omega
              simp only [go_sem, u0, u3, u4, u5, u6, uh, r2, s4]
              and_intros; all_goals try (first | rfl | omega | assumption | ((repeat (first | exact Fr.rfl' _ _ | assumption | refine Fr.updk ?_ (by omega) _)); done))
            | false =>
              rw [if_neg (by simp)] at hv
              repeat' (first | refine awp_seq_k fun K hK => ?_ | ((first | refine awp_region_k (by kernel_rfl) fun R hR => ?_ | refine awp_draw mixed (by kernel_rfl) (by kernel_rfl) fun R hR => ?_); simp only [go_sem, u0, u3, u4, u5, u6, uh, hz, jz, e1, r2, List.length_map, Int.toNat_natCast]) | ((first | (refine hR _ ?_; clear hR R) | refine awp_skip ?_ | refine awp_exit ?_ | refine awp_ret ?_); try simp only [thenA, inBlockA, reduceIte, reduceCtorEq, Nat.reduceEqDiff, if_false, if_true]) | ((first | refine hK _ ?_ | (clear hK K; first | refine hK _ ?_ | (clear hK K; first | refine hK _ ?_ | (clear hK K; first | refine hK _ ?_ | (clear hK K; refine hK _ ?_))))); clear hK K) | refine awp_true rfl rfl ?_ | refine awp_false rfl rfl ?_ | refine awp_block ?_ | refine And.intro (by first | ((repeat' first | omega | exact trivial | rfl | assumption | (intro a e; subst e; rfl) | exact map_sz fun a => (by simp only [go_sem]) | refine And.intro ?_ ?_); done) | fail) ?_ | fail)
              refine ⟨⟨j + 1, o ++ [c[j]], ?_⟩, ?_⟩
              rotate_left
              · simp only [go_sem, u0, u3, u4, u5, u6, uh, r2, s4, etk, List.length_map, List.append_assoc, List.cons_append, List.nil_append]; omega
              simp only [go_sem, u0, u3, u4, u5, u6, uh, r2, s4, etk, List.length_map, List.append_assoc, List.cons_append, List.nil_append]
              and_intros; all_goals try (first | rfl | omega | assumption | ((repeat (first | exact Fr.rfl' _ _ | assumption | refine Fr.updk ?_ (by omega) _)); done))
              all_goals (simp only [List.length_append, List.length_singleton]; omega)
    · have hz : ¬ ((i : Int) < (c.length : Int)) := by omega
      rw [List.drop_eq_nil_of_le hge, keepR, List.append_nil] at hv
      have hsm := hc.keepR
      rw [← hv] at hsm
      have hol := hsm.len
      obtain ⟨V, hV⟩ : ∃ V, V = firstVars (termsOf o) := ⟨_, rfl⟩
      have hsz := hsm.sizes
      have hst := firstVars_tri (termsOf o) hsz
      have hVl : V.length ≤ 4000000 := by have := firstVars_len (termsOf o); rw [hV]; omega
      have hfin : tidyR c = o.map (mapLt (applyR (numBs V 0))) := by unfold tidyR; rw [hV, hv]
      rw [← hV] at hst
      repeat' (first | refine awp_ghost (ghost_nil (i := 8) (e := 117) rfl) ?_ | refine awp_seq_k fun K hK => ?_ | ((first | refine awp_region_k (by kernel_rfl) fun R hR => ?_ | refine awp_draw mixed (by kernel_rfl) (by kernel_rfl) fun R hR => ?_); simp only [go_sem, s0, s3, s4, sh, hz, hne2]) | ((first | (refine hR _ ?_; clear hR R) | refine awp_skip ?_ | refine awp_exit ?_ | refine awp_ret ?_); try simp only [thenA, inBlockA, reduceIte, reduceCtorEq, Nat.reduceEqDiff, if_false, if_true]) | ((first | refine hK _ ?_ | (clear hK K; first | refine hK _ ?_ | (clear hK K; first | refine hK _ ?_ | (clear hK K; first | refine hK _ ?_ | (clear hK K; refine hK _ ?_))))); clear hK K) | refine awp_true rfl rfl ?_ | refine awp_false rfl rfl ?_ | refine awp_block ?_ | ((first | refine CallK.pure (enter25) (termsOf_tri o (by omega)) ?_ ?_ | refine CallD.pure (enter25) (termsOf_tri o (by omega)) ?_ ?_ | refine CallK.pure (enter22) (hst) ?_ ?_ | refine CallD.pure (enter22) (hst) ?_ ?_); (focus first | ((repeat (first | exact trivial | refine ⟨(by first | exact Or.inl rfl | exact Or.inr rfl), ?_⟩)); done) | (simp only [coL, AV.dat, true_or, or_true, AV.d.injEq, go_sem]; done)); simp only [go_sem, s0, s3, s4, sh, hz, hne2]) | refine And.intro (by first | ((repeat' first | omega | exact trivial | rfl | assumption | (intro a e; subst e; rfl) | exact map_sz fun a => (by simp only [go_sem]) | refine And.intro ?_ ?_); done) | fail) ?_ | fail)
      refine awp_loop (fun τ => ∃ j : Nat, τ.t 3 = .own (k + 1 + 1, 0) (o.map ltDV) ∧ τ.t 7 = .d (.sl (V.map iD)) ∧ τ.t 8 = .own (σ.k + 1 + 1 + 1, 0) ((numBs (V.take j) 0).map bdDV) ∧ τ.t 9 = iA j ∧
        τ.h (σ.k + 1 + 1 + 1, 0) = some (.perm 117 (numBs (V.take j) 0).length) ∧ Fr k h0 τ.h ∧ σ.k + 1 + 1 + 1 < τ.k ∧ j ≤ V.length) (fun τ => V.length - (intOf' (τ.t 9)).toNat) ?_ ?_
      · refine ⟨0, ?_⟩
        simp only [go_sem, s3, sh, hne2, List.take_zero, numBs, List.map_nil]
        and_intros; all_goals try (first | rfl | omega | assumption | ((repeat (first | exact Fr.rfl' _ _ | assumption | refine Fr.updk ?_ (by omega) _)); done))
      · rintro τ ⟨j, u3, u7, u8, u9, uh, uF, uk, uj⟩
        have r1 := ltne uk
        have hnl : (numBs (V.take j) 0).length = j := by rw [numBs_len, List.length_take]; omega
        rcases Nat.lt_or_ge j V.length with jlt | jge
        · have jz : (j : Int) < (V.length : Int) := by omega
          have e2 : (V.map iD).getD j default = iD V[j] := nth_map iD jlt _
          have etk : (numBs (V.take j) 0).map bdDV ++ [bdDV (V[j], .mk ((j : Int) + 1) 0 [])] = (numBs (V.take (j + 1)) 0).map bdDV := by rw [num_take jlt]; simp
          repeat' (first | refine awp_seq_k fun K hK => ?_ | ((first | refine awp_region_k (by kernel_rfl) fun R hR => ?_ | refine awp_draw mixed (by kernel_rfl) (by kernel_rfl) fun R hR => ?_); simp only [go_sem, u3, u7, u8, u9, uh, jz, e2, r1, hnl, leaf_bd, List.length_map, Int.toNat_natCast]) | ((first | (refine hR _ ?_; clear hR R) | refine awp_skip ?_ | refine awp_exit ?_ | refine awp_ret ?_); try simp only [thenA, inBlockA, reduceIte, reduceCtorEq, Nat.reduceEqDiff, if_false, if_true]) | ((first | refine hK _ ?_ | (clear hK K; first | refine hK _ ?_ | (clear hK K; first | refine hK _ ?_ | (clear hK K; first | refine hK _ ?_ | (clear hK K; refine hK _ ?_))))); clear hK K) | refine awp_true rfl rfl ?_ | refine awp_false rfl rfl ?_ | refine awp_block ?_ | refine And.intro (by first | ((repeat' first | omega | exact trivial | rfl | assumption | (intro a e; subst e; rfl) | exact map_sz fun a => (by simp only [go_sem]) | refine And.intro ?_ ?_); done) | fail) ?_ | fail)
          refine ⟨⟨j + 1, ?_⟩, ?_⟩
          rotate_left
          · simp only [go_sem, u3, u7, u8, u9, uh, r1, leaf_bd, etk, hnl, List.length_map]; omega
          simp only [go_sem, u3, u7, u8, u9, uh, r1, leaf_bd, etk, hnl, List.length_map]
          and_intros; all_goals try (first | rfl | omega | assumption | ((repeat (first | exact Fr.rfl' _ _ | assumption | refine Fr.updk ?_ (by omega) _)); done))
        · have jz : ¬ ((j : Int) < (V.length : Int)) := by omega
          obtain rfl : j = V.length := by omega
          rw [List.take_length] at u8 uh
          have hap := applyClause_tri (numBs V 0) (by rw [numBs_len]; omega) o (by omega) (fun l hl => ⟨by have := hsm.a l hl; omega, by have := hsm.b l hl; omega⟩)
          repeat' (first | refine awp_seq_k fun K hK => ?_ | ((first | refine awp_region_k (by kernel_rfl) fun R hR => ?_ | refine awp_draw mixed (by kernel_rfl) (by kernel_rfl) fun R hR => ?_); simp only [go_sem, u3, u7, u8, u9, uh, jz, r1]) | ((first | (refine hR _ ?_; clear hR R) | refine awp_skip ?_ | refine awp_exit ?_ | refine awp_ret ?_); try simp only [thenA, inBlockA, reduceIte, reduceCtorEq, Nat.reduceEqDiff, if_false, if_true]) | ((first | refine hK _ ?_ | (clear hK K; first | refine hK _ ?_ | (clear hK K; first | refine hK _ ?_ | (clear hK K; first | refine hK _ ?_ | (clear hK K; refine hK _ ?_))))); clear hK K) | refine awp_true rfl rfl ?_ | refine awp_false rfl rfl ?_ | refine awp_block ?_ | ((first | refine CallK.pure (enter92) (hap) ?_ ?_ | refine CallD.pure (enter92) (hap) ?_ ?_); (focus first | ((repeat (first | exact trivial | refine ⟨(by first | exact Or.inl rfl | exact Or.inr rfl), ?_⟩)); done) | (simp only [coL, AV.dat, true_or, or_true, AV.d.injEq, go_sem]; done)); simp only [go_sem, u3, u7, u8, u9, uh, jz, r1]) | refine And.intro (by first | ((repeat' first | omega | exact trivial | rfl | assumption | (intro a e; subst e; rfl) | exact map_sz fun a => (by simp only [go_sem]) | refine And.intro ?_ ?_); done) | fail) ?_ | fail)
          rw [hfin]
          (first | refine ret_pure ?_ ?_ ?_ | refine ret_ro ?_ ?_ ?_); focus exact (by simp only [Try.results32, resOkL, resOk, Try.ntmps32, List.toList_toArray]; first | decide | (simp only [go_sem]; done) | (simp only [go_sem]; and_intros <;> first | omega | rfl | decide))
          rotate_left; focus exact (by repeat (first | exact Fr.rfl' _ _ | assumption | refine Fr.updk ?_ (by omega) _))
          simp only [resA, resV, Try.results32, go_sem]
          all_goals try (first | exact Co.t2 (.dat rfl) (.dat rfl) | exact Co.t3 (.dat rfl) (.dat rfl) (.dat rfl))
          all_goals exact .dat rfl
end Go.Proofs.Ytmeekpinkfpnhaa
namespace Go.Proofs.Ytmeekpinkfpnhaa
open Go.RowKit
set_option maxRecDepth 20000 in
set_option maxHeartbeats 2000000 in
theorem clone_any (b : Nat) (es : Array MapEntry) (clock : Nat) (w : World) (hb : w.heap[b]? = some (.map es clock)) :
    Calls Try.prog 140 #[.map (some b)] w fun e w' => e = .returned (.map (some w.heap.size)) ∧ w' = w.alloc (.map es clock) := by
  have hq := fun w => run_eql_map_nil_sl (P := Try.prog) w 142 _ _ (some b) Try.underlying142
  go_enter Try.func140, Try.ntmps140
  go_wp2
  rw [run_callFunc_extern Try.func157 (by kernel_rfl) (by kernel_rfl) (by kernel_rfl) (e := Extern.MapsClone.clone) (by kernel_rfl), run_maps_clone_sl w 142 hb]
  simp only [Result.andThen]
  rw [Oper.upon_value]
  go_wp2
  rw [run_typeAssert_map_sl _ 142 20 _ _ _ Try.underlying142]
  simp only [Result.andThen]
  rw [Oper.upon_value]
  go_wp2
  go_ret
  exact ⟨rfl, rfl⟩
def cloneEff (mm n' : Nm) (es : List (Int × DV)) : Eff := ⟨.map n', [(n', none), (mm, some (.map es))], [(n', some (.map es))]⟩
theorem clone_tri (mm n' : Nm) (es : List (Int × DV)) : Tri Try.prog 140 [.map mm] (cloneEff mm n' es) := by
  intro w0 h k m β w cargs H hrd hwr hsz hargs
  have hm : h mm = some (.map es) := hrd (mm, some (.map es)) (by simp [cloneEff])
  have hno : h n' = none := hrd (n', none) (by simp [cloneEff])
  obtain ⟨hk, hn0⟩ := hwr (n', some (.map es)) (by simp [cloneEff])
  have hbn : β n' = none := hn0 hno
  have hk : n'.1 < k := hk
  obtain ⟨v, rfl⟩ : ∃ v, cargs = #[v] := by
    obtain ⟨l⟩ := cargs
    match l, hsz with
    | [v], _ => exact ⟨v, rfl⟩
  have hv := hargs 0 v (.map mm) (by simp) (by simp)
  cases hv with
  | @map _ p hb hv =>
    obtain ⟨p', hp', _, l, clock, g1, g2, g3⟩ := H.obj mm _ hm
    rw [hb] at hp'; cases hp'
    refine (clone_any p.1 l clock w g1).mono ?_
    rintro e w' ⟨rfl, rfl⟩
    refine ⟨_, m, updB β n' ⟨w.heap.size, 0, none⟩, rfl, .rfl' m, updB_le (le_new hbn), fun x hx h0 => updB_none (fun e => hx (n', _) (by simp only [cloneEff]; exact List.mem_cons_self ..) e.symm) h0, ?_, .map (p := ⟨w.heap.size, 0, none⟩) (updB_self _ _ _) rfl⟩
    refine H.upd1 (le_new hbn) hk (Below.alloc H.ext H.size _) (.rfl' m) (fun b o v hv => ?_) ⟨rfl, l, clock, heap_alloc_new w _, g2, g3⟩ (fun _ => H.size) ?_
    · obtain ⟨h1, h2⟩ := H.mem b o v hv
      exact ⟨(World.cell?_alloc_lt w _ ⟨b, o, none⟩ (H.mem_lt hv)).trans h1, h2⟩
    · intro x p' ob' _ hx hp hr
      have := H.lt hx hp hr
      exact ⟨fun _ => Nat.ne_of_lt this, heap_alloc_old w _ this, fun _ => rfl⟩
attribute [go_sem] cloneEff
theorem CallK.clone {s : St} {tick i : Nat} {dst : Option Tmp} {args : Array Operand} {ats : Array TypeId} {ty : TypeId} {pos : String} {after : Array Edge} {guard : Option (Nat × Bool)} {ops : Array Oper} {rest : List Oper} {K : St → Prop} (mm : Nm) (es : List (Int × DV)) (hi : i % 1000 = i)
    (hco : coL (args.toList.map s.ev) [.map mm]) (hm : s.h mm = some (.map es)) (hrd : s.h (tick, i) = none) (hk : runL Try.prog ops tick rest (i + 1) (s.step ⟨dst, .call ⟨.value (.func 140), args, ats⟩, ty, pos, after, guard⟩ (cloneEff mm (tick, i) es)) K) :
    CallK Try.prog ops tick i ⟨dst, .call ⟨.value (.func 140), args, ats⟩, ty, pos, after, guard⟩ rest s K :=
  CallK.eff (enter140) (clone_tri mm (tick, i) es) hco (fun x hx => by
    simp only [cloneEff, List.mem_cons, List.not_mem_nil, or_false] at hx
    rcases hx with hx | hx
    · rw [hx]; exact hrd
    · rw [hx]; exact hm) (fun x hx => by simp only [cloneEff, List.mem_cons, List.not_mem_nil, or_false] at hx; subst hx; exact .inr ⟨rfl, hi⟩) hk
end Go.Proofs.Ytmeekpinkfpnhaa
namespace Go.Proofs.Ytmeekpinkfpnhaa
theorem any_same {α : Type} {f g : α → Bool} : ∀ {l : List α}, (∀ x ∈ l, f x = g x) → l.any f = l.any g
  | [], _ => rfl
  | a :: l, h => by rw [List.any_cons, List.any_cons, h a (by simp), any_same fun x hx => h x (by simp [hx])]
def turnL (x : Lt) : Lt := ⟨x.y, x.b, x.a⟩
section
variable (f : Tm → Tm → Bs → Bool × Bs)
def tryG (l x : Lt) (b : Bs) : Bool × Bs := if (f l.a x.a b).1 = true then f l.b x.b (f l.a x.a b).2 else (false, (f l.a x.a b).2)
def covG : List Lt → List Lt → Bs → Bool
  | [], _, _ => true
  | l :: c, d, b => d.any fun x => (x.y == l.y) && (((tryG f l x b).1 && covG c d (tryG f l x b).2) || ((tryG f l (turnL x) b).1 && covG c d (tryG f l (turnL x) b).2))
end
theorem tryG_eq (l x : Lt) (b : Bs) (h1 : ∀ z ∈ parts x.a, 0 ≤ z.v) (h2 : ∀ z ∈ parts x.b, 0 ≤ z.v) : (tryG meet l x b).1 = (tryG grow l x b).1 ∧ ((tryG meet l x b).1 = true → (tryG meet l x b).2 = (tryG grow l x b).2) := by
  obtain ⟨a1, a2⟩ := meet_grow l.a x.a b h1
  unfold tryG
  rw [← a1]
  by_cases hc : (meet l.a x.a b).1 = true
  · rw [if_pos hc, if_pos hc, a2 hc]
    exact meet_grow l.b x.b _ h2
  · rw [if_neg hc, if_neg hc]; exact ⟨rfl, fun h => by cases h⟩
theorem covG_eq : ∀ (c d : List Lt) (b : Bs), (∀ x ∈ d, (∀ z ∈ parts x.a, 0 ≤ z.v) ∧ ∀ z ∈ parts x.b, 0 ≤ z.v) → covG meet c d b = covG grow c d b
  | [], _, _, _ => rfl
  | l :: c, d, b, h => by
    have key : ∀ x : Lt, (∀ z ∈ parts x.a, 0 ≤ z.v) → (∀ z ∈ parts x.b, 0 ≤ z.v) → ((tryG meet l x b).1 && covG meet c d (tryG meet l x b).2) = ((tryG grow l x b).1 && covG grow c d (tryG grow l x b).2) := by
      intro x h1 h2
      obtain ⟨a1, a2⟩ := tryG_eq l x b h1 h2
      rw [← a1]
      cases hc : (tryG meet l x b).1 with
      | false => rfl
      | true => rw [a2 hc, covG_eq c d _ h]
    rw [covG, covG]
    refine any_same fun x hx => ?_
    obtain ⟨h1, h2⟩ := h x hx
    rw [key x h1 h2, key (turnL x) h2 h1]
theorem tryG_len {l x : Lt} {b : Bs} (h : (tryG grow l x b).1 = true) : (tryG grow l x b).2.length ≤ b.length + (l.a.size + l.b.size) := by
  unfold tryG at h ⊢
  by_cases hc : (grow l.a x.a b).1 = true
  · rw [if_pos hc]
    have := grow_len l.a x.a b
    have := grow_len l.b x.b (grow l.a x.a b).2
    omega
  · rw [if_neg hc] at h; cases h
def szC (c : List Lt) : Nat := (c.map fun l => l.a.size + l.b.size).sum
end Go.Proofs.Ytmeekpinkfpnhaa
namespace Go.Proofs.Ytmeekpinkfpnhaa
open Go.RowKit
theorem size_us {p u : Tm} (h : u ∈ p.us) : u.size ≤ p.size := by
  obtain ⟨i, hi, rfl⟩ := List.getElem_of_mem h
  exact Nat.le_of_lt (Tm.size_at hi)
theorem meet_tri : ∀ (p : Tm), p.size ≤ 4000000 → MeetSpec p := by
  refine Tm.ind fun p ih hp => ?_
  have := p.len_lt
  exact meet_step p (by omega) fun u hu => ih u hu (by have := size_us hu; omega)
theorem agM {mm : Nm} {b : Bs} (h : Heap) (e : h mm = some (.map (bsE b))) : Ag (mm.1 + 1) [mm] (mtO b) h := ⟨fun n hn => by
  simp only [List.mem_cons, List.not_mem_nil, or_false] at hn; subst hn; exact ⟨Nat.lt_succ_self _, e⟩⟩
theorem roM {mm : Nm} {b : Bs} (h : Heap) (e : h mm = some (.map (bsE b))) : RoOK (mm.1 + 1) [(mm, .map (bsE b))] h := ⟨fun n hn => by
  simp only [List.mem_cons, List.not_mem_nil, or_false] at hn; subst hn; exact ⟨Nat.lt_succ_self _, e⟩⟩
set_option maxHeartbeats 2000000 in
set_option maxRecDepth 20000 in
theorem covers_tri (d : List Lt) (hd : d.length ≤ 4000000) : ∀ (c : List Lt), c.length ≤ 4000000 → (∀ l ∈ c, l.a.size ≤ 4000000 ∧ l.b.size ≤ 4000000) → ∀ (mm : Nm) (b : Bs),
    Tri Try.prog 124 [.map mm, .d (clDV c), .d (clDV d)] (rdE [(mm, .map (bsE b))] (bA (covG meet c d b)))
  | [], _, _, mm, b => by
    refine tri_enter_ro Try.func124 rfl Try.ntmps124 (by simp only [List.length_cons, List.length_nil]; omega) fun w0 h0 k hro => ?_
    repeat' (first | refine awp_seq_k fun K hK => ?_ | ((first | refine awp_region_k (by kernel_rfl) fun R hR => ?_ | refine awp_draw mixed (by kernel_rfl) (by kernel_rfl) fun R hR => ?_); simp only [go_sem]) | ((first | (refine hR _ ?_; clear hR R) | refine awp_skip ?_ | refine awp_exit ?_ | refine awp_ret ?_); try simp only [thenA, inBlockA, reduceIte, reduceCtorEq, Nat.reduceEqDiff, if_false, if_true]) | ((first | refine hK _ ?_ | (clear hK K; first | refine hK _ ?_ | (clear hK K; first | refine hK _ ?_ | (clear hK K; first | refine hK _ ?_ | (clear hK K; refine hK _ ?_))))); clear hK K) | refine awp_true rfl rfl ?_ | refine awp_false rfl rfl ?_ | refine awp_block ?_ | refine And.intro (by first | ((repeat' first | omega | exact trivial | rfl | assumption | (intro a e; subst e; rfl) | exact map_sz fun a => (by simp only [go_sem]) | refine And.intro ?_ ?_); done) | fail) ?_ | fail)
    (first | refine ret_pure ?_ ?_ ?_ | refine ret_ro ?_ ?_ ?_); focus exact (by simp only [Try.results124, resOkL, resOk, Try.ntmps124, List.toList_toArray]; first | decide | (simp only [go_sem]; done) | (simp only [go_sem]; and_intros <;> first | omega | rfl | decide))
    rotate_left; focus exact (by repeat (first | exact Fr.rfl' _ _ | assumption | refine Fr.updk ?_ (by omega) _ | refine Fr.stH ?_ _ (by intro n hn; simp only [List.mem_cons, List.not_mem_nil, or_false] at hn; subst hn; simp only; omega)))
    simp only [resA, resV, Try.results124, go_sem]
    all_goals try (first | exact Co.t2 (.dat rfl) (.dat rfl) | exact Co.t3 (.dat rfl) (.dat rfl) (.dat rfl))
    exact .dat rfl
  | l :: c, hcl, hsz, mm, b => by
    have ih := covers_tri d hd c (by simp at hcl; omega) (fun x hx => hsz x (by simp [hx]))
    obtain ⟨G, hG⟩ : ∃ G : Lt → Bool, ∀ x, G x = ((tryG meet l x b).1 && covG meet c d (tryG meet l x b).2) := ⟨_, fun _ => rfl⟩
    obtain ⟨F, hFd⟩ : ∃ F : Lt → Bool, ∀ x, F x = ((x.y == l.y) && (G x || G (turnL x))) := ⟨_, fun _ => rfl⟩
    have hF0 : covG meet (l :: c) d b = d.any F := by
      rw [covG]; exact any_same fun x _ => by rw [hFd, hG, hG]
    refine tri_enter_ro Try.func124 rfl Try.ntmps124 (by simp only [List.length_cons, List.length_nil]; omega) fun w0 h0 k hro => ?_
    obtain ⟨n2, em⟩ := hro.get _ (List.mem_cons_self ..)
    have q2 := nmne n2
    dsimp only at n2 em q2
    have htk : (c.map ltDV).take c.length = c.map ltDV := List.take_of_length_le (by simp)
    have ht1 : Int.toNat 1 = 1 := rfl
    have e0 : (ltDV l :: List.map ltDV c).getD (Int.toNat 0) default = ltDV l := rfl
    repeat' (first | refine awp_seq_k fun K hK => ?_ | ((first | refine awp_region_k (by kernel_rfl) fun R hR => ?_ | refine awp_draw mixed (by kernel_rfl) (by kernel_rfl) fun R hR => ?_); simp only [go_sem, em, q2, e0]) | ((first | (refine hR _ ?_; clear hR R) | refine awp_skip ?_ | refine awp_exit ?_ | refine awp_ret ?_); try simp only [thenA, inBlockA, reduceIte, reduceCtorEq, Nat.reduceEqDiff, if_false, if_true]) | ((first | refine hK _ ?_ | (clear hK K; first | refine hK _ ?_ | (clear hK K; first | refine hK _ ?_ | (clear hK K; first | refine hK _ ?_ | (clear hK K; refine hK _ ?_))))); clear hK K) | refine awp_true rfl rfl ?_ | refine awp_false rfl rfl ?_ | refine awp_block ?_ | refine And.intro (by first | ((repeat' first | omega | exact trivial | rfl | assumption | (intro a e; subst e; rfl) | exact map_sz fun a => (by simp only [go_sem]) | refine And.intro ?_ ?_); done) | fail) ?_ | fail)
    refine awp_loop (fun σ => ∃ i : Nat, σ.t 0 = .map mm ∧ σ.t 1 = .d (clDV (l :: c)) ∧ σ.t 2 = .d (clDV d) ∧ σ.t 6 = bA false ∧ σ.t 7 = .ptr (k + 1 + 1, 3) 0 ∧ σ.t 19 = .d (clDV d) ∧ σ.t 20 = iA d.length ∧ σ.t 21 = iA i ∧
      σ.h (k + 1 + 1, 3) = some (.cells 107 (ltC l)) ∧ Fr k h0 σ.h ∧ k + 1 + 1 < σ.k ∧ i ≤ d.length ∧ (d.drop i).any F = covG meet (l :: c) d b) (fun σ => d.length - (intOf' (σ.t 21)).toNat) ?_ ?_
    · refine ⟨0, ?_⟩
      simp only [go_sem, List.drop_zero]
      and_intros; all_goals try (first | rfl | omega | assumption | ((repeat (first | exact Fr.rfl' _ _ | assumption | refine Fr.updk ?_ (by omega) _)); done))
      rw [hF0]
    · rintro σ ⟨i, s0, s1, s2, s6, s7, s19, s20, s21, sh, hF, hk, hi, hv⟩
      have emσ : σ.h mm = some (.map (bsE b)) := (hF mm n2).trans em
      have p1 := nmne (show mm.1 < σ.k by omega)
      have p2 := nmne (show ((k + 1 + 1, 3) : Nm).1 < σ.k from hk)
      rcases Nat.lt_or_ge i d.length with hlt | hge
      · have hz : (i : Int) < (d.length : Int) := by omega
        have e1 : (d.map ltDV).getD i default = ltDV d[i] := nth_map ltDV hlt _
        rw [List.drop_eq_getElem_cons hlt, List.any_cons] at hv
        cases hy : (d[i].y == l.y) with
        | false =>
          have hFi : F d[i] = false := by
            rw [hFd, hy, Bool.false_and]
          rw [hFi, Bool.false_or] at hv
          repeat' (first | refine awp_seq_k fun K hK => ?_ | ((first | refine awp_region_k (by kernel_rfl) fun R hR => ?_ | refine awp_draw mixed (by kernel_rfl) (by kernel_rfl) fun R hR => ?_); simp only [go_sem, s0, s1, s2, s6, s7, s19, s20, s21, sh, p1, p2, e1, hz, hy, emσ, Int.toNat_natCast]) | ((first | (refine hR _ ?_; clear hR R) | refine awp_skip ?_ | refine awp_exit ?_ | refine awp_ret ?_); try simp only [thenA, inBlockA, reduceIte, reduceCtorEq, Nat.reduceEqDiff, if_false, if_true]) | ((first | refine hK _ ?_ | (clear hK K; first | refine hK _ ?_ | (clear hK K; first | refine hK _ ?_ | (clear hK K; first | refine hK _ ?_ | (clear hK K; refine hK _ ?_))))); clear hK K) | refine awp_true rfl rfl ?_ | refine awp_false rfl rfl ?_ | refine awp_block ?_ | refine And.intro (by first | ((repeat' first | omega | exact trivial | rfl | assumption | (intro a e; subst e; rfl) | exact map_sz fun a => (by simp only [go_sem]) | refine And.intro ?_ ?_); done) | fail) ?_ | fail)
          refine ⟨⟨i + 1, ?_⟩, ?_⟩
          rotate_left
          · simp only [go_sem, s0, s1, s2, s6, s7, s19, s20, s21, sh, p1, p2]; omega
          simp only [go_sem, s0, s1, s2, s6, s7, s19, s20, s21, sh, p1, p2]
          and_intros; all_goals try (first | rfl | omega | assumption | ((repeat (first | exact Fr.rfl' _ _ | assumption | refine Fr.updk ?_ (by omega) _)); done))
        | true =>
          have hFi : F d[i] = (G d[i] || G (turnL d[i])) := by
            rw [hFd, hy, Bool.true_and]
          rw [hFi] at hv
          obtain ⟨L, hL⟩ : ∃ L, L = [d[i], turnL d[i]] := ⟨_, rfl⟩
          have hL2 : L.length = 2 := by rw [hL]; rfl
          have hLv : ((L.drop 0).any G || (d.drop (i + 1)).any F) = covG meet (l :: c) d b := by rw [hL, ← hv]; simp
          repeat' (first | refine awp_seq_k fun K hK => ?_ | ((first | refine awp_region_k (by kernel_rfl) fun R hR => ?_ | refine awp_draw mixed (by kernel_rfl) (by kernel_rfl) fun R hR => ?_); simp only [go_sem, s0, s1, s2, s6, s7, s19, s20, s21, sh, p1, p2, e1, hz, hy, emσ, Int.toNat_natCast]) | ((first | (refine hR _ ?_; clear hR R) | refine awp_skip ?_ | refine awp_exit ?_ | refine awp_ret ?_); try simp only [thenA, inBlockA, reduceIte, reduceCtorEq, Nat.reduceEqDiff, if_false, if_true]) | ((first | refine hK _ ?_ | (clear hK K; first | refine hK _ ?_ | (clear hK K; first | refine hK _ ?_ | (clear hK K; first | refine hK _ ?_ | (clear hK K; refine hK _ ?_))))); clear hK K) | refine awp_true rfl rfl ?_ | refine awp_false rfl rfl ?_ | refine awp_block ?_ | refine And.intro (by first | ((repeat' first | omega | exact trivial | rfl | assumption | (intro a e; subst e; rfl) | exact map_sz fun a => (by simp only [go_sem]) | refine And.intro ?_ ?_); done) | fail) ?_ | fail)
          refine awp_loop (fun τ => ∃ j : Nat, τ.t 0 = .map mm ∧ τ.t 1 = .d (clDV (l :: c)) ∧ τ.t 2 = .d (clDV d) ∧ τ.t 6 = bA false ∧ τ.t 7 = .ptr (k + 1 + 1, 3) 0 ∧ τ.t 19 = .d (clDV d) ∧ τ.t 20 = iA d.length ∧ τ.t 21 = iA i ∧
            τ.t 38 = .own (σ.k + 1 + 1 + 1, 8) (L.map ltDV) ∧ τ.t 39 = iA (2 : Nat) ∧ τ.t 40 = iA j ∧
            τ.h (k + 1 + 1, 3) = some (.cells 107 (ltC l)) ∧ Fr k h0 τ.h ∧ σ.k + 1 + 1 + 1 < τ.k ∧ j ≤ 2 ∧ ((L.drop j).any G || (d.drop (i + 1)).any F) = covG meet (l :: c) d b) (fun τ => 2 - (intOf' (τ.t 40)).toNat) ?_ ?_
          · refine ⟨0, ?_⟩
            simp only [go_sem, s0, s1, s2, s6, s7, s19, s20, s21, sh, p1, p2]
            and_intros; all_goals try (first | rfl | omega | assumption | ((repeat (first | exact Fr.rfl' _ _ | assumption | refine Fr.updk ?_ (by omega) _)); done))
            · rw [hL]; rfl
          · rintro τ ⟨j, u0, u1, u2, u6, u7, u19, u20, u21, u38, u39, u40, uh, uF, uk, uj, uv⟩
            have emτ : τ.h mm = some (.map (bsE b)) := (uF mm n2).trans em
            have r1 := nmne (show mm.1 < τ.k by omega)
            have r2 := nmne (show ((k + 1 + 1, 3) : Nm).1 < τ.k by show k + 1 + 1 < τ.k; omega)
            rcases Nat.lt_or_ge j 2 with jlt | jge
            · have jz : (j : Int) < ((2 : Nat) : Int) := by omega
              have jL : j < L.length := by omega
              have e2 : (L.map ltDV).getD j default = ltDV L[j] := nth_map ltDV jL _
              rw [List.drop_eq_getElem_cons jL, List.any_cons, hG] at uv
              generalize L[j] = x at e2 uv
              refine awp_new fun hnew => ?_
              have hnn := hnew.at
              have m1 := meet_tri l.a (hsz l (by simp)).1 x.a (τ.k + 1 + 1, 1) b
              cases h3 : (meet l.a x.a b).1 with
              | false =>
                rw [h3] at m1
                have hG0 : tryG meet l x b = (false, (meet l.a x.a b).2) := by unfold tryG; rw [h3]; rfl
                rw [hG0, Bool.false_and, Bool.false_or] at uv
                repeat' (first | (refine CallK.clone mm (bsE b) rfl ⟨.inl rfl, trivial⟩ (by simp only [go_sem, emτ, r1]) (by simp only [go_sem, hnn]) ?_; simp only [go_sem, u0, hnn, r1, r2]) | refine awp_seq_k fun K hK => ?_ | ((first | refine awp_region_k (by kernel_rfl) fun R hR => ?_ | refine awp_draw mixed (by kernel_rfl) (by kernel_rfl) fun R hR => ?_); simp only [go_sem, u0, u1, u2, u6, u7, u19, u20, u21, uh, r1, r2, u38, u39, u40, jz, e2, emτ, hnn, htk, ht1, Int.toNat_natCast]) | ((first | (refine hR _ ?_; clear hR R) | refine awp_skip ?_ | refine awp_exit ?_ | refine awp_ret ?_); try simp only [thenA, inBlockA, reduceIte, reduceCtorEq, Nat.reduceEqDiff, if_false, if_true]) | ((first | refine hK _ ?_ | (clear hK K; first | refine hK _ ?_ | (clear hK K; first | refine hK _ ?_ | (clear hK K; first | refine hK _ ?_ | (clear hK K; refine hK _ ?_))))); clear hK K) | refine awp_true rfl rfl ?_ | refine awp_false rfl rfl ?_ | refine awp_block ?_ | ((first | refine CallK.chg (enter141) (m1) ?_ (agM _ (by simp only [go_sem, u0])) (Fr.rfl' _ _) ?_ | refine CallD.chg (enter141) (m1) ?_ (agM _ (by simp only [go_sem, u0])) (Fr.rfl' _ _) (by first | assumption | exact List.cons_ne_nil _ _) ?_); (focus first | ((repeat (first | exact trivial | refine ⟨(by first | exact Or.inl rfl | exact Or.inr rfl), ?_⟩)); done) | (simp only [coL, AV.dat, true_or, or_true, AV.d.injEq, go_sem]; done)); simp only [go_sem, u0, u1, u2, u6, u7, u19, u20, u21, uh, r1, r2, u38, u39, u40, jz, e2, emτ, hnn, htk, ht1, Int.toNat_natCast]) | refine And.intro (by first | ((repeat' first | omega | exact trivial | rfl | assumption | (intro a e; subst e; rfl) | exact map_sz fun a => (by simp only [go_sem]) | refine And.intro ?_ ?_); done) | fail) ?_ | fail)
                refine ⟨⟨j + 1, ?_⟩, ?_⟩
                rotate_left
                · simp only [go_sem, u0, u1, u2, u6, u7, u19, u20, u21, uh, r1, r2, u38, u39, u40]; omega
                simp only [go_sem, u0, u1, u2, u6, u7, u19, u20, u21, uh, r1, r2, u38, u39, u40]
                and_intros; all_goals try (first | rfl | omega | assumption | ((repeat (first | exact Fr.rfl' _ _ | assumption | refine Fr.updk ?_ (by omega) _)); done))
                refine Fr.stH ?_ _ (fun n hn => by simp only [List.mem_cons, List.not_mem_nil, or_false] at hn; subst hn; show k ≤ τ.k + 1 + 1; omega)
                repeat (first | assumption | refine Fr.updk ?_ (by omega) _)
              | true =>
                rw [h3] at m1
                have hG0 : tryG meet l x b = meet l.b x.b (meet l.a x.a b).2 := by unfold tryG; rw [h3]; rfl
                rw [hG0] at uv
                generalize (meet l.a x.a b).2 = b1 at m1 uv hG0
                have m2 := meet_tri l.b (hsz l (by simp)).2 x.b (τ.k + 1 + 1, 1) b1
                cases h4 : (meet l.b x.b b1).1 with
                | false =>
                  rw [h4] at m2
                  rw [h4, Bool.false_and, Bool.false_or] at uv
                  repeat' (first | (refine CallK.clone mm (bsE b) rfl ⟨.inl rfl, trivial⟩ (by simp only [go_sem, emτ, r1]) (by simp only [go_sem, hnn]) ?_; simp only [go_sem, u0, hnn, r1, r2]) | refine awp_seq_k fun K hK => ?_ | ((first | refine awp_region_k (by kernel_rfl) fun R hR => ?_ | refine awp_draw mixed (by kernel_rfl) (by kernel_rfl) fun R hR => ?_); simp only [go_sem, u0, u1, u2, u6, u7, u19, u20, u21, uh, r1, r2, u38, u39, u40, jz, e2, emτ, hnn, htk, ht1, Int.toNat_natCast]) | ((first | (refine hR _ ?_; clear hR R) | refine awp_skip ?_ | refine awp_exit ?_ | refine awp_ret ?_); try simp only [thenA, inBlockA, reduceIte, reduceCtorEq, Nat.reduceEqDiff, if_false, if_true]) | ((first | refine hK _ ?_ | (clear hK K; first | refine hK _ ?_ | (clear hK K; first | refine hK _ ?_ | (clear hK K; first | refine hK _ ?_ | (clear hK K; refine hK _ ?_))))); clear hK K) | refine awp_true rfl rfl ?_ | refine awp_false rfl rfl ?_ | refine awp_block ?_ | ((first | refine CallK.chg (enter141) (m1) ?_ (agM _ (by simp only [go_sem, u0])) (Fr.rfl' _ _) ?_ | refine CallD.chg (enter141) (m1) ?_ (agM _ (by simp only [go_sem, u0])) (Fr.rfl' _ _) (by first | assumption | exact List.cons_ne_nil _ _) ?_); (focus first | ((repeat (first | exact trivial | refine ⟨(by first | exact Or.inl rfl | exact Or.inr rfl), ?_⟩)); done) | (simp only [coL, AV.dat, true_or, or_true, AV.d.injEq, go_sem]; done)); simp only [go_sem, u0, u1, u2, u6, u7, u19, u20, u21, uh, r1, r2, u38, u39, u40, jz, e2, emτ, hnn, htk, ht1, Int.toNat_natCast]) | ((first | refine CallK.chg (enter141) (m2) ?_ (agM _ (by simp only [go_sem, u0, mtO])) (Fr.rfl' _ _) ?_ | refine CallD.chg (enter141) (m2) ?_ (agM _ (by simp only [go_sem, u0, mtO])) (Fr.rfl' _ _) (by first | assumption | exact List.cons_ne_nil _ _) ?_); (focus first | ((repeat (first | exact trivial | refine ⟨(by first | exact Or.inl rfl | exact Or.inr rfl), ?_⟩)); done) | (simp only [coL, AV.dat, true_or, or_true, AV.d.injEq, go_sem]; done)); simp only [go_sem, u0, u1, u2, u6, u7, u19, u20, u21, uh, r1, r2, u38, u39, u40, jz, e2, emτ, hnn, htk, ht1, Int.toNat_natCast]) | refine And.intro (by first | ((repeat' first | omega | exact trivial | rfl | assumption | (intro a e; subst e; rfl) | exact map_sz fun a => (by simp only [go_sem]) | refine And.intro ?_ ?_); done) | fail) ?_ | fail)
                  refine ⟨⟨j + 1, ?_⟩, ?_⟩
                  rotate_left
                  · simp only [go_sem, u0, u1, u2, u6, u7, u19, u20, u21, uh, r1, r2, u38, u39, u40]; omega
                  simp only [go_sem, u0, u1, u2, u6, u7, u19, u20, u21, uh, r1, r2, u38, u39, u40]
                  and_intros; all_goals try (first | rfl | omega | assumption | ((repeat (first | exact Fr.rfl' _ _ | assumption | refine Fr.updk ?_ (by omega) _)); done))
                  refine Fr.stH ?_ _ (fun n hn => by simp only [List.mem_cons, List.not_mem_nil, or_false] at hn; subst hn; show k ≤ τ.k + 1 + 1; omega)
                  refine Fr.stH ?_ _ (fun n hn => by simp only [List.mem_cons, List.not_mem_nil, or_false] at hn; subst hn; show k ≤ τ.k + 1 + 1; omega)
                  repeat (first | assumption | refine Fr.updk ?_ (by omega) _)
                | true =>
                  rw [h4] at m2
                  rw [h4, Bool.true_and] at uv
                  generalize (meet l.b x.b b1).2 = b2 at m2 uv hG0
                  have m3 := ih (τ.k + 1 + 1, 1) b2
                  cases h5 : covG meet c d b2 with
                  | false =>
                    rw [h5] at m3
                    rw [h5, Bool.false_or] at uv
                    repeat' (first | (refine CallK.clone mm (bsE b) rfl ⟨.inl rfl, trivial⟩ (by simp only [go_sem, emτ, r1]) (by simp only [go_sem, hnn]) ?_; simp only [go_sem, u0, hnn, r1, r2]) | (refine And.intro ⟨fun a e => (by subst e; rfl), by omega, by omega, by omega, map_sz (by intro a; simp only [go_sem])⟩ ?_) | refine awp_seq_k fun K hK => ?_ | ((first | refine awp_region_k (by kernel_rfl) fun R hR => ?_ | refine awp_draw mixed (by kernel_rfl) (by kernel_rfl) fun R hR => ?_); simp only [go_sem, u0, u1, u2, u6, u7, u19, u20, u21, uh, r1, r2, u38, u39, u40, jz, e2, emτ, hnn, htk, ht1, Int.toNat_natCast]) | ((first | (refine hR _ ?_; clear hR R) | refine awp_skip ?_ | refine awp_exit ?_ | refine awp_ret ?_); try simp only [thenA, inBlockA, reduceIte, reduceCtorEq, Nat.reduceEqDiff, if_false, if_true]) | ((first | refine hK _ ?_ | (clear hK K; first | refine hK _ ?_ | (clear hK K; first | refine hK _ ?_ | (clear hK K; first | refine hK _ ?_ | (clear hK K; refine hK _ ?_))))); clear hK K) | refine awp_true rfl rfl ?_ | refine awp_false rfl rfl ?_ | refine awp_block ?_ | ((first | refine CallK.chg (enter141) (m1) ?_ (agM _ (by simp only [go_sem, u0])) (Fr.rfl' _ _) ?_ | refine CallD.chg (enter141) (m1) ?_ (agM _ (by simp only [go_sem, u0])) (Fr.rfl' _ _) (by first | assumption | exact List.cons_ne_nil _ _) ?_); (focus first | ((repeat (first | exact trivial | refine ⟨(by first | exact Or.inl rfl | exact Or.inr rfl), ?_⟩)); done) | (simp only [coL, AV.dat, true_or, or_true, AV.d.injEq, go_sem]; done)); simp only [go_sem, u0, u1, u2, u6, u7, u19, u20, u21, uh, r1, r2, u38, u39, u40, jz, e2, emτ, hnn, htk, ht1, Int.toNat_natCast]) | ((first | refine CallK.chg (enter141) (m2) ?_ (agM _ (by simp only [go_sem, u0, mtO])) (Fr.rfl' _ _) ?_ | refine CallD.chg (enter141) (m2) ?_ (agM _ (by simp only [go_sem, u0, mtO])) (Fr.rfl' _ _) (by first | assumption | exact List.cons_ne_nil _ _) ?_); (focus first | ((repeat (first | exact trivial | refine ⟨(by first | exact Or.inl rfl | exact Or.inr rfl), ?_⟩)); done) | (simp only [coL, AV.dat, true_or, or_true, AV.d.injEq, go_sem]; done)); simp only [go_sem, u0, u1, u2, u6, u7, u19, u20, u21, uh, r1, r2, u38, u39, u40, jz, e2, emτ, hnn, htk, ht1, Int.toNat_natCast]) | ((first | refine CallK.look (enter124) (m3) ?_ (roM _ (by simp only [go_sem, u0, mtO])) (Fr.rfl' _ _) ?_ | refine CallD.look (enter124) (m3) ?_ (roM _ (by simp only [go_sem, u0, mtO])) (Fr.rfl' _ _) (by first | assumption | exact List.cons_ne_nil _ _) ?_); (focus first | ((repeat (first | exact trivial | refine ⟨(by first | exact Or.inl rfl | exact Or.inr rfl), ?_⟩)); done) | (simp only [coL, AV.dat, true_or, or_true, AV.d.injEq, go_sem]; done)); simp only [go_sem, u0, u1, u2, u6, u7, u19, u20, u21, uh, r1, r2, u38, u39, u40, jz, e2, emτ, hnn, htk, ht1, Int.toNat_natCast]) | refine And.intro (by first | ((repeat' first | omega | exact trivial | rfl | assumption | (intro a e; subst e; rfl) | exact map_sz fun a => (by simp only [go_sem]) | refine And.intro ?_ ?_); done) | fail) ?_ | fail)
                    refine ⟨⟨j + 1, ?_⟩, ?_⟩
                    rotate_left
                    · simp only [go_sem, u0, u1, u2, u6, u7, u19, u20, u21, uh, r1, r2, u38, u39, u40]; omega
                    simp only [go_sem, u0, u1, u2, u6, u7, u19, u20, u21, uh, r1, r2, u38, u39, u40]
                    and_intros; all_goals try (first | rfl | omega | assumption | ((repeat (first | exact Fr.rfl' _ _ | assumption | refine Fr.updk ?_ (by omega) _)); done))
                    refine Fr.stH ?_ _ (fun n hn => by simp only [List.mem_cons, List.not_mem_nil, or_false] at hn; subst hn; show k ≤ τ.k + 1 + 1; omega)
                    refine Fr.stH ?_ _ (fun n hn => by simp only [List.mem_cons, List.not_mem_nil, or_false] at hn; subst hn; show k ≤ τ.k + 1 + 1; omega)
                    repeat (first | assumption | refine Fr.updk ?_ (by omega) _)
                  | true =>
                    rw [h5] at m3
                    rw [h5, Bool.true_or] at uv
                    repeat' (first | (refine CallK.clone mm (bsE b) rfl ⟨.inl rfl, trivial⟩ (by simp only [go_sem, emτ, r1]) (by simp only [go_sem, hnn]) ?_; simp only [go_sem, u0, hnn, r1, r2]) | (refine And.intro ⟨fun a e => (by subst e; rfl), by omega, by omega, by omega, map_sz (by intro a; simp only [go_sem])⟩ ?_) | refine awp_seq_k fun K hK => ?_ | ((first | refine awp_region_k (by kernel_rfl) fun R hR => ?_ | refine awp_draw mixed (by kernel_rfl) (by kernel_rfl) fun R hR => ?_); simp only [go_sem, u0, u1, u2, u6, u7, u19, u20, u21, uh, r1, r2, u38, u39, u40, jz, e2, emτ, hnn, htk, ht1, Int.toNat_natCast]) | ((first | (refine hR _ ?_; clear hR R) | refine awp_skip ?_ | refine awp_exit ?_ | refine awp_ret ?_); try simp only [thenA, inBlockA, reduceIte, reduceCtorEq, Nat.reduceEqDiff, if_false, if_true]) | ((first | refine hK _ ?_ | (clear hK K; first | refine hK _ ?_ | (clear hK K; first | refine hK _ ?_ | (clear hK K; first | refine hK _ ?_ | (clear hK K; refine hK _ ?_))))); clear hK K) | refine awp_true rfl rfl ?_ | refine awp_false rfl rfl ?_ | refine awp_block ?_ | ((first | refine CallK.chg (enter141) (m1) ?_ (agM _ (by simp only [go_sem, u0])) (Fr.rfl' _ _) ?_ | refine CallD.chg (enter141) (m1) ?_ (agM _ (by simp only [go_sem, u0])) (Fr.rfl' _ _) (by first | assumption | exact List.cons_ne_nil _ _) ?_); (focus first | ((repeat (first | exact trivial | refine ⟨(by first | exact Or.inl rfl | exact Or.inr rfl), ?_⟩)); done) | (simp only [coL, AV.dat, true_or, or_true, AV.d.injEq, go_sem]; done)); simp only [go_sem, u0, u1, u2, u6, u7, u19, u20, u21, uh, r1, r2, u38, u39, u40, jz, e2, emτ, hnn, htk, ht1, Int.toNat_natCast]) | ((first | refine CallK.chg (enter141) (m2) ?_ (agM _ (by simp only [go_sem, u0, mtO])) (Fr.rfl' _ _) ?_ | refine CallD.chg (enter141) (m2) ?_ (agM _ (by simp only [go_sem, u0, mtO])) (Fr.rfl' _ _) (by first | assumption | exact List.cons_ne_nil _ _) ?_); (focus first | ((repeat (first | exact trivial | refine ⟨(by first | exact Or.inl rfl | exact Or.inr rfl), ?_⟩)); done) | (simp only [coL, AV.dat, true_or, or_true, AV.d.injEq, go_sem]; done)); simp only [go_sem, u0, u1, u2, u6, u7, u19, u20, u21, uh, r1, r2, u38, u39, u40, jz, e2, emτ, hnn, htk, ht1, Int.toNat_natCast]) | ((first | refine CallK.look (enter124) (m3) ?_ (roM _ (by simp only [go_sem, u0, mtO])) (Fr.rfl' _ _) ?_ | refine CallD.look (enter124) (m3) ?_ (roM _ (by simp only [go_sem, u0, mtO])) (Fr.rfl' _ _) (by first | assumption | exact List.cons_ne_nil _ _) ?_); (focus first | ((repeat (first | exact trivial | refine ⟨(by first | exact Or.inl rfl | exact Or.inr rfl), ?_⟩)); done) | (simp only [coL, AV.dat, true_or, or_true, AV.d.injEq, go_sem]; done)); simp only [go_sem, u0, u1, u2, u6, u7, u19, u20, u21, uh, r1, r2, u38, u39, u40, jz, e2, emτ, hnn, htk, ht1, Int.toNat_natCast]) | refine And.intro (by first | ((repeat' first | omega | exact trivial | rfl | assumption | (intro a e; subst e; rfl) | exact map_sz fun a => (by simp only [go_sem]) | refine And.intro ?_ ?_); done) | fail) ?_ | fail)
                    (first | refine ret_pure ?_ ?_ ?_ | refine ret_ro ?_ ?_ ?_); focus exact (by simp only [Try.results124, resOkL, resOk, Try.ntmps124, List.toList_toArray]; first | decide | (simp only [go_sem, u6]; done) | (simp only [go_sem, u6]; and_intros <;> first | omega | rfl | decide))
                    rotate_left; focus exact (by repeat (first | exact Fr.rfl' _ _ | assumption | refine Fr.updk ?_ (by omega) _ | refine Fr.stH ?_ _ (by intro n hn; simp only [List.mem_cons, List.not_mem_nil, or_false] at hn; subst hn; simp only; omega)))
                    simp only [resA, resV, Try.results124, go_sem, u6]
                    all_goals try (first | exact Co.t2 (.dat rfl) (.dat rfl) | exact Co.t3 (.dat rfl) (.dat rfl) (.dat rfl))
                    exact co_b uv
            · have jz : ¬ ((j : Int) < ((2 : Nat) : Int)) := by omega
              obtain rfl : j = 2 := by omega
              rw [List.drop_eq_nil_of_le (by omega), List.any_nil, Bool.false_or] at uv
              repeat' (first | refine awp_seq_k fun K hK => ?_ | ((first | refine awp_region_k (by kernel_rfl) fun R hR => ?_ | refine awp_draw mixed (by kernel_rfl) (by kernel_rfl) fun R hR => ?_); simp only [go_sem, u0, u1, u2, u6, u7, u19, u20, u21, uh, r1, r2, u38, u39, u40, jz, emτ]) | ((first | (refine hR _ ?_; clear hR R) | refine awp_skip ?_ | refine awp_exit ?_ | refine awp_ret ?_); try simp only [thenA, inBlockA, reduceIte, reduceCtorEq, Nat.reduceEqDiff, if_false, if_true]) | ((first | refine hK _ ?_ | (clear hK K; first | refine hK _ ?_ | (clear hK K; first | refine hK _ ?_ | (clear hK K; first | refine hK _ ?_ | (clear hK K; refine hK _ ?_))))); clear hK K) | refine awp_true rfl rfl ?_ | refine awp_false rfl rfl ?_ | refine awp_block ?_ | refine And.intro (by first | ((repeat' first | omega | exact trivial | rfl | assumption | (intro a e; subst e; rfl) | exact map_sz fun a => (by simp only [go_sem]) | refine And.intro ?_ ?_); done) | fail) ?_ | fail)
              refine ⟨⟨i + 1, ?_⟩, ?_⟩
              rotate_left
              · simp only [go_sem, u0, u1, u2, u6, u7, u19, u20, u21, uh, r1, r2, s21]; omega
              simp only [go_sem, u0, u1, u2, u6, u7, u19, u20, u21, uh, r1, r2, s21]
              and_intros; all_goals try (first | rfl | omega | assumption | ((repeat (first | exact Fr.rfl' _ _ | assumption | refine Fr.updk ?_ (by omega) _)); done))
      · have hz : ¬ ((i : Int) < (d.length : Int)) := by omega
        obtain rfl : i = d.length := by omega
        rw [List.drop_length, List.any_nil] at hv
        repeat' (first | refine awp_seq_k fun K hK => ?_ | ((first | refine awp_region_k (by kernel_rfl) fun R hR => ?_ | refine awp_draw mixed (by kernel_rfl) (by kernel_rfl) fun R hR => ?_); simp only [go_sem, s0, s1, s2, s6, s7, s19, s20, s21, hz]) | ((first | (refine hR _ ?_; clear hR R) | refine awp_skip ?_ | refine awp_exit ?_ | refine awp_ret ?_); try simp only [thenA, inBlockA, reduceIte, reduceCtorEq, Nat.reduceEqDiff, if_false, if_true]) | ((first | refine hK _ ?_ | (clear hK K; first | refine hK _ ?_ | (clear hK K; first | refine hK _ ?_ | (clear hK K; first | refine hK _ ?_ | (clear hK K; refine hK _ ?_))))); clear hK K) | refine awp_true rfl rfl ?_ | refine awp_false rfl rfl ?_ | refine awp_block ?_ | refine And.intro (by first | ((repeat' first | omega | exact trivial | rfl | assumption | (intro a e; subst e; rfl) | exact map_sz fun a => (by simp only [go_sem]) | refine And.intro ?_ ?_); done) | fail) ?_ | fail)
        (first | refine ret_pure ?_ ?_ ?_ | refine ret_ro ?_ ?_ ?_); focus exact (by simp only [Try.results124, resOkL, resOk, Try.ntmps124, List.toList_toArray]; first | decide | (simp only [go_sem, s6]; done) | (simp only [go_sem, s6]; and_intros <;> first | omega | rfl | decide))
        rotate_left; focus exact (by repeat (first | exact Fr.rfl' _ _ | assumption | refine Fr.updk ?_ (by omega) _ | refine Fr.stH ?_ _ (by intro n hn; simp only [List.mem_cons, List.not_mem_nil, or_false] at hn; subst hn; simp only; omega)))
        simp only [resA, resV, Try.results124, go_sem, s6]
        all_goals try (first | exact Co.t2 (.dat rfl) (.dat rfl) | exact Co.t3 (.dat rfl) (.dat rfl) (.dat rfl))
        exact co_b hv
end Go.Proofs.Ytmeekpinkfpnhaa
namespace Go.Proofs.Ytmeekpinkfpnhaa
open Go.RowKit
set_option maxRecDepth 20000 in
theorem coversAll_tri (c d : List Lt) (hc : c.length ≤ 4000000) (hd : d.length ≤ 4000000) (hsz : ∀ l ∈ c, l.a.size ≤ 4000000 ∧ l.b.size ≤ 4000000) : Tri Try.prog 90 [.d (clDV c), .d (clDV d)] (pure' (bA (covG meet c d []))) := by
  refine tri_enter Try.func90 rfl Try.ntmps90 (by simp only [List.length_cons, List.length_nil]; omega) fun w0 h0 k hrd hwr => ?_
  have h := covers_tri d hd c hc hsz (k + 1, 0) []
  repeat' (first | refine awp_seq_k fun K hK => ?_ | ((first | refine awp_region_k (by kernel_rfl) fun R hR => ?_ | refine awp_draw mixed (by kernel_rfl) (by kernel_rfl) fun R hR => ?_); simp only [go_sem]) | ((first | (refine hR _ ?_; clear hR R) | refine awp_skip ?_ | refine awp_exit ?_ | refine awp_ret ?_); try simp only [thenA, inBlockA, reduceIte, reduceCtorEq, Nat.reduceEqDiff, if_false, if_true]) | ((first | refine hK _ ?_ | (clear hK K; first | refine hK _ ?_ | (clear hK K; first | refine hK _ ?_ | (clear hK K; first | refine hK _ ?_ | (clear hK K; refine hK _ ?_))))); clear hK K) | refine awp_true rfl rfl ?_ | refine awp_false rfl rfl ?_ | refine awp_block ?_ | ((first | refine CallK.look (enter124) (h) ?_ (roM _ (by simp only [go_sem, bsE, List.map_nil])) (Fr.rfl' _ _) ?_ | refine CallD.look (enter124) (h) ?_ (roM _ (by simp only [go_sem, bsE, List.map_nil])) (Fr.rfl' _ _) (by first | assumption | exact List.cons_ne_nil _ _) ?_); (focus first | ((repeat (first | exact trivial | refine ⟨(by first | exact Or.inl rfl | exact Or.inr rfl), ?_⟩)); done) | (simp only [coL, AV.dat, true_or, or_true, AV.d.injEq, go_sem]; done)); simp only [go_sem]) | refine And.intro (by first | ((repeat' first | omega | exact trivial | rfl | assumption | (intro a e; subst e; rfl) | exact map_sz fun a => (by simp only [go_sem]) | refine And.intro ?_ ?_); done) | fail) ?_ | fail)
  (first | refine ret_pure ?_ ?_ ?_ | refine ret_ro ?_ ?_ ?_); focus exact (by simp only [Try.results90, resOkL, resOk, Try.ntmps90, List.toList_toArray]; first | decide | (simp only [go_sem]; done) | (simp only [go_sem]; and_intros <;> first | omega | rfl | decide))
  rotate_left; focus exact (by repeat (first | exact Fr.rfl' _ _ | assumption | refine Fr.updk ?_ (by omega) _))
  simp only [resA, resV, Try.results90, go_sem]
  all_goals try (first | exact Co.t2 (.dat rfl) (.dat rfl) | exact Co.t3 (.dat rfl) (.dat rfl) (.dat rfl))
  all_goals exact .dat rfl
def subAns (g : List Int) (c d : List Lt) : Bool × Int := if clsOk g [c, d] ≠ 0 then (false, clsOk g [c, d]) else (covG meet c d [], 0)
set_option maxRecDepth 20000 in
theorem subsumes_tri (g : List Int) (c d : List Lt) (hc : c.length ≤ 4000000) (hd : d.length ≤ 4000000) (hsz : ∀ l ∈ c, l.a.size ≤ 4000000 ∧ l.b.size ≤ 4000000) : Tri Try.prog 31 [.d (sgDV g), .d (clDV c), .d (clDV d)] (pure' (.tup [bA (subAns g c d).1, iA (subAns g c d).2])) := by
  have hcc := clCheck_tri g [c, d] (by simp) (by intro x hx; simp only [List.mem_cons, List.not_mem_nil, or_false] at hx; rcases hx with rfl | rfl <;> omega)
  refine tri_enter Try.func31 rfl Try.ntmps31 (by simp only [List.length_cons, List.length_nil]; omega) fun w0 h0 k hrd hwr => ?_
  cases ho : clsOk g [c, d] == 0 with
  | false =>
    have ho' : (clsOk g [c, d] != 0) = true := by simpa using ho
    have ha : subAns g c d = (false, clsOk g [c, d]) := by unfold subAns; rw [if_pos (by simpa using ho)]
    repeat' (first | refine awp_seq_k fun K hK => ?_ | ((first | refine awp_region_k (by kernel_rfl) fun R hR => ?_ | refine awp_draw mixed (by kernel_rfl) (by kernel_rfl) fun R hR => ?_); simp only [go_sem, ho']) | ((first | (refine hR _ ?_; clear hR R) | refine awp_skip ?_ | refine awp_exit ?_ | refine awp_ret ?_); try simp only [thenA, inBlockA, reduceIte, reduceCtorEq, Nat.reduceEqDiff, if_false, if_true]) | ((first | refine hK _ ?_ | (clear hK K; first | refine hK _ ?_ | (clear hK K; first | refine hK _ ?_ | (clear hK K; first | refine hK _ ?_ | (clear hK K; refine hK _ ?_))))); clear hK K) | refine awp_true rfl rfl ?_ | refine awp_false rfl rfl ?_ | refine awp_block ?_ | ((first | refine CallK.pure (enter36) (hcc) ?_ ?_ | refine CallD.pure (enter36) (hcc) ?_ ?_); (focus first | ((repeat (first | exact trivial | refine ⟨(by first | exact Or.inl rfl | exact Or.inr rfl), ?_⟩)); done) | (simp only [coL, AV.dat, true_or, or_true, AV.d.injEq, go_sem]; done)); simp only [go_sem, ho']) | refine And.intro (by first | ((repeat' first | omega | exact trivial | rfl | assumption | (intro a e; subst e; rfl) | exact map_sz fun a => (by simp only [go_sem]) | refine And.intro ?_ ?_); done) | fail) ?_ | fail)
    rw [ha]
    (first | refine ret_pure ?_ ?_ ?_ | refine ret_ro ?_ ?_ ?_); focus exact (by simp only [Try.results31, resOkL, resOk, Try.ntmps31, List.toList_toArray]; first | decide | (simp only [go_sem]; done) | (simp only [go_sem]; and_intros <;> first | omega | rfl | decide))
    rotate_left; focus exact (by repeat (first | exact Fr.rfl' _ _ | assumption | refine Fr.updk ?_ (by omega) _))
    simp only [resA, resV, Try.results31, go_sem]
    all_goals try (first | exact Co.t2 (.dat rfl) (.dat rfl) | exact Co.t3 (.dat rfl) (.dat rfl) (.dat rfl))
  | true =>
    have ho2 : clsOk g [c, d] = 0 := by simpa using ho
    have ha : subAns g c d = (covG meet c d [], 0) := by unfold subAns; rw [if_neg (by simp [ho2])]
    repeat' (first | refine awp_seq_k fun K hK => ?_ | ((first | refine awp_region_k (by kernel_rfl) fun R hR => ?_ | refine awp_draw mixed (by kernel_rfl) (by kernel_rfl) fun R hR => ?_); simp only [go_sem, ho2, bne_self_eq_false]) | ((first | (refine hR _ ?_; clear hR R) | refine awp_skip ?_ | refine awp_exit ?_ | refine awp_ret ?_); try simp only [thenA, inBlockA, reduceIte, reduceCtorEq, Nat.reduceEqDiff, if_false, if_true]) | ((first | refine hK _ ?_ | (clear hK K; first | refine hK _ ?_ | (clear hK K; first | refine hK _ ?_ | (clear hK K; first | refine hK _ ?_ | (clear hK K; refine hK _ ?_))))); clear hK K) | refine awp_true rfl rfl ?_ | refine awp_false rfl rfl ?_ | refine awp_block ?_ | ((first | refine CallK.pure (enter36) (hcc) ?_ ?_ | refine CallD.pure (enter36) (hcc) ?_ ?_ | refine CallK.pure (enter90) (coversAll_tri c d hc hd hsz) ?_ ?_ | refine CallD.pure (enter90) (coversAll_tri c d hc hd hsz) ?_ ?_); (focus first | ((repeat (first | exact trivial | refine ⟨(by first | exact Or.inl rfl | exact Or.inr rfl), ?_⟩)); done) | (simp only [coL, AV.dat, true_or, or_true, AV.d.injEq, go_sem]; done)); simp only [go_sem, ho2, bne_self_eq_false]) | refine And.intro (by first | ((repeat' first | omega | exact trivial | rfl | assumption | (intro a e; subst e; rfl) | exact map_sz fun a => (by simp only [go_sem]) | refine And.intro ?_ ?_); done) | fail) ?_ | fail)
    rw [ha]
    (first | refine ret_pure ?_ ?_ ?_ | refine ret_ro ?_ ?_ ?_); focus exact (by simp only [Try.results31, resOkL, resOk, Try.ntmps31, List.toList_toArray]; first | decide | (simp only [go_sem]; done) | (simp only [go_sem]; and_intros <;> first | omega | rfl | decide))
    rotate_left; focus exact (by repeat (first | exact Fr.rfl' _ _ | assumption | refine Fr.updk ?_ (by omega) _))
    simp only [resA, resV, Try.results31, go_sem]
    all_goals try (first | exact Co.t2 (.dat rfl) (.dat rfl) | exact Co.t3 (.dat rfl) (.dat rfl) (.dat rfl))
end Go.Proofs.Ytmeekpinkfpnhaa
