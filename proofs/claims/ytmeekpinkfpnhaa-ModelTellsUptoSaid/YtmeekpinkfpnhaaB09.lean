/- superposeref.FirstVars. Models: what is plain. No program in sight. Models checked: model.power, superposeref.PowerOf, model.Check, superposeref.CheckModel. What models, clauses, lists of numbers, handed in, read as. The laws' helpers: small, fn, va. Models checked: model.Check. Values of terms in models: what is plain. No program in sight. -/
import Derived.Test.YtmeekpinkfpnhaaB08
set_option linter.unusedSimpArgs false
set_option linter.unusedSectionVars false
set_option linter.unusedVariables false
set_option linter.unnecessarySimpa false
set_option linter.all false
namespace Go.Proofs.Ytmeekpinkfpnhaa
open Go.RowKit
set_option linter.unusedSimpArgs false
set_option linter.unusedSectionVars false

theorem parts_len (t : Tm) : (parts t).length = t.size := (size_parts t).symm
set_option maxHeartbeats 1000000 in
set_option maxRecDepth 20000 in
theorem firstVars_new (l : List Tm) (hl : Tm.size.sizes l ≤ 4000000) (n' : Nm) : Tri Try.prog 22 [.d (.sl (l.map tmDV))] (newEff 3 n' ((firstVars l).map iD)) := by
  refine tri_enter Try.func22 rfl Try.ntmps22 (by simp only [List.length_cons, List.length_nil]; omega) fun w0 h0 k hrd hwr => ?_
  have hn' : n'.1 < k := hwr _ (List.mem_cons_self ..)
  have h0' : h0 n' = none := hrd _ (List.mem_cons_self ..)
  have hll := Tm.sizes_len l
  repeat' (first
    | refine awp_ghost (ghost_nil (i := 3) (e := 3) rfl) ?_
    | refine awp_seq_k fun K hK => ?_
    | (refine awp_region_k (by kernel_rfl) fun R hR => ?_; simp only [go_sem])
    | (refine awp_draw mixed (by kernel_rfl) (by kernel_rfl) fun R hR => ?_; simp only [go_sem])
    | (refine hR _ ?_; clear hR R; try simp only [thenA, inBlockA, reduceIte, reduceCtorEq, Nat.reduceEqDiff, if_false, if_true])
    | (refine hK _ ?_; clear hK K)
    | (clear hK K; refine hK _ ?_; clear hK K)
    | (clear hK K; clear hK K; refine hK _ ?_; clear hK K)
    | (clear hK K; clear hK K; clear hK K; refine hK _ ?_; clear hK K)
    | (clear hK K; clear hK K; clear hK K; clear hK K; refine hK _ ?_; clear hK K)
    | refine awp_true rfl rfl ?_
    | refine awp_false rfl rfl ?_
    | (refine awp_cond rfl rfl (fun hc => ?_) (fun hc => ?_) <;> (try simp only [go_sem] at hc) <;> (try (exfalso; omega)))
    | refine awp_block ?_
    | (refine awp_skip ?_; try simp only [thenA, inBlockA, reduceIte, reduceCtorEq, Nat.reduceEqDiff, if_false, if_true])
    | (refine awp_exit ?_; try simp only [thenA, inBlockA, reduceIte, reduceCtorEq, Nat.reduceEqDiff, if_false, if_true])
    | (refine awp_ret ?_; try simp only [thenA, inBlockA, reduceIte, reduceCtorEq, Nat.reduceEqDiff, if_false, if_true])
    | (refine runL_split ?_ (fun hc => ?_) (fun hc => ?_); (simp only [go_sem]; exact rfl); all_goals (try simp only [go_sem, hc]); all_goals (try simp only [go_sem] at hc); all_goals (try (exfalso; omega)))
    | (refine runD_split ?_ (fun hc => ?_) (fun hc => ?_); (simp only [go_sem]; exact rfl); all_goals (try simp only [go_sem, hc]); all_goals (try simp only [go_sem] at hc); all_goals (try (exfalso; omega)))
    | refine And.intro (by first | omega | exact trivial | rfl | assumption | (apply map_sz; intro a; simp only [go_sem]; done) | ((and_intros <;> first | omega | exact trivial | rfl | assumption | (apply map_sz; intro a; simp only [go_sem]; done) | fail); done) | fail) ?_
    | fail)
  refine awp_loop (fun σ => ∃ (i : Nat) (o : List Int), σ.t 0 = .d (.sl (l.map tmDV)) ∧ σ.t 3 = .own (k + 1 + 1, 0) (o.map iD) ∧ σ.t 4 = iA i ∧ σ.h (k + 1 + 1, 0) = some (.perm 3 o.length) ∧ Fr k h0 σ.h ∧ k + 1 + 1 < σ.k ∧ i ≤ l.length ∧ o.length + Tm.size.sizes (l.drop i) ≤ 4000000 ∧ addVs o ((l.drop i).flatMap parts) = firstVars l) (fun σ => l.length - (intOf' (σ.t 4)).toNat) ?_ ?_
  · refine ⟨0, [], ?_⟩
    simp only [go_sem, List.drop_zero]
    and_intros; all_goals try (first | rfl | omega | assumption | ((repeat (first | exact Fr.rfl' _ _ | assumption | refine Fr.updk ?_ (by omega) _)); done))
  · rintro σ ⟨i, o, s0, s3, s4, sh, hF, hk, hi, ho, hv⟩
    have hne := ltne hk
    rcases Nat.lt_or_ge i l.length with hlt | hge
    · have hz : (i : Int) < (l.length : Int) := by omega
      have e1 : (l.map tmDV).getD i default = tmDV l[i] := nth_map tmDV hlt _
      rw [List.drop_eq_getElem_cons hlt, List.flatMap_cons, addVs_append] at hv
      rw [List.drop_eq_getElem_cons hlt, Tm.size.sizes] at ho
      have hpl := parts_len l[i]
      repeat' (first
        | refine awp_seq_k fun K hK => ?_
        | (refine awp_region_k (by kernel_rfl) fun R hR => ?_; simp only [go_sem, s0, s3, s4, sh, hz, e1, hne, Int.toNat_natCast])
        | (refine awp_draw mixed (by kernel_rfl) (by kernel_rfl) fun R hR => ?_; simp only [go_sem, s0, s3, s4, sh, hz, e1, hne, Int.toNat_natCast])
        | (refine hR _ ?_; clear hR R; try simp only [thenA, inBlockA, reduceIte, reduceCtorEq, Nat.reduceEqDiff, if_false, if_true])
        | (refine hK _ ?_; clear hK K)
        | (clear hK K; refine hK _ ?_; clear hK K)
        | (clear hK K; clear hK K; refine hK _ ?_; clear hK K)
        | (clear hK K; clear hK K; clear hK K; refine hK _ ?_; clear hK K)
        | (clear hK K; clear hK K; clear hK K; clear hK K; refine hK _ ?_; clear hK K)
        | refine awp_true rfl rfl ?_
        | refine awp_false rfl rfl ?_
        | (refine awp_cond rfl rfl (fun hc => ?_) (fun hc => ?_) <;> (try simp only [go_sem, s0, s3, s4, sh, hz, e1, hne, Int.toNat_natCast] at hc) <;> (try (exfalso; omega)))
        | refine awp_block ?_
        | (refine awp_skip ?_; try simp only [thenA, inBlockA, reduceIte, reduceCtorEq, Nat.reduceEqDiff, if_false, if_true])
        | (refine awp_exit ?_; try simp only [thenA, inBlockA, reduceIte, reduceCtorEq, Nat.reduceEqDiff, if_false, if_true])
        | (refine awp_ret ?_; try simp only [thenA, inBlockA, reduceIte, reduceCtorEq, Nat.reduceEqDiff, if_false, if_true])
        | (refine runL_split ?_ (fun hc => ?_) (fun hc => ?_); (simp only [go_sem, s0, s3, s4, sh, hz, e1, hne, Int.toNat_natCast]; exact rfl); all_goals (try simp only [go_sem, hc, s0, s3, s4, sh, hz, e1, hne, Int.toNat_natCast]); all_goals (try simp only [go_sem, s0, s3, s4, sh, hz, e1, hne, Int.toNat_natCast] at hc); all_goals (try (exfalso; omega)))
        | (refine runD_split ?_ (fun hc => ?_) (fun hc => ?_); (simp only [go_sem, s0, s3, s4, sh, hz, e1, hne, Int.toNat_natCast]; exact rfl); all_goals (try simp only [go_sem, hc, s0, s3, s4, sh, hz, e1, hne, Int.toNat_natCast]); all_goals (try simp only [go_sem, s0, s3, s4, sh, hz, e1, hne, Int.toNat_natCast] at hc); all_goals (try (exfalso; omega)))
        | (first | (refine CallK.pure (enter63) (partsOf_data l[i] (by unfold Tm.fits; omega) (by omega)) ?_ ?_; (focus first | ((repeat (first | exact trivial | refine ⟨(by first | exact Or.inl rfl | exact Or.inr rfl), ?_⟩)); done) | (simp only [coL, AV.dat, true_or, or_true, AV.d.injEq, go_sem]; done)); simp only [go_sem, s0, s3, s4, sh, hz, e1, hne, Int.toNat_natCast]) | (refine CallD.pure (enter63) (partsOf_data l[i] (by unfold Tm.fits; omega) (by omega)) ?_ ?_; (focus first | ((repeat (first | exact trivial | refine ⟨(by first | exact Or.inl rfl | exact Or.inr rfl), ?_⟩)); done) | (simp only [coL, AV.dat, true_or, or_true, AV.d.injEq, go_sem]; done)); simp only [go_sem, s0, s3, s4, sh, hz, e1, hne, Int.toNat_natCast]))
        | refine And.intro (by first | omega | exact trivial | rfl | assumption | (apply map_sz; intro a; simp only [go_sem]; done) | ((and_intros <;> first | omega | exact trivial | rfl | assumption | (apply map_sz; intro a; simp only [go_sem]; done) | fail); done) | fail) ?_
        | fail)
      refine awp_loop (fun τ => ∃ (j : Nat) (q : List Int), τ.t 0 = .d (.sl (l.map tmDV)) ∧ τ.t 3 = .own (k + 1 + 1, 0) (q.map iD) ∧ τ.t 4 = iA i ∧ τ.t 5 = .d (.sl ((parts l[i]).map tmDV)) ∧ τ.t 6 = iA j ∧ τ.h (k + 1 + 1, 0) = some (.perm 3 q.length) ∧ Fr k h0 τ.h ∧ k + 1 + 1 < τ.k ∧ j ≤ (parts l[i]).length ∧ q.length + ((parts l[i]).length - j) ≤ o.length + (parts l[i]).length ∧ addVs q ((parts l[i]).drop j) = addVs o (parts l[i])) (fun τ => (parts l[i]).length - (intOf' (τ.t 6)).toNat) ?_ ?_
      · refine ⟨0, o, ?_⟩
        simp only [go_sem, s0, s3, s4, sh, hne, List.drop_zero]
        and_intros; all_goals try (first | rfl | omega | assumption | ((repeat (first | exact Fr.rfl' _ _ | assumption | refine Fr.updk ?_ (by omega) _)); done))
      · rintro τ ⟨j, q, u0, u3, u4, u5, u6, uh, uF, uk, uj, uo, uv⟩
        have hne' := ltne uk
        rcases Nat.lt_or_ge j (parts l[i]).length with hlt' | hge'
        · have hz' : (j : Int) < ((parts l[i]).length : Int) := by omega
          have e2 : ((parts l[i]).map tmDV).getD j default = tmDV (parts l[i])[j] := nth_map tmDV hlt' _
          rw [List.drop_eq_getElem_cons hlt'] at uv
          generalize (parts l[i])[j] = x at *
          cases hx : decide (x.v > 0) with
          | false =>
            have hadd : addVs q (x :: (parts l[i]).drop (j + 1)) = addVs q ((parts l[i]).drop (j + 1)) := by
              show addVs (addV q x) _ = _
              unfold addV; rw [if_neg (by simp at hx; omega)]
            rw [hadd] at uv
            repeat' (first
              | refine awp_seq_k fun K hK => ?_
              | (refine awp_region_k (by kernel_rfl) fun R hR => ?_; simp only [go_sem, u0, u3, u4, u5, u6, uh, hz', e2, hne', hx, Int.toNat_natCast])
              | (refine awp_draw mixed (by kernel_rfl) (by kernel_rfl) fun R hR => ?_; simp only [go_sem, u0, u3, u4, u5, u6, uh, hz', e2, hne', hx, Int.toNat_natCast])
              | (refine hR _ ?_; clear hR R; try simp only [thenA, inBlockA, reduceIte, reduceCtorEq, Nat.reduceEqDiff, if_false, if_true])
              | (refine hK _ ?_; clear hK K)
              | (clear hK K; refine hK _ ?_; clear hK K)
              | (clear hK K; clear hK K; refine hK _ ?_; clear hK K)
              | (clear hK K; clear hK K; clear hK K; refine hK _ ?_; clear hK K)
              | (clear hK K; clear hK K; clear hK K; clear hK K; refine hK _ ?_; clear hK K)
              | refine awp_true rfl rfl ?_
              | refine awp_false rfl rfl ?_
              | (refine awp_cond rfl rfl (fun hc => ?_) (fun hc => ?_) <;> (try simp only [go_sem, u0, u3, u4, u5, u6, uh, hz', e2, hne', hx, Int.toNat_natCast] at hc) <;> (try (exfalso; omega)))
              | refine awp_block ?_
              | (refine awp_skip ?_; try simp only [thenA, inBlockA, reduceIte, reduceCtorEq, Nat.reduceEqDiff, if_false, if_true])
              | (refine awp_exit ?_; try simp only [thenA, inBlockA, reduceIte, reduceCtorEq, Nat.reduceEqDiff, if_false, if_true])
              | (refine awp_ret ?_; try simp only [thenA, inBlockA, reduceIte, reduceCtorEq, Nat.reduceEqDiff, if_false, if_true])
              | (refine runL_split ?_ (fun hc => ?_) (fun hc => ?_); (simp only [go_sem, u0, u3, u4, u5, u6, uh, hz', e2, hne', hx, Int.toNat_natCast]; exact rfl); all_goals (try simp only [go_sem, hc, u0, u3, u4, u5, u6, uh, hz', e2, hne', hx, Int.toNat_natCast]); all_goals (try simp only [go_sem, u0, u3, u4, u5, u6, uh, hz', e2, hne', hx, Int.toNat_natCast] at hc); all_goals (try (exfalso; omega)))
              | (refine runD_split ?_ (fun hc => ?_) (fun hc => ?_); (simp only [go_sem, u0, u3, u4, u5, u6, uh, hz', e2, hne', hx, Int.toNat_natCast]; exact rfl); all_goals (try simp only [go_sem, hc, u0, u3, u4, u5, u6, uh, hz', e2, hne', hx, Int.toNat_natCast]); all_goals (try simp only [go_sem, u0, u3, u4, u5, u6, uh, hz', e2, hne', hx, Int.toNat_natCast] at hc); all_goals (try (exfalso; omega)))
              | refine And.intro (by first | omega | exact trivial | rfl | assumption | (apply map_sz; intro a; simp only [go_sem]; done) | ((and_intros <;> first | omega | exact trivial | rfl | assumption | (apply map_sz; intro a; simp only [go_sem]; done) | fail); done) | fail) ?_
              | fail)
            refine ⟨⟨j + 1, q, ?_⟩, ?_⟩
            rotate_left
            · simp only [go_sem, u0, u3, u4, u5, u6, uh, hne']; omega
            simp only [go_sem, u0, u3, u4, u5, u6, uh, hne']
            and_intros; all_goals try (first | rfl | omega | assumption | ((repeat (first | exact Fr.rfl' _ _ | assumption | refine Fr.updk ?_ (by omega) _)); done))
          | true =>
            cases hc : q.contains x.v with
            | true =>
              have hadd : addVs q (x :: (parts l[i]).drop (j + 1)) = addVs q ((parts l[i]).drop (j + 1)) := by
                show addVs (addV q x) _ = _
                unfold addV; rw [if_neg]; rintro ⟨_, h⟩; rw [hc] at h; cases h
              rw [hadd] at uv
              repeat' (first
                | refine awp_seq_k fun K hK => ?_
                | (refine awp_region_k (by kernel_rfl) fun R hR => ?_; simp only [go_sem, u0, u3, u4, u5, u6, uh, hz', e2, hne', hx, hc, Int.toNat_natCast])
                | (refine awp_draw mixed (by kernel_rfl) (by kernel_rfl) fun R hR => ?_; simp only [go_sem, u0, u3, u4, u5, u6, uh, hz', e2, hne', hx, hc, Int.toNat_natCast])
                | (refine hR _ ?_; clear hR R; try simp only [thenA, inBlockA, reduceIte, reduceCtorEq, Nat.reduceEqDiff, if_false, if_true])
                | (refine hK _ ?_; clear hK K)
                | (clear hK K; refine hK _ ?_; clear hK K)
                | (clear hK K; clear hK K; refine hK _ ?_; clear hK K)
                | (clear hK K; clear hK K; clear hK K; refine hK _ ?_; clear hK K)
                | (clear hK K; clear hK K; clear hK K; clear hK K; refine hK _ ?_; clear hK K)
                | refine awp_true rfl rfl ?_
                | refine awp_false rfl rfl ?_
                | (refine awp_cond rfl rfl (fun hc => ?_) (fun hc => ?_) <;> (try simp only [go_sem, u0, u3, u4, u5, u6, uh, hz', e2, hne', hx, hc, Int.toNat_natCast] at hc) <;> (try (exfalso; omega)))
                | refine awp_block ?_
                | (refine awp_skip ?_; try simp only [thenA, inBlockA, reduceIte, reduceCtorEq, Nat.reduceEqDiff, if_false, if_true])
                | (refine awp_exit ?_; try simp only [thenA, inBlockA, reduceIte, reduceCtorEq, Nat.reduceEqDiff, if_false, if_true])
                | (refine awp_ret ?_; try simp only [thenA, inBlockA, reduceIte, reduceCtorEq, Nat.reduceEqDiff, if_false, if_true])
                | (refine runL_split ?_ (fun hc => ?_) (fun hc => ?_); (simp only [go_sem, u0, u3, u4, u5, u6, uh, hz', e2, hne', hx, hc, Int.toNat_natCast]; exact rfl); all_goals (try simp only [go_sem, hc, u0, u3, u4, u5, u6, uh, hz', e2, hne', hx, hc, Int.toNat_natCast]); all_goals (try simp only [go_sem, u0, u3, u4, u5, u6, uh, hz', e2, hne', hx, hc, Int.toNat_natCast] at hc); all_goals (try (exfalso; omega)))
                | (refine runD_split ?_ (fun hc => ?_) (fun hc => ?_); (simp only [go_sem, u0, u3, u4, u5, u6, uh, hz', e2, hne', hx, hc, Int.toNat_natCast]; exact rfl); all_goals (try simp only [go_sem, hc, u0, u3, u4, u5, u6, uh, hz', e2, hne', hx, hc, Int.toNat_natCast]); all_goals (try simp only [go_sem, u0, u3, u4, u5, u6, uh, hz', e2, hne', hx, hc, Int.toNat_natCast] at hc); all_goals (try (exfalso; omega)))
                | (first | (refine CallK.pure (enter82) (has_tri q (by omega) x.v) ?_ ?_; (focus first | ((repeat (first | exact trivial | refine ⟨(by first | exact Or.inl rfl | exact Or.inr rfl), ?_⟩)); done) | (simp only [coL, AV.dat, true_or, or_true, AV.d.injEq, go_sem]; done)); simp only [go_sem, u0, u3, u4, u5, u6, uh, hz', e2, hne', hx, hc, Int.toNat_natCast]) | (refine CallD.pure (enter82) (has_tri q (by omega) x.v) ?_ ?_; (focus first | ((repeat (first | exact trivial | refine ⟨(by first | exact Or.inl rfl | exact Or.inr rfl), ?_⟩)); done) | (simp only [coL, AV.dat, true_or, or_true, AV.d.injEq, go_sem]; done)); simp only [go_sem, u0, u3, u4, u5, u6, uh, hz', e2, hne', hx, hc, Int.toNat_natCast]))
                | refine And.intro (by first | omega | exact trivial | rfl | assumption | (apply map_sz; intro a; simp only [go_sem]; done) | ((and_intros <;> first | omega | exact trivial | rfl | assumption | (apply map_sz; intro a; simp only [go_sem]; done) | fail); done) | fail) ?_
                | fail)
              refine ⟨⟨j + 1, q, ?_⟩, ?_⟩
              rotate_left
              · simp only [go_sem, u0, u3, u4, u5, u6, uh, hne']; omega
              simp only [go_sem, u0, u3, u4, u5, u6, uh, hne']
              and_intros; all_goals try (first | rfl | omega | assumption | ((repeat (first | exact Fr.rfl' _ _ | assumption | refine Fr.updk ?_ (by omega) _)); done))
            | false =>
              have hadd : addVs q (x :: (parts l[i]).drop (j + 1)) = addVs (q ++ [x.v]) ((parts l[i]).drop (j + 1)) := by
                show addVs (addV q x) _ = _
                unfold addV; rw [if_pos ⟨by simpa using hx, hc⟩]
              rw [hadd] at uv
              have hq : q.map iD ++ [iD x.v] = (q ++ [x.v]).map iD := by simp
              repeat' (first
                | refine awp_seq_k fun K hK => ?_
                | (refine awp_region_k (by kernel_rfl) fun R hR => ?_; simp only [go_sem, u0, u3, u4, u5, u6, uh, hz', e2, hne', hx, hc, List.length_map, Int.toNat_natCast])
                | (refine awp_draw mixed (by kernel_rfl) (by kernel_rfl) fun R hR => ?_; simp only [go_sem, u0, u3, u4, u5, u6, uh, hz', e2, hne', hx, hc, List.length_map, Int.toNat_natCast])
                | (refine hR _ ?_; clear hR R; try simp only [thenA, inBlockA, reduceIte, reduceCtorEq, Nat.reduceEqDiff, if_false, if_true])
                | (refine hK _ ?_; clear hK K)
                | (clear hK K; refine hK _ ?_; clear hK K)
                | (clear hK K; clear hK K; refine hK _ ?_; clear hK K)
                | (clear hK K; clear hK K; clear hK K; refine hK _ ?_; clear hK K)
                | (clear hK K; clear hK K; clear hK K; clear hK K; refine hK _ ?_; clear hK K)
                | refine awp_true rfl rfl ?_
                | refine awp_false rfl rfl ?_
                | (refine awp_cond rfl rfl (fun hc => ?_) (fun hc => ?_) <;> (try simp only [go_sem, u0, u3, u4, u5, u6, uh, hz', e2, hne', hx, hc, List.length_map, Int.toNat_natCast] at hc) <;> (try (exfalso; omega)))
                | refine awp_block ?_
                | (refine awp_skip ?_; try simp only [thenA, inBlockA, reduceIte, reduceCtorEq, Nat.reduceEqDiff, if_false, if_true])
                | (refine awp_exit ?_; try simp only [thenA, inBlockA, reduceIte, reduceCtorEq, Nat.reduceEqDiff, if_false, if_true])
                | (refine awp_ret ?_; try simp only [thenA, inBlockA, reduceIte, reduceCtorEq, Nat.reduceEqDiff, if_false, if_true])
                | (refine runL_split ?_ (fun hc => ?_) (fun hc => ?_); (simp only [go_sem, u0, u3, u4, u5, u6, uh, hz', e2, hne', hx, hc, List.length_map, Int.toNat_natCast]; exact rfl); all_goals (try simp only [go_sem, hc, u0, u3, u4, u5, u6, uh, hz', e2, hne', hx, hc, List.length_map, Int.toNat_natCast]); all_goals (try simp only [go_sem, u0, u3, u4, u5, u6, uh, hz', e2, hne', hx, hc, List.length_map, Int.toNat_natCast] at hc); all_goals (try (exfalso; omega)))
                | (refine runD_split ?_ (fun hc => ?_) (fun hc => ?_); (simp only [go_sem, u0, u3, u4, u5, u6, uh, hz', e2, hne', hx, hc, List.length_map, Int.toNat_natCast]; exact rfl); all_goals (try simp only [go_sem, hc, u0, u3, u4, u5, u6, uh, hz', e2, hne', hx, hc, List.length_map, Int.toNat_natCast]); all_goals (try simp only [go_sem, u0, u3, u4, u5, u6, uh, hz', e2, hne', hx, hc, List.length_map, Int.toNat_natCast] at hc); all_goals (try (exfalso; omega)))
                | (first | (refine CallK.pure (enter82) (has_tri q (by omega) x.v) ?_ ?_; (focus first | ((repeat (first | exact trivial | refine ⟨(by first | exact Or.inl rfl | exact Or.inr rfl), ?_⟩)); done) | (simp only [coL, AV.dat, true_or, or_true, AV.d.injEq, go_sem]; done)); simp only [go_sem, u0, u3, u4, u5, u6, uh, hz', e2, hne', hx, hc, List.length_map, Int.toNat_natCast]) | (refine CallD.pure (enter82) (has_tri q (by omega) x.v) ?_ ?_; (focus first | ((repeat (first | exact trivial | refine ⟨(by first | exact Or.inl rfl | exact Or.inr rfl), ?_⟩)); done) | (simp only [coL, AV.dat, true_or, or_true, AV.d.injEq, go_sem]; done)); simp only [go_sem, u0, u3, u4, u5, u6, uh, hz', e2, hne', hx, hc, List.length_map, Int.toNat_natCast]))
                | refine And.intro (by first | omega | exact trivial | rfl | assumption | (apply map_sz; intro a; simp only [go_sem]; done) | ((and_intros <;> first | omega | exact trivial | rfl | assumption | (apply map_sz; intro a; simp only [go_sem]; done) | fail); done) | fail) ?_
                | fail)
              refine ⟨⟨j + 1, q ++ [x.v], ?_⟩, ?_⟩
              rotate_left
              · simp only [go_sem, u0, u3, u4, u5, u6, uh, hne', hq, List.length_map]; omega
              simp only [go_sem, u0, u3, u4, u5, u6, uh, hne', hq, List.length_map]
              and_intros; all_goals try (first | rfl | omega | assumption | ((repeat (first | exact Fr.rfl' _ _ | assumption | refine Fr.updk ?_ (by omega) _)); done))
              simp only [List.length_append, List.length_singleton]; omega
        · have hz' : ¬ ((j : Int) < ((parts l[i]).length : Int)) := by omega
          rw [List.drop_eq_nil_of_le hge'] at uv
          have uv' : q = addVs o (parts l[i]) := uv
          rw [← uv'] at hv
          repeat' (first
            | refine awp_seq_k fun K hK => ?_
            | (refine awp_region_k (by kernel_rfl) fun R hR => ?_; simp only [go_sem, u0, u3, u4, u5, u6, uh, hz', hne'])
            | (refine awp_draw mixed (by kernel_rfl) (by kernel_rfl) fun R hR => ?_; simp only [go_sem, u0, u3, u4, u5, u6, uh, hz', hne'])
            | (refine hR _ ?_; clear hR R; try simp only [thenA, inBlockA, reduceIte, reduceCtorEq, Nat.reduceEqDiff, if_false, if_true])
            | (refine hK _ ?_; clear hK K)
            | (clear hK K; refine hK _ ?_; clear hK K)
            | (clear hK K; clear hK K; refine hK _ ?_; clear hK K)
            | (clear hK K; clear hK K; clear hK K; refine hK _ ?_; clear hK K)
            | (clear hK K; clear hK K; clear hK K; clear hK K; refine hK _ ?_; clear hK K)
            | refine awp_true rfl rfl ?_
            | refine awp_false rfl rfl ?_
            | (refine awp_cond rfl rfl (fun hc => ?_) (fun hc => ?_) <;> (try simp only [go_sem, u0, u3, u4, u5, u6, uh, hz', hne'] at hc) <;> (try (exfalso; omega)))
            | refine awp_block ?_
            | (refine awp_skip ?_; try simp only [thenA, inBlockA, reduceIte, reduceCtorEq, Nat.reduceEqDiff, if_false, if_true])
            | (refine awp_exit ?_; try simp only [thenA, inBlockA, reduceIte, reduceCtorEq, Nat.reduceEqDiff, if_false, if_true])
            | (refine awp_ret ?_; try simp only [thenA, inBlockA, reduceIte, reduceCtorEq, Nat.reduceEqDiff, if_false, if_true])
            | (refine runL_split ?_ (fun hc => ?_) (fun hc => ?_); (simp only [go_sem, u0, u3, u4, u5, u6, uh, hz', hne']; exact rfl); all_goals (try simp only [go_sem, hc, u0, u3, u4, u5, u6, uh, hz', hne']); all_goals (try simp only [go_sem, u0, u3, u4, u5, u6, uh, hz', hne'] at hc); all_goals (try (exfalso; omega)))
            | (refine runD_split ?_ (fun hc => ?_) (fun hc => ?_); (simp only [go_sem, u0, u3, u4, u5, u6, uh, hz', hne']; exact rfl); all_goals (try simp only [go_sem, hc, u0, u3, u4, u5, u6, uh, hz', hne']); all_goals (try simp only [go_sem, u0, u3, u4, u5, u6, uh, hz', hne'] at hc); all_goals (try (exfalso; omega)))
            | refine And.intro (by first | omega | exact trivial | rfl | assumption | (apply map_sz; intro a; simp only [go_sem]; done) | ((and_intros <;> first | omega | exact trivial | rfl | assumption | (apply map_sz; intro a; simp only [go_sem]; done) | fail); done) | fail) ?_
            | fail)
          refine ⟨⟨i + 1, q, ?_⟩, ?_⟩
          rotate_left
          · simp only [go_sem, u0, u3, u4, uh, hne', s4]; omega
          simp only [go_sem, u0, u3, u4, uh, hne', s4]
          and_intros; all_goals try (first | rfl | omega | assumption | ((repeat (first | exact Fr.rfl' _ _ | assumption | refine Fr.updk ?_ (by omega) _)); done))
    · have hz : ¬ ((i : Int) < (l.length : Int)) := by omega
      rw [List.drop_eq_nil_of_le hge] at hv
      have hv' : o = firstVars l := hv
      subst hv'
      repeat' (first
        | refine awp_seq_k fun K hK => ?_
        | (refine awp_region_k (by kernel_rfl) fun R hR => ?_; simp only [go_sem, s0, s3, s4, sh, hz, hne])
        | (refine awp_draw mixed (by kernel_rfl) (by kernel_rfl) fun R hR => ?_; simp only [go_sem, s0, s3, s4, sh, hz, hne])
        | (refine hR _ ?_; clear hR R; try simp only [thenA, inBlockA, reduceIte, reduceCtorEq, Nat.reduceEqDiff, if_false, if_true])
        | (refine hK _ ?_; clear hK K)
        | (clear hK K; refine hK _ ?_; clear hK K)
        | (clear hK K; clear hK K; refine hK _ ?_; clear hK K)
        | (clear hK K; clear hK K; clear hK K; refine hK _ ?_; clear hK K)
        | (clear hK K; clear hK K; clear hK K; clear hK K; refine hK _ ?_; clear hK K)
        | refine awp_true rfl rfl ?_
        | refine awp_false rfl rfl ?_
        | (refine awp_cond rfl rfl (fun hc => ?_) (fun hc => ?_) <;> (try simp only [go_sem, s0, s3, s4, sh, hz, hne] at hc) <;> (try (exfalso; omega)))
        | refine awp_block ?_
        | (refine awp_skip ?_; try simp only [thenA, inBlockA, reduceIte, reduceCtorEq, Nat.reduceEqDiff, if_false, if_true])
        | (refine awp_exit ?_; try simp only [thenA, inBlockA, reduceIte, reduceCtorEq, Nat.reduceEqDiff, if_false, if_true])
        | (refine awp_ret ?_; try simp only [thenA, inBlockA, reduceIte, reduceCtorEq, Nat.reduceEqDiff, if_false, if_true])
        | (refine runL_split ?_ (fun hc => ?_) (fun hc => ?_); (simp only [go_sem, s0, s3, s4, sh, hz, hne]; exact rfl); all_goals (try simp only [go_sem, hc, s0, s3, s4, sh, hz, hne]); all_goals (try simp only [go_sem, s0, s3, s4, sh, hz, hne] at hc); all_goals (try (exfalso; omega)))
        | (refine runD_split ?_ (fun hc => ?_) (fun hc => ?_); (simp only [go_sem, s0, s3, s4, sh, hz, hne]; exact rfl); all_goals (try simp only [go_sem, hc, s0, s3, s4, sh, hz, hne]); all_goals (try simp only [go_sem, s0, s3, s4, sh, hz, hne] at hc); all_goals (try (exfalso; omega)))
        | refine And.intro (by first | omega | exact trivial | rfl | assumption | (apply map_sz; intro a; simp only [go_sem]; done) | ((and_intros <;> first | omega | exact trivial | rfl | assumption | (apply map_sz; intro a; simp only [go_sem]; done) | fail); done) | fail) ?_
        | fail)
      refine ret_new (by simp only [Try.results22, resOkL, resOk, Try.ntmps22, List.toList_toArray]; first | decide | (simp only [go_sem]; done) | (simp only [go_sem]; and_intros <;> first | omega | rfl | decide)) (by simp only [resA, resV, Try.results22, go_sem, hne, sh]; try rfl) ?_ hn' h0' ?_ (by repeat (first | exact Fr.rfl' _ _ | assumption | refine Fr.updk ?_ (by omega) _)) <;> simp only [go_sem, List.length_map, hne, sh] <;> first | rfl | omega
theorem firstVars_tri (l : List Tm) (hl : Tm.size.sizes l ≤ 4000000) : Tri Try.prog 22 [.d (.sl (l.map tmDV))] (pure' (.d (.sl ((firstVars l).map iD)))) := Tri.data fun n' => firstVars_new l hl n'
end Go.Proofs.Ytmeekpinkfpnhaa

namespace Go.Proofs.Ytmeekpinkfpnhaa

theorem pw3 {n : Int} (h1 : 1 ≤ n) (h3 : n ≤ 3) : ∀ i : Nat, 1 ≤ n ^ i ∧ n ^ i ≤ 3 ^ i
  | 0 => by simp
  | i + 1 => by
    obtain ⟨h4, h5⟩ := pw3 h1 h3 i
    rw [Int.pow_succ, Int.pow_succ]
    have : n = 1 ∨ n = 2 ∨ n = 3 := by omega
    rcases this with rfl | rfl | rfl <;> omega
theorem pw_le {n : Int} (h1 : 1 ≤ n) (h3 : n ≤ 3) {i : Nat} (hi : i ≤ 8) : 1 ≤ n ^ i ∧ n ^ i ≤ 6561 := by
  obtain ⟨h4, h5⟩ := pw3 h1 h3 i
  refine ⟨h4, Int.le_trans h5 ?_⟩
  have : i = 0 ∨ i = 1 ∨ i = 2 ∨ i = 3 ∨ i = 4 ∨ i = 5 ∨ i = 6 ∨ i = 7 ∨ i = 8 := by omega
  rcases this with rfl | rfl | rfl | rfl | rfl | rfl | rfl | rfl | rfl <;> decide
/-- Is a table of another length than its function wants? -/
def rowsBad (sz : Int) : List Int → List (List Int) → Bool
  | n :: g, r :: tb => ((r.length : Int) != sz ^ n.toNat) || rowsBad sz g tb
  | _, _ => false
theorem rowsBad_at {sz : Int} {g : List Int} {tb : List (List Int)} {i : Nat} (hi : i < g.length) (hi' : i < tb.length) : rowsBad sz (g.drop i) (tb.drop i) = (((tb[i].length : Int) != sz ^ g[i].toNat) || rowsBad sz (g.drop (i + 1)) (tb.drop (i + 1))) := by
  rw [List.drop_eq_getElem_cons hi, List.drop_eq_getElem_cons hi', rowsBad]
theorem rowsBad_end {sz : Int} {g : List Int} {tb : List (List Int)} {i : Nat} (hi' : tb.length ≤ i) : rowsBad sz (g.drop i) (tb.drop i) = false := by
  rw [List.drop_eq_nil_of_le hi']
  cases g.drop i <;> rfl
def outOf (sz n : Int) : Bool := decide (n < 0) || decide (n ≥ sz)
/-- model.Check, superposeref.CheckModel -/
def mdOk (g : List Int) (sz : Int) (tb : List (List Int)) : Int :=
  if sigOk g ≠ 0 then sigOk g else if sz < 1 ∨ sz > 3 then 3 else if tb.length ≠ g.length then 1 else if rowsBad sz g tb = true then 1 else if (tb.any fun r => r.any (outOf sz)) = true then 5 else 0
theorem sig_each {g : List Int} (h : sigOk g = 0) : ∀ n ∈ g, 0 ≤ n ∧ n ≤ 3 := by
  unfold sigOk at h
  split at h
  · cases h
  · split at h
    · cases h
    · rename_i hn
      intro n hn'
      have : ¬ ((n < 0 || n > 3) = true) := fun hc => hn (List.any_eq_true.2 ⟨n, hn', by simpa using hc⟩)
      simp at this
      omega
theorem sig_len {g : List Int} (h : sigOk g = 0) : g.length ≤ 12 := by
  unfold sigOk at h
  split at h
  · cases h
  · omega
theorem rowsBad_all {sz : Int} : ∀ {g : List Int} {tb : List (List Int)}, rowsBad sz g tb = false → ∀ (i : Nat) (h : i < g.length) (h' : i < tb.length), (tb[i].length : Int) = sz ^ g[i].toNat
  | n :: g, r :: tb, h, i, hi, hi' => by
    rw [rowsBad, Bool.or_eq_false_iff] at h
    cases i with
    | zero => simpa using h.1
    | succ i => simpa using rowsBad_all h.2 i (by simpa using hi) (by simpa using hi')
theorem mdOk_all {g : List Int} {sz : Int} {tb : List (List Int)} (h : mdOk g sz tb = 0) : sigOk g = 0 ∧ 1 ≤ sz ∧ sz ≤ 3 ∧ tb.length = g.length ∧ rowsBad sz g tb = false ∧ ∀ r ∈ tb, ∀ n ∈ r, 0 ≤ n ∧ n < sz := by
  unfold mdOk at h
  by_cases h1 : sigOk g = 0
  · rw [if_neg (by simp [h1])] at h
    by_cases h2 : sz < 1 ∨ sz > 3
    · rw [if_pos h2] at h; cases h
    · rw [if_neg h2] at h
      by_cases h3 : tb.length = g.length
      · rw [if_neg (by simp [h3])] at h
        cases h4 : rowsBad sz g tb with
        | true => rw [h4] at h; simp at h
        | false =>
          rw [h4] at h
          simp only [Bool.false_eq_true, if_false] at h
          cases h5 : tb.any fun r => r.any (outOf sz) with
          | true => rw [h5] at h; simp at h
          | false =>
            refine ⟨h1, by omega, by omega, h3, rfl, fun r hr n hn => ?_⟩
            have h6 := List.any_eq_false.1 h5 r hr
            simp only [Bool.not_eq_true] at h6
            have h7 := List.any_eq_false.1 h6 n hn
            simp [outOf] at h7
            omega
      · rw [if_pos (by simpa using h3)] at h; cases h
  · rw [if_pos (by simpa using h1)] at h; exact absurd h h1
end Go.Proofs.Ytmeekpinkfpnhaa

namespace Go.Proofs.Ytmeekpinkfpnhaa
open Go.RowKit
set_option linter.unusedSimpArgs false
set_option linter.unusedSectionVars false

def mdDV (sz : Int) (tb : List (List Int)) : DV := .st [iD sz, .sl (tb.map gI)]
@[go_sem] theorem mdDV_cells (sz : Int) (tb : List (List Int)) : (mdDV sz tb).cells = [iD sz, .sl (tb.map gI)] := (Eq.trans rfl (Eq.refl _))
@[go_sem] theorem mdDV_fold (sz : Int) (tb : List (List Int)) : DV.st [iD sz, .sl (tb.map gI)] = mdDV sz tb := (Eq.trans rfl (Eq.refl _))

set_option maxRecDepth 20000 in
theorem power_tri {n : Int} (h1 : 1 ≤ n) (h3 : n ≤ 3) {j : Nat} (hj : j ≤ 8) : Tri Try.prog 76 [iA n, iA j] (pure' (iA (n ^ j))) := by
  refine tri_enter Try.func76 rfl Try.ntmps76 (by simp only [List.length_cons, List.length_nil]; omega) fun w0 h0 k hrd hwr => ?_
  repeat' (first
    | refine awp_seq_k fun K hK => ?_
    | (refine awp_region_k (by kernel_rfl) fun R hR => ?_; simp only [go_sem])
    | (refine awp_draw mixed (by kernel_rfl) (by kernel_rfl) fun R hR => ?_; simp only [go_sem])
    | (refine hR _ ?_; clear hR R; try simp only [thenA, inBlockA, reduceIte, reduceCtorEq, Nat.reduceEqDiff, if_false, if_true])
    | (refine hK _ ?_; clear hK K)
    | (clear hK K; refine hK _ ?_; clear hK K)
    | (clear hK K; clear hK K; refine hK _ ?_; clear hK K)
    | (clear hK K; clear hK K; clear hK K; refine hK _ ?_; clear hK K)
    | (clear hK K; clear hK K; clear hK K; clear hK K; refine hK _ ?_; clear hK K)
    | refine awp_true rfl rfl ?_
    | refine awp_false rfl rfl ?_
    | (refine awp_cond rfl rfl (fun hc => ?_) (fun hc => ?_) <;> (try simp only [go_sem] at hc) <;> (try (exfalso; omega)))
    | refine awp_block ?_
    | (refine awp_skip ?_; try simp only [thenA, inBlockA, reduceIte, reduceCtorEq, Nat.reduceEqDiff, if_false, if_true])
    | (refine awp_exit ?_; try simp only [thenA, inBlockA, reduceIte, reduceCtorEq, Nat.reduceEqDiff, if_false, if_true])
    | (refine awp_ret ?_; try simp only [thenA, inBlockA, reduceIte, reduceCtorEq, Nat.reduceEqDiff, if_false, if_true])
    | (refine runL_split ?_ (fun hc => ?_) (fun hc => ?_); (simp only [go_sem]; exact rfl); all_goals (try simp only [go_sem, hc]); all_goals (try simp only [go_sem] at hc); all_goals (try (exfalso; omega)))
    | (refine runD_split ?_ (fun hc => ?_) (fun hc => ?_); (simp only [go_sem]; exact rfl); all_goals (try simp only [go_sem, hc]); all_goals (try simp only [go_sem] at hc); all_goals (try (exfalso; omega)))
    | refine And.intro (by first | omega | exact trivial | rfl | assumption | (apply map_sz; intro a; simp only [go_sem]; done) | ((and_intros <;> first | omega | exact trivial | rfl | assumption | (apply map_sz; intro a; simp only [go_sem]; done) | fail); done) | fail) ?_
    | fail)
  refine awp_loop (fun σ => ∃ i : Nat, σ.t 0 = iA n ∧ σ.t 6 = iA j ∧ σ.t 7 = iA i ∧ σ.t 5 = iA (n ^ i) ∧ σ.h = h0 ∧ i ≤ j) (fun σ => j - (intOf' (σ.t 7)).toNat) ?_ ?_
  · refine ⟨0, ?_⟩
    simp only [go_sem, Int.pow_zero]
    and_intros; all_goals try (first | rfl | omega | assumption | ((repeat (first | exact Fr.rfl' _ _ | assumption | refine Fr.updk ?_ (by omega) _)); done))
  · rintro σ ⟨i, s0, s6, s7, s5, sh, hi⟩
    have hfr : Fr k h0 σ.h := by rw [sh]; exact Fr.rfl' _ _
    obtain ⟨p1, p2⟩ := pw_le h1 h3 (i := i) (by omega)
    rcases Nat.lt_or_ge i j with hlt | hge
    · obtain ⟨p3, p4⟩ := pw_le h1 h3 (i := i + 1) (by omega)
      have hz : (i : Int) < (j : Int) := by omega
      have e : n ^ i * n = n ^ (i + 1) := (Int.pow_succ n i).symm
      repeat' (first
        | refine awp_seq_k fun K hK => ?_
        | (refine awp_region_k (by kernel_rfl) fun R hR => ?_; simp only [go_sem, s0, s6, s7, s5, hz, e])
        | (refine awp_draw mixed (by kernel_rfl) (by kernel_rfl) fun R hR => ?_; simp only [go_sem, s0, s6, s7, s5, hz, e])
        | (refine hR _ ?_; clear hR R; try simp only [thenA, inBlockA, reduceIte, reduceCtorEq, Nat.reduceEqDiff, if_false, if_true])
        | (refine hK _ ?_; clear hK K)
        | (clear hK K; refine hK _ ?_; clear hK K)
        | (clear hK K; clear hK K; refine hK _ ?_; clear hK K)
        | (clear hK K; clear hK K; clear hK K; refine hK _ ?_; clear hK K)
        | (clear hK K; clear hK K; clear hK K; clear hK K; refine hK _ ?_; clear hK K)
        | refine awp_true rfl rfl ?_
        | refine awp_false rfl rfl ?_
        | (refine awp_cond rfl rfl (fun hc => ?_) (fun hc => ?_) <;> (try simp only [go_sem, s0, s6, s7, s5, hz, e] at hc) <;> (try (exfalso; omega)))
        | refine awp_block ?_
        | (refine awp_skip ?_; try simp only [thenA, inBlockA, reduceIte, reduceCtorEq, Nat.reduceEqDiff, if_false, if_true])
        | (refine awp_exit ?_; try simp only [thenA, inBlockA, reduceIte, reduceCtorEq, Nat.reduceEqDiff, if_false, if_true])
        | (refine awp_ret ?_; try simp only [thenA, inBlockA, reduceIte, reduceCtorEq, Nat.reduceEqDiff, if_false, if_true])
        | (refine runL_split ?_ (fun hc => ?_) (fun hc => ?_); (simp only [go_sem, s0, s6, s7, s5, hz, e]; exact rfl); all_goals (try simp only [go_sem, hc, s0, s6, s7, s5, hz, e]); all_goals (try simp only [go_sem, s0, s6, s7, s5, hz, e] at hc); all_goals (try (exfalso; omega)))
        | (refine runD_split ?_ (fun hc => ?_) (fun hc => ?_); (simp only [go_sem, s0, s6, s7, s5, hz, e]; exact rfl); all_goals (try simp only [go_sem, hc, s0, s6, s7, s5, hz, e]); all_goals (try simp only [go_sem, s0, s6, s7, s5, hz, e] at hc); all_goals (try (exfalso; omega)))
        | refine And.intro (by first | omega | exact trivial | rfl | assumption | (apply map_sz; intro a; simp only [go_sem]; done) | ((and_intros <;> first | omega | exact trivial | rfl | assumption | (apply map_sz; intro a; simp only [go_sem]; done) | fail); done) | fail) ?_
        | fail)
      refine ⟨⟨i + 1, ?_⟩, ?_⟩
      rotate_left
      · simp only [go_sem, s0, s6, s7, s5, sh]; omega
      simp only [go_sem, s0, s6, s7, s5, sh]
      and_intros; all_goals try (first | rfl | omega | assumption | ((repeat (first | exact Fr.rfl' _ _ | assumption | refine Fr.updk ?_ (by omega) _)); done))
    · have hz : ¬ ((i : Int) < (j : Int)) := by omega
      obtain rfl : i = j := by omega
      repeat' (first
        | refine awp_seq_k fun K hK => ?_
        | (refine awp_region_k (by kernel_rfl) fun R hR => ?_; simp only [go_sem, s0, s6, s7, s5, hz])
        | (refine awp_draw mixed (by kernel_rfl) (by kernel_rfl) fun R hR => ?_; simp only [go_sem, s0, s6, s7, s5, hz])
        | (refine hR _ ?_; clear hR R; try simp only [thenA, inBlockA, reduceIte, reduceCtorEq, Nat.reduceEqDiff, if_false, if_true])
        | (refine hK _ ?_; clear hK K)
        | (clear hK K; refine hK _ ?_; clear hK K)
        | (clear hK K; clear hK K; refine hK _ ?_; clear hK K)
        | (clear hK K; clear hK K; clear hK K; refine hK _ ?_; clear hK K)
        | (clear hK K; clear hK K; clear hK K; clear hK K; refine hK _ ?_; clear hK K)
        | refine awp_true rfl rfl ?_
        | refine awp_false rfl rfl ?_
        | (refine awp_cond rfl rfl (fun hc => ?_) (fun hc => ?_) <;> (try simp only [go_sem, s0, s6, s7, s5, hz] at hc) <;> (try (exfalso; omega)))
        | refine awp_block ?_
        | (refine awp_skip ?_; try simp only [thenA, inBlockA, reduceIte, reduceCtorEq, Nat.reduceEqDiff, if_false, if_true])
        | (refine awp_exit ?_; try simp only [thenA, inBlockA, reduceIte, reduceCtorEq, Nat.reduceEqDiff, if_false, if_true])
        | (refine awp_ret ?_; try simp only [thenA, inBlockA, reduceIte, reduceCtorEq, Nat.reduceEqDiff, if_false, if_true])
        | (refine runL_split ?_ (fun hc => ?_) (fun hc => ?_); (simp only [go_sem, s0, s6, s7, s5, hz]; exact rfl); all_goals (try simp only [go_sem, hc, s0, s6, s7, s5, hz]); all_goals (try simp only [go_sem, s0, s6, s7, s5, hz] at hc); all_goals (try (exfalso; omega)))
        | (refine runD_split ?_ (fun hc => ?_) (fun hc => ?_); (simp only [go_sem, s0, s6, s7, s5, hz]; exact rfl); all_goals (try simp only [go_sem, hc, s0, s6, s7, s5, hz]); all_goals (try simp only [go_sem, s0, s6, s7, s5, hz] at hc); all_goals (try (exfalso; omega)))
        | refine And.intro (by first | omega | exact trivial | rfl | assumption | (apply map_sz; intro a; simp only [go_sem]; done) | ((and_intros <;> first | omega | exact trivial | rfl | assumption | (apply map_sz; intro a; simp only [go_sem]; done) | fail); done) | fail) ?_
        | fail)
      first | refine ret_pure (by simp only [Try.results76, resOkL, resOk, Try.ntmps76, List.toList_toArray]; first | decide | (simp only [go_sem]; done) | (simp only [go_sem]; and_intros <;> first | omega | rfl | decide)) ?_ (by repeat (first | exact Fr.rfl' _ _ | assumption | refine Fr.updk ?_ (by omega) _)) | refine ret_ro (by simp only [Try.results76, resOkL, resOk, Try.ntmps76, List.toList_toArray]; first | decide | (simp only [go_sem]; done) | (simp only [go_sem]; and_intros <;> first | omega | rfl | decide)) ?_ (by repeat (first | exact Fr.rfl' _ _ | assumption | refine Fr.updk ?_ (by omega) _))
      simp only [resA, resV, Try.results76, go_sem]
      all_goals try (first | exact Co.t2 (.dat rfl) (.dat rfl) | exact Co.t3 (.dat rfl) (.dat rfl) (.dat rfl))
      exact .dat rfl
set_option maxRecDepth 20000 in
theorem powerOf_tri {n : Int} (h1 : 1 ≤ n) (h3 : n ≤ 3) : ∀ {j : Nat}, j ≤ 8 → Tri Try.prog 81 [iA n, iA j] (pure' (iA (n ^ j)))
  | 0, _ => by
    refine tri_enter Try.func81 rfl Try.ntmps81 (by simp only [List.length_cons, List.length_nil]; omega) fun w0 h0 k hrd hwr => ?_
    have e : ((0 : Nat) : Int) = 0 := rfl
    repeat' (first
      | refine awp_seq_k fun K hK => ?_
      | (refine awp_region_k (by kernel_rfl) fun R hR => ?_; simp only [go_sem, e, beq_self_eq_true])
      | (refine awp_draw mixed (by kernel_rfl) (by kernel_rfl) fun R hR => ?_; simp only [go_sem, e, beq_self_eq_true])
      | (refine hR _ ?_; clear hR R; try simp only [thenA, inBlockA, reduceIte, reduceCtorEq, Nat.reduceEqDiff, if_false, if_true])
      | (refine hK _ ?_; clear hK K)
      | (clear hK K; refine hK _ ?_; clear hK K)
      | (clear hK K; clear hK K; refine hK _ ?_; clear hK K)
      | (clear hK K; clear hK K; clear hK K; refine hK _ ?_; clear hK K)
      | (clear hK K; clear hK K; clear hK K; clear hK K; refine hK _ ?_; clear hK K)
      | refine awp_true rfl rfl ?_
      | refine awp_false rfl rfl ?_
      | (refine awp_cond rfl rfl (fun hc => ?_) (fun hc => ?_) <;> (try simp only [go_sem, e, beq_self_eq_true] at hc) <;> (try (exfalso; omega)))
      | refine awp_block ?_
      | (refine awp_skip ?_; try simp only [thenA, inBlockA, reduceIte, reduceCtorEq, Nat.reduceEqDiff, if_false, if_true])
      | (refine awp_exit ?_; try simp only [thenA, inBlockA, reduceIte, reduceCtorEq, Nat.reduceEqDiff, if_false, if_true])
      | (refine awp_ret ?_; try simp only [thenA, inBlockA, reduceIte, reduceCtorEq, Nat.reduceEqDiff, if_false, if_true])
      | (refine runL_split ?_ (fun hc => ?_) (fun hc => ?_); (simp only [go_sem, e, beq_self_eq_true]; exact rfl); all_goals (try simp only [go_sem, hc, e, beq_self_eq_true]); all_goals (try simp only [go_sem, e, beq_self_eq_true] at hc); all_goals (try (exfalso; omega)))
      | (refine runD_split ?_ (fun hc => ?_) (fun hc => ?_); (simp only [go_sem, e, beq_self_eq_true]; exact rfl); all_goals (try simp only [go_sem, hc, e, beq_self_eq_true]); all_goals (try simp only [go_sem, e, beq_self_eq_true] at hc); all_goals (try (exfalso; omega)))
      | refine And.intro (by first | omega | exact trivial | rfl | assumption | (apply map_sz; intro a; simp only [go_sem]; done) | ((and_intros <;> first | omega | exact trivial | rfl | assumption | (apply map_sz; intro a; simp only [go_sem]; done) | fail); done) | fail) ?_
      | fail)
    first | refine ret_pure (by simp only [Try.results81, resOkL, resOk, Try.ntmps81, List.toList_toArray]; first | decide | (simp only [go_sem]; done) | (simp only [go_sem]; and_intros <;> first | omega | rfl | decide)) ?_ (by repeat (first | exact Fr.rfl' _ _ | assumption | refine Fr.updk ?_ (by omega) _)) | refine ret_ro (by simp only [Try.results81, resOkL, resOk, Try.ntmps81, List.toList_toArray]; first | decide | (simp only [go_sem]; done) | (simp only [go_sem]; and_intros <;> first | omega | rfl | decide)) ?_ (by repeat (first | exact Fr.rfl' _ _ | assumption | refine Fr.updk ?_ (by omega) _))
    simp only [resA, resV, Try.results81, go_sem]
    all_goals try (first | exact Co.t2 (.dat rfl) (.dat rfl) | exact Co.t3 (.dat rfl) (.dat rfl) (.dat rfl))
    exact co_i (Int.pow_zero n).symm
  | j + 1, hj => by
    have ih := powerOf_tri h1 h3 (j := j) (by omega)
    refine tri_enter Try.func81 rfl Try.ntmps81 (by simp only [List.length_cons, List.length_nil]; omega) fun w0 h0 k hrd hwr => ?_
    obtain ⟨p1, p2⟩ := pw_le h1 h3 (i := j) (by omega)
    obtain ⟨p3, p4⟩ := pw_le h1 h3 (i := j + 1) (by omega)
    have e0 : (((j + 1 : Nat) : Int) == 0) = false := by simp; omega
    have e1 : ((j + 1 : Nat) : Int) - 1 = j := by omega
    have e2 : n * n ^ j = n ^ (j + 1) := by rw [Int.pow_succ, Int.mul_comm]
    repeat' (first
      | refine awp_seq_k fun K hK => ?_
      | (refine awp_region_k (by kernel_rfl) fun R hR => ?_; simp only [go_sem, e0, e1, e2])
      | (refine awp_draw mixed (by kernel_rfl) (by kernel_rfl) fun R hR => ?_; simp only [go_sem, e0, e1, e2])
      | (refine hR _ ?_; clear hR R; try simp only [thenA, inBlockA, reduceIte, reduceCtorEq, Nat.reduceEqDiff, if_false, if_true])
      | (refine hK _ ?_; clear hK K)
      | (clear hK K; refine hK _ ?_; clear hK K)
      | (clear hK K; clear hK K; refine hK _ ?_; clear hK K)
      | (clear hK K; clear hK K; clear hK K; refine hK _ ?_; clear hK K)
      | (clear hK K; clear hK K; clear hK K; clear hK K; refine hK _ ?_; clear hK K)
      | refine awp_true rfl rfl ?_
      | refine awp_false rfl rfl ?_
      | (refine awp_cond rfl rfl (fun hc => ?_) (fun hc => ?_) <;> (try simp only [go_sem, e0, e1, e2] at hc) <;> (try (exfalso; omega)))
      | refine awp_block ?_
      | (refine awp_skip ?_; try simp only [thenA, inBlockA, reduceIte, reduceCtorEq, Nat.reduceEqDiff, if_false, if_true])
      | (refine awp_exit ?_; try simp only [thenA, inBlockA, reduceIte, reduceCtorEq, Nat.reduceEqDiff, if_false, if_true])
      | (refine awp_ret ?_; try simp only [thenA, inBlockA, reduceIte, reduceCtorEq, Nat.reduceEqDiff, if_false, if_true])
      | (refine runL_split ?_ (fun hc => ?_) (fun hc => ?_); (simp only [go_sem, e0, e1, e2]; exact rfl); all_goals (try simp only [go_sem, hc, e0, e1, e2]); all_goals (try simp only [go_sem, e0, e1, e2] at hc); all_goals (try (exfalso; omega)))
      | (refine runD_split ?_ (fun hc => ?_) (fun hc => ?_); (simp only [go_sem, e0, e1, e2]; exact rfl); all_goals (try simp only [go_sem, hc, e0, e1, e2]); all_goals (try simp only [go_sem, e0, e1, e2] at hc); all_goals (try (exfalso; omega)))
      | (first | (refine CallK.pure (enter81) (ih) ?_ ?_; (focus first | ((repeat (first | exact trivial | refine ⟨(by first | exact Or.inl rfl | exact Or.inr rfl), ?_⟩)); done) | (simp only [coL, AV.dat, true_or, or_true, AV.d.injEq, go_sem]; done)); simp only [go_sem, e0, e1, e2]) | (refine CallD.pure (enter81) (ih) ?_ ?_; (focus first | ((repeat (first | exact trivial | refine ⟨(by first | exact Or.inl rfl | exact Or.inr rfl), ?_⟩)); done) | (simp only [coL, AV.dat, true_or, or_true, AV.d.injEq, go_sem]; done)); simp only [go_sem, e0, e1, e2]))
      | refine And.intro (by first | omega | exact trivial | rfl | assumption | (apply map_sz; intro a; simp only [go_sem]; done) | ((and_intros <;> first | omega | exact trivial | rfl | assumption | (apply map_sz; intro a; simp only [go_sem]; done) | fail); done) | fail) ?_
      | fail)
    first | refine ret_pure (by simp only [Try.results81, resOkL, resOk, Try.ntmps81, List.toList_toArray]; first | decide | (simp only [go_sem]; done) | (simp only [go_sem]; and_intros <;> first | omega | rfl | decide)) ?_ (by repeat (first | exact Fr.rfl' _ _ | assumption | refine Fr.updk ?_ (by omega) _)) | refine ret_ro (by simp only [Try.results81, resOkL, resOk, Try.ntmps81, List.toList_toArray]; first | decide | (simp only [go_sem]; done) | (simp only [go_sem]; and_intros <;> first | omega | rfl | decide)) ?_ (by repeat (first | exact Fr.rfl' _ _ | assumption | refine Fr.updk ?_ (by omega) _))
    simp only [resA, resV, Try.results81, go_sem]
    all_goals try (first | exact Co.t2 (.dat rfl) (.dat rfl) | exact Co.t3 (.dat rfl) (.dat rfl) (.dat rfl))
    exact .dat rfl

/-- What a model in a box is. -/
abbrev mdO (b : Nm) (sz : Int) (tb : List (List Int)) : List (Nm × Ob) := [(b, .cells 39 [iA sz, .d (.sl (tb.map gI))])]
theorem roMd {b : Nm} {sz : Int} {tb : List (List Int)} {k : Nat} {h : Heap} (hb : b.1 < k) (h1 : h b = some (.cells 39 [iA sz, .d (.sl (tb.map gI))])) : RoOK k (mdO b sz tb) h := ⟨fun x hx => by
  simp only [mdO, List.mem_cons, List.not_mem_nil, or_false] at hx; subst hx; exact ⟨hb, h1⟩⟩
set_option maxRecDepth 20000 in
theorem check11_tri (b : Nm) (sz : Int) (tb : List (List Int)) (n : Int) : Tri Try.prog 86 [iA n, .ptr b 0] (rdE (mdO b sz tb) (bA (outOf sz n))) := by
  refine tri_enter_ro Try.func86 rfl Try.ntmps86 (by simp only [List.length_cons, List.length_nil]; omega) fun w0 h0 k hro => ?_
  obtain ⟨hb, eb⟩ := hro.get _ (List.mem_cons_self ..)
  unfold outOf
  cases h1 : decide (n < 0) with
  | true =>
    repeat' (first
      | refine awp_seq_k fun K hK => ?_
      | (refine awp_region_k (by kernel_rfl) fun R hR => ?_; simp only [go_sem, eb, h1])
      | (refine awp_draw mixed (by kernel_rfl) (by kernel_rfl) fun R hR => ?_; simp only [go_sem, eb, h1])
      | (refine hR _ ?_; clear hR R; try simp only [thenA, inBlockA, reduceIte, reduceCtorEq, Nat.reduceEqDiff, if_false, if_true])
      | (refine hK _ ?_; clear hK K)
      | (clear hK K; refine hK _ ?_; clear hK K)
      | (clear hK K; clear hK K; refine hK _ ?_; clear hK K)
      | (clear hK K; clear hK K; clear hK K; refine hK _ ?_; clear hK K)
      | (clear hK K; clear hK K; clear hK K; clear hK K; refine hK _ ?_; clear hK K)
      | refine awp_true rfl rfl ?_
      | refine awp_false rfl rfl ?_
      | (refine awp_cond rfl rfl (fun hc => ?_) (fun hc => ?_) <;> (try simp only [go_sem, eb, h1] at hc) <;> (try (exfalso; omega)))
      | refine awp_block ?_
      | (refine awp_skip ?_; try simp only [thenA, inBlockA, reduceIte, reduceCtorEq, Nat.reduceEqDiff, if_false, if_true])
      | (refine awp_exit ?_; try simp only [thenA, inBlockA, reduceIte, reduceCtorEq, Nat.reduceEqDiff, if_false, if_true])
      | (refine awp_ret ?_; try simp only [thenA, inBlockA, reduceIte, reduceCtorEq, Nat.reduceEqDiff, if_false, if_true])
      | (refine runL_split ?_ (fun hc => ?_) (fun hc => ?_); (simp only [go_sem, eb, h1]; exact rfl); all_goals (try simp only [go_sem, hc, eb, h1]); all_goals (try simp only [go_sem, eb, h1] at hc); all_goals (try (exfalso; omega)))
      | (refine runD_split ?_ (fun hc => ?_) (fun hc => ?_); (simp only [go_sem, eb, h1]; exact rfl); all_goals (try simp only [go_sem, hc, eb, h1]); all_goals (try simp only [go_sem, eb, h1] at hc); all_goals (try (exfalso; omega)))
      | refine And.intro (by first | omega | exact trivial | rfl | assumption | (apply map_sz; intro a; simp only [go_sem]; done) | ((and_intros <;> first | omega | exact trivial | rfl | assumption | (apply map_sz; intro a; simp only [go_sem]; done) | fail); done) | fail) ?_
      | fail)
    first | refine ret_pure (by simp only [Try.results86, resOkL, resOk, Try.ntmps86, List.toList_toArray]; first | decide | (simp only [go_sem]; done) | (simp only [go_sem]; and_intros <;> first | omega | rfl | decide)) ?_ (by repeat (first | exact Fr.rfl' _ _ | assumption | refine Fr.updk ?_ (by omega) _)) | refine ret_ro (by simp only [Try.results86, resOkL, resOk, Try.ntmps86, List.toList_toArray]; first | decide | (simp only [go_sem]; done) | (simp only [go_sem]; and_intros <;> first | omega | rfl | decide)) ?_ (by repeat (first | exact Fr.rfl' _ _ | assumption | refine Fr.updk ?_ (by omega) _))
    simp only [resA, resV, Try.results86, go_sem]
    all_goals try (first | exact Co.t2 (.dat rfl) (.dat rfl) | exact Co.t3 (.dat rfl) (.dat rfl) (.dat rfl))
    exact .dat rfl
  | false =>
    repeat' (first
      | refine awp_seq_k fun K hK => ?_
      | (refine awp_region_k (by kernel_rfl) fun R hR => ?_; simp only [go_sem, eb, h1])
      | (refine awp_draw mixed (by kernel_rfl) (by kernel_rfl) fun R hR => ?_; simp only [go_sem, eb, h1])
      | (refine hR _ ?_; clear hR R; try simp only [thenA, inBlockA, reduceIte, reduceCtorEq, Nat.reduceEqDiff, if_false, if_true])
      | (refine hK _ ?_; clear hK K)
      | (clear hK K; refine hK _ ?_; clear hK K)
      | (clear hK K; clear hK K; refine hK _ ?_; clear hK K)
      | (clear hK K; clear hK K; clear hK K; refine hK _ ?_; clear hK K)
      | (clear hK K; clear hK K; clear hK K; clear hK K; refine hK _ ?_; clear hK K)
      | refine awp_true rfl rfl ?_
      | refine awp_false rfl rfl ?_
      | (refine awp_cond rfl rfl (fun hc => ?_) (fun hc => ?_) <;> (try simp only [go_sem, eb, h1] at hc) <;> (try (exfalso; omega)))
      | refine awp_block ?_
      | (refine awp_skip ?_; try simp only [thenA, inBlockA, reduceIte, reduceCtorEq, Nat.reduceEqDiff, if_false, if_true])
      | (refine awp_exit ?_; try simp only [thenA, inBlockA, reduceIte, reduceCtorEq, Nat.reduceEqDiff, if_false, if_true])
      | (refine awp_ret ?_; try simp only [thenA, inBlockA, reduceIte, reduceCtorEq, Nat.reduceEqDiff, if_false, if_true])
      | (refine runL_split ?_ (fun hc => ?_) (fun hc => ?_); (simp only [go_sem, eb, h1]; exact rfl); all_goals (try simp only [go_sem, hc, eb, h1]); all_goals (try simp only [go_sem, eb, h1] at hc); all_goals (try (exfalso; omega)))
      | (refine runD_split ?_ (fun hc => ?_) (fun hc => ?_); (simp only [go_sem, eb, h1]; exact rfl); all_goals (try simp only [go_sem, hc, eb, h1]); all_goals (try simp only [go_sem, eb, h1] at hc); all_goals (try (exfalso; omega)))
      | refine And.intro (by first | omega | exact trivial | rfl | assumption | (apply map_sz; intro a; simp only [go_sem]; done) | ((and_intros <;> first | omega | exact trivial | rfl | assumption | (apply map_sz; intro a; simp only [go_sem]; done) | fail); done) | fail) ?_
      | fail)
    first | refine ret_pure (by simp only [Try.results86, resOkL, resOk, Try.ntmps86, List.toList_toArray]; first | decide | (simp only [go_sem]; done) | (simp only [go_sem]; and_intros <;> first | omega | rfl | decide)) ?_ (by repeat (first | exact Fr.rfl' _ _ | assumption | refine Fr.updk ?_ (by omega) _)) | refine ret_ro (by simp only [Try.results86, resOkL, resOk, Try.ntmps86, List.toList_toArray]; first | decide | (simp only [go_sem]; done) | (simp only [go_sem]; and_intros <;> first | omega | rfl | decide)) ?_ (by repeat (first | exact Fr.rfl' _ _ | assumption | refine Fr.updk ?_ (by omega) _))
    simp only [resA, resV, Try.results86, go_sem]
    all_goals try (first | exact Co.t2 (.dat rfl) (.dat rfl) | exact Co.t3 (.dat rfl) (.dat rfl) (.dat rfl))
    exact .dat rfl
set_option maxRecDepth 20000 in
theorem check1_tri (b : Nm) (sz : Int) (tb : List (List Int)) (r : List Int) (hr : r.length ≤ 16777216) : Tri Try.prog 85 [.d (gI r), .ptr b 0] (rdE (mdO b sz tb) (bA (r.any (outOf sz)))) := by
  refine tri_enter_ro Try.func85 rfl Try.ntmps85 (by simp only [List.length_cons, List.length_nil]; omega) fun w0 h0 k hro => ?_
  repeat' (first
    | refine awp_seq_k fun K hK => ?_
    | (refine awp_region_k (by kernel_rfl) fun R hR => ?_; simp only [go_sem])
    | (refine awp_draw mixed (by kernel_rfl) (by kernel_rfl) fun R hR => ?_; simp only [go_sem])
    | (refine hR _ ?_; clear hR R; try simp only [thenA, inBlockA, reduceIte, reduceCtorEq, Nat.reduceEqDiff, if_false, if_true])
    | (refine hK _ ?_; clear hK K)
    | (clear hK K; refine hK _ ?_; clear hK K)
    | (clear hK K; clear hK K; refine hK _ ?_; clear hK K)
    | (clear hK K; clear hK K; clear hK K; refine hK _ ?_; clear hK K)
    | (clear hK K; clear hK K; clear hK K; clear hK K; refine hK _ ?_; clear hK K)
    | refine awp_true rfl rfl ?_
    | refine awp_false rfl rfl ?_
    | (refine awp_cond rfl rfl (fun hc => ?_) (fun hc => ?_) <;> (try simp only [go_sem] at hc) <;> (try (exfalso; omega)))
    | refine awp_block ?_
    | (refine awp_skip ?_; try simp only [thenA, inBlockA, reduceIte, reduceCtorEq, Nat.reduceEqDiff, if_false, if_true])
    | (refine awp_exit ?_; try simp only [thenA, inBlockA, reduceIte, reduceCtorEq, Nat.reduceEqDiff, if_false, if_true])
    | (refine awp_ret ?_; try simp only [thenA, inBlockA, reduceIte, reduceCtorEq, Nat.reduceEqDiff, if_false, if_true])
    | (refine runL_split ?_ (fun hc => ?_) (fun hc => ?_); (simp only [go_sem]; exact rfl); all_goals (try simp only [go_sem, hc]); all_goals (try simp only [go_sem] at hc); all_goals (try (exfalso; omega)))
    | (refine runD_split ?_ (fun hc => ?_) (fun hc => ?_); (simp only [go_sem]; exact rfl); all_goals (try simp only [go_sem, hc]); all_goals (try simp only [go_sem] at hc); all_goals (try (exfalso; omega)))
    | (first | (first | (refine CallK.look (enter69) (containsF_ints r hr 86 (enter86) [.ptr b 0] (mdO b sz tb) (outOf sz) (fun n _ => check11_tri b sz tb n)) ?_ (by assumption) (by repeat (first | exact Fr.rfl' _ _ | assumption | refine Fr.updk ?_ (by omega) _)) ?_; (focus first | ((repeat (first | exact trivial | refine ⟨(by first | exact Or.inl rfl | exact Or.inr rfl), ?_⟩)); done) | (simp only [coL, AV.dat, true_or, or_true, AV.d.injEq, go_sem]; done)); simp only [go_sem])) | (first | (refine CallD.look (enter69) (containsF_ints r hr 86 (enter86) [.ptr b 0] (mdO b sz tb) (outOf sz) (fun n _ => check11_tri b sz tb n)) ?_ (by assumption) (by repeat (first | exact Fr.rfl' _ _ | assumption | refine Fr.updk ?_ (by omega) _)) (by first | assumption | exact List.cons_ne_nil _ _) ?_; (focus first | ((repeat (first | exact trivial | refine ⟨(by first | exact Or.inl rfl | exact Or.inr rfl), ?_⟩)); done) | (simp only [coL, AV.dat, true_or, or_true, AV.d.injEq, go_sem]; done)); simp only [go_sem])))
    | refine And.intro (by first | omega | exact trivial | rfl | assumption | (apply map_sz; intro a; simp only [go_sem]; done) | ((and_intros <;> first | omega | exact trivial | rfl | assumption | (apply map_sz; intro a; simp only [go_sem]; done) | fail); done) | fail) ?_
    | fail)
  first | refine ret_pure (by simp only [Try.results85, resOkL, resOk, Try.ntmps85, List.toList_toArray]; first | decide | (simp only [go_sem]; done) | (simp only [go_sem]; and_intros <;> first | omega | rfl | decide)) ?_ (by repeat (first | exact Fr.rfl' _ _ | assumption | refine Fr.updk ?_ (by omega) _)) | refine ret_ro (by simp only [Try.results85, resOkL, resOk, Try.ntmps85, List.toList_toArray]; first | decide | (simp only [go_sem]; done) | (simp only [go_sem]; and_intros <;> first | omega | rfl | decide)) ?_ (by repeat (first | exact Fr.rfl' _ _ | assumption | refine Fr.updk ?_ (by omega) _))
  simp only [resA, resV, Try.results85, go_sem]
  all_goals try (first | exact Co.t2 (.dat rfl) (.dat rfl) | exact Co.t3 (.dat rfl) (.dat rfl) (.dat rfl))
  exact .dat rfl
end Go.Proofs.Ytmeekpinkfpnhaa

namespace Go.Proofs.Ytmeekpinkfpnhaa
open Go.ChangeShapes Go.WideShapes Go.RowKit

theorem sum_one (l : List Int) : (l.map fun _ => 1).sum = l.length := by
  induction l with
  | nil => rfl
  | cons x xs ih => simp only [List.map_cons, List.sum_cons, List.length_cons, ih]; omega
set_option maxRecDepth 20000 in
theorem ints_reads : Reads Try.prog 22 (fun l : List Int => .sl (l.map iD)) (fun _ => True) (fun l => l.length + 1) := by
  intro n
  refine ReadsN.map (reads_slice Try.underlying22 (by decide +kernel) fun m _ => reads_int Try.underlying3 m) (fun l => l) fun l _ => ⟨rfl, trivial, ?_⟩
  rw [sum_one]; exact Nat.le_refl _
theorem ints_arg : ArgOf Try.prog 22 (fun l : List Int => .sl (l.map iD)) (fun _ => True) (fun l => l.length + 1) := argOf_slice Try.underlying22 ints_reads
set_option maxRecDepth 20000 in
theorem model_reads : Reads Try.prog 39 (fun m : Int × List (List Int) => mdDV m.1 m.2) (fun _ => True) (fun m => (m.2.map fun r => r.length + 1).sum + 2) := by
  intro n
  refine ReadsN.map (reads_struct Try.underlying39 rfl (by kernel_rfl) fun m hm => readsF_cons rfl (reads_int Try.underlying3 m) (readsF_cons rfl (reads_slice Try.underlying37 (by decide +kernel) fun m' _ => ints_reads m') readsF_nil)) (fun p => (p.1, p.2.1)) fun p _ => ⟨rfl, trivial, ?_⟩
  simp only
  omega
theorem model_arg : ArgOf Try.prog 39 (fun m : Int × List (List Int) => mdDV m.1 m.2) (fun _ => True) (fun m => (m.2.map fun r => r.length + 1).sum + 2) := argOf_struct Try.underlying39 model_reads fun a => ⟨_, rfl⟩
set_option maxRecDepth 20000 in
theorem lit_reads : Reads Try.prog 107 ltDV (fun _ => True) Lt.size := by
  intro n
  refine ReadsN.map (reads_struct Try.underlying107 rfl (by kernel_rfl) fun m hm => readsF_cons rfl (reads_bool Try.underlying4 m) (readsF_cons rfl (term_reads m) (readsF_cons rfl (term_reads m) readsF_nil))) (fun p => ⟨p.1, p.2.1, p.2.2.1⟩) fun p _ => ⟨?_, trivial, ?_⟩
  · simp only [tmDV_cells]; rfl
  · unfold Lt.size; simp only; omega
set_option maxRecDepth 20000 in
theorem clause_reads : Reads Try.prog 41 (fun c : List Lt => clDV c) (fun _ => True) (fun c => (c.map Lt.size).sum + 1) := by
  intro n
  exact ReadsN.map (reads_slice Try.underlying41 (by decide +kernel) fun m _ => lit_reads m) (fun l => l) fun l _ => ⟨rfl, trivial, Nat.le_refl _⟩
theorem clause_arg : ArgOf Try.prog 41 (fun c : List Lt => clDV c) (fun _ => True) (fun c => (c.map Lt.size).sum + 1) := argOf_slice Try.underlying41 clause_reads
end Go.Proofs.Ytmeekpinkfpnhaa

namespace Go.Proofs.Ytmeekpinkfpnhaa
open Go.RowKit
set_option linter.unusedSimpArgs false
set_option linter.unusedSectionVars false

theorem co_tm {k : Nat} {ren : Ren} {v f : Int} {a : AV} {us : List Tm} (h : a.toD? = some (.sl (us.map tmDV))) : Co k ren (.st [iA v, iA f, a]) (.d (tmDV (.mk v f us))) :=
  .dat (by simp only [AV.toD?, allD, h]; rw [tmDV_eq]; rfl)
set_option maxRecDepth 20000 in
theorem small_tri : Tri Try.prog 65 [] (pure' (.d (sgDV [0, 1]))) := by
  refine tri_enter Try.func65 rfl Try.ntmps65 (by simp only [List.length_cons, List.length_nil]; omega) fun w0 h0 k hrd hwr => ?_
  repeat' (first
    | refine awp_seq_k fun K hK => ?_
    | (refine awp_region_k (by kernel_rfl) fun R hR => ?_; simp only [go_sem])
    | (refine awp_draw mixed (by kernel_rfl) (by kernel_rfl) fun R hR => ?_; simp only [go_sem])
    | (refine hR _ ?_; clear hR R; try simp only [thenA, inBlockA, reduceIte, reduceCtorEq, Nat.reduceEqDiff, if_false, if_true])
    | (refine hK _ ?_; clear hK K)
    | (clear hK K; refine hK _ ?_; clear hK K)
    | (clear hK K; clear hK K; refine hK _ ?_; clear hK K)
    | (clear hK K; clear hK K; clear hK K; refine hK _ ?_; clear hK K)
    | (clear hK K; clear hK K; clear hK K; clear hK K; refine hK _ ?_; clear hK K)
    | refine awp_true rfl rfl ?_
    | refine awp_false rfl rfl ?_
    | (refine awp_cond rfl rfl (fun hc => ?_) (fun hc => ?_) <;> (try simp only [go_sem] at hc) <;> (try (exfalso; omega)))
    | refine awp_block ?_
    | (refine awp_skip ?_; try simp only [thenA, inBlockA, reduceIte, reduceCtorEq, Nat.reduceEqDiff, if_false, if_true])
    | (refine awp_exit ?_; try simp only [thenA, inBlockA, reduceIte, reduceCtorEq, Nat.reduceEqDiff, if_false, if_true])
    | (refine awp_ret ?_; try simp only [thenA, inBlockA, reduceIte, reduceCtorEq, Nat.reduceEqDiff, if_false, if_true])
    | (refine runL_split ?_ (fun hc => ?_) (fun hc => ?_); (simp only [go_sem]; exact rfl); all_goals (try simp only [go_sem, hc]); all_goals (try simp only [go_sem] at hc); all_goals (try (exfalso; omega)))
    | (refine runD_split ?_ (fun hc => ?_) (fun hc => ?_); (simp only [go_sem]; exact rfl); all_goals (try simp only [go_sem, hc]); all_goals (try simp only [go_sem] at hc); all_goals (try (exfalso; omega)))
    | refine And.intro (by first | omega | exact trivial | rfl | assumption | (apply map_sz; intro a; simp only [go_sem]; done) | ((and_intros <;> first | omega | exact trivial | rfl | assumption | (apply map_sz; intro a; simp only [go_sem]; done) | fail); done) | fail) ?_
    | fail)
  first | refine ret_pure (by simp only [Try.results65, resOkL, resOk, Try.ntmps65, List.toList_toArray]; first | decide | (simp only [go_sem]; done) | (simp only [go_sem]; and_intros <;> first | omega | rfl | decide)) ?_ (by repeat (first | exact Fr.rfl' _ _ | assumption | refine Fr.updk ?_ (by omega) _)) | refine ret_ro (by simp only [Try.results65, resOkL, resOk, Try.ntmps65, List.toList_toArray]; first | decide | (simp only [go_sem]; done) | (simp only [go_sem]; and_intros <;> first | omega | rfl | decide)) ?_ (by repeat (first | exact Fr.rfl' _ _ | assumption | refine Fr.updk ?_ (by omega) _))
  simp only [resA, resV, Try.results65, go_sem]
  all_goals try (first | exact Co.t2 (.dat rfl) (.dat rfl) | exact Co.t3 (.dat rfl) (.dat rfl) (.dat rfl))
  exact .dat rfl
set_option maxRecDepth 20000 in
theorem fn_tri (n : Int) (us : List Tm) : Tri Try.prog 66 [iA n, .d (.sl (us.map tmDV))] (pure' (.d (tmDV (.mk 0 n us)))) := by
  refine tri_enter Try.func66 rfl Try.ntmps66 (by simp only [List.length_cons, List.length_nil]; omega) fun w0 h0 k hrd hwr => ?_
  repeat' (first
    | refine awp_seq_k fun K hK => ?_
    | (refine awp_region_k (by kernel_rfl) fun R hR => ?_; simp only [go_sem])
    | (refine awp_draw mixed (by kernel_rfl) (by kernel_rfl) fun R hR => ?_; simp only [go_sem])
    | (refine hR _ ?_; clear hR R; try simp only [thenA, inBlockA, reduceIte, reduceCtorEq, Nat.reduceEqDiff, if_false, if_true])
    | (refine hK _ ?_; clear hK K)
    | (clear hK K; refine hK _ ?_; clear hK K)
    | (clear hK K; clear hK K; refine hK _ ?_; clear hK K)
    | (clear hK K; clear hK K; clear hK K; refine hK _ ?_; clear hK K)
    | (clear hK K; clear hK K; clear hK K; clear hK K; refine hK _ ?_; clear hK K)
    | refine awp_true rfl rfl ?_
    | refine awp_false rfl rfl ?_
    | (refine awp_cond rfl rfl (fun hc => ?_) (fun hc => ?_) <;> (try simp only [go_sem] at hc) <;> (try (exfalso; omega)))
    | refine awp_block ?_
    | (refine awp_skip ?_; try simp only [thenA, inBlockA, reduceIte, reduceCtorEq, Nat.reduceEqDiff, if_false, if_true])
    | (refine awp_exit ?_; try simp only [thenA, inBlockA, reduceIte, reduceCtorEq, Nat.reduceEqDiff, if_false, if_true])
    | (refine awp_ret ?_; try simp only [thenA, inBlockA, reduceIte, reduceCtorEq, Nat.reduceEqDiff, if_false, if_true])
    | (refine runL_split ?_ (fun hc => ?_) (fun hc => ?_); (simp only [go_sem]; exact rfl); all_goals (try simp only [go_sem, hc]); all_goals (try simp only [go_sem] at hc); all_goals (try (exfalso; omega)))
    | (refine runD_split ?_ (fun hc => ?_) (fun hc => ?_); (simp only [go_sem]; exact rfl); all_goals (try simp only [go_sem, hc]); all_goals (try simp only [go_sem] at hc); all_goals (try (exfalso; omega)))
    | refine And.intro (by first | omega | exact trivial | rfl | assumption | (apply map_sz; intro a; simp only [go_sem]; done) | ((and_intros <;> first | omega | exact trivial | rfl | assumption | (apply map_sz; intro a; simp only [go_sem]; done) | fail); done) | fail) ?_
    | fail)
  first | refine ret_pure (by simp only [Try.results66, resOkL, resOk, Try.ntmps66, List.toList_toArray]; first | decide | (simp only [go_sem]; done) | (simp only [go_sem]; and_intros <;> first | omega | rfl | decide)) ?_ (by repeat (first | exact Fr.rfl' _ _ | assumption | refine Fr.updk ?_ (by omega) _)) | refine ret_ro (by simp only [Try.results66, resOkL, resOk, Try.ntmps66, List.toList_toArray]; first | decide | (simp only [go_sem]; done) | (simp only [go_sem]; and_intros <;> first | omega | rfl | decide)) ?_ (by repeat (first | exact Fr.rfl' _ _ | assumption | refine Fr.updk ?_ (by omega) _))
  simp only [resA, resV, Try.results66, go_sem]
  all_goals try (first | exact Co.t2 (.dat rfl) (.dat rfl) | exact Co.t3 (.dat rfl) (.dat rfl) (.dat rfl))
  exact co_tm rfl
set_option maxRecDepth 20000 in
theorem va_tri (n : Int) : Tri Try.prog 67 [iA n] (pure' (.d (tmDV (.mk n 0 [])))) := by
  refine tri_enter Try.func67 rfl Try.ntmps67 (by simp only [List.length_cons, List.length_nil]; omega) fun w0 h0 k hrd hwr => ?_
  repeat' (first
    | refine awp_seq_k fun K hK => ?_
    | (refine awp_region_k (by kernel_rfl) fun R hR => ?_; simp only [go_sem])
    | (refine awp_draw mixed (by kernel_rfl) (by kernel_rfl) fun R hR => ?_; simp only [go_sem])
    | (refine hR _ ?_; clear hR R; try simp only [thenA, inBlockA, reduceIte, reduceCtorEq, Nat.reduceEqDiff, if_false, if_true])
    | (refine hK _ ?_; clear hK K)
    | (clear hK K; refine hK _ ?_; clear hK K)
    | (clear hK K; clear hK K; refine hK _ ?_; clear hK K)
    | (clear hK K; clear hK K; clear hK K; refine hK _ ?_; clear hK K)
    | (clear hK K; clear hK K; clear hK K; clear hK K; refine hK _ ?_; clear hK K)
    | refine awp_true rfl rfl ?_
    | refine awp_false rfl rfl ?_
    | (refine awp_cond rfl rfl (fun hc => ?_) (fun hc => ?_) <;> (try simp only [go_sem] at hc) <;> (try (exfalso; omega)))
    | refine awp_block ?_
    | (refine awp_skip ?_; try simp only [thenA, inBlockA, reduceIte, reduceCtorEq, Nat.reduceEqDiff, if_false, if_true])
    | (refine awp_exit ?_; try simp only [thenA, inBlockA, reduceIte, reduceCtorEq, Nat.reduceEqDiff, if_false, if_true])
    | (refine awp_ret ?_; try simp only [thenA, inBlockA, reduceIte, reduceCtorEq, Nat.reduceEqDiff, if_false, if_true])
    | (refine runL_split ?_ (fun hc => ?_) (fun hc => ?_); (simp only [go_sem]; exact rfl); all_goals (try simp only [go_sem, hc]); all_goals (try simp only [go_sem] at hc); all_goals (try (exfalso; omega)))
    | (refine runD_split ?_ (fun hc => ?_) (fun hc => ?_); (simp only [go_sem]; exact rfl); all_goals (try simp only [go_sem, hc]); all_goals (try simp only [go_sem] at hc); all_goals (try (exfalso; omega)))
    | refine And.intro (by first | omega | exact trivial | rfl | assumption | (apply map_sz; intro a; simp only [go_sem]; done) | ((and_intros <;> first | omega | exact trivial | rfl | assumption | (apply map_sz; intro a; simp only [go_sem]; done) | fail); done) | fail) ?_
    | fail)
  first | refine ret_pure (by simp only [Try.results67, resOkL, resOk, Try.ntmps67, List.toList_toArray]; first | decide | (simp only [go_sem]; done) | (simp only [go_sem]; and_intros <;> first | omega | rfl | decide)) ?_ (by repeat (first | exact Fr.rfl' _ _ | assumption | refine Fr.updk ?_ (by omega) _)) | refine ret_ro (by simp only [Try.results67, resOkL, resOk, Try.ntmps67, List.toList_toArray]; first | decide | (simp only [go_sem]; done) | (simp only [go_sem]; and_intros <;> first | omega | rfl | decide)) ?_ (by repeat (first | exact Fr.rfl' _ _ | assumption | refine Fr.updk ?_ (by omega) _))
  simp only [resA, resV, Try.results67, go_sem]
  all_goals try (first | exact Co.t2 (.dat rfl) (.dat rfl) | exact Co.t3 (.dat rfl) (.dat rfl) (.dat rfl))
  exact co_tm rfl
end Go.Proofs.Ytmeekpinkfpnhaa

namespace Go.Proofs.Ytmeekpinkfpnhaa
open Go.RowKit
set_option linter.unusedSimpArgs false
set_option linter.unusedSectionVars false

set_option maxHeartbeats 2000000 in
set_option maxRecDepth 20000 in
theorem mdCheck_tri (g : List Int) (sz : Int) (tb : List (List Int)) (hl : tb.length ≤ 4000000) (hr : ∀ r ∈ tb, r.length ≤ 4000000) : Tri Try.prog 28 [.d (sgDV g), .d (mdDV sz tb)] (pure' (iA (mdOk g sz tb))) := by
  refine tri_enter Try.func28 rfl Try.ntmps28 (by simp only [List.length_cons, List.length_nil]; omega) fun w0 h0 k hrd hwr => ?_
  cases hs : sigOk g == 0 with
  | false =>
    have hs' : (sigOk g != 0) = true := by simpa using hs
    have hv : mdOk g sz tb = sigOk g := by unfold mdOk; rw [if_pos (by simpa using hs)]
    repeat' (first
      | refine awp_seq_k fun K hK => ?_
      | (refine awp_region_k (by kernel_rfl) fun R hR => ?_; simp only [go_sem, hs'])
      | (refine awp_draw mixed (by kernel_rfl) (by kernel_rfl) fun R hR => ?_; simp only [go_sem, hs'])
      | (refine hR _ ?_; clear hR R; try simp only [thenA, inBlockA, reduceIte, reduceCtorEq, Nat.reduceEqDiff, if_false, if_true])
      | (refine hK _ ?_; clear hK K)
      | (clear hK K; refine hK _ ?_; clear hK K)
      | (clear hK K; clear hK K; refine hK _ ?_; clear hK K)
      | (clear hK K; clear hK K; clear hK K; refine hK _ ?_; clear hK K)
      | (clear hK K; clear hK K; clear hK K; clear hK K; refine hK _ ?_; clear hK K)
      | refine awp_true rfl rfl ?_
      | refine awp_false rfl rfl ?_
      | (refine awp_cond rfl rfl (fun hc => ?_) (fun hc => ?_) <;> (try simp only [go_sem, hs'] at hc) <;> (try (exfalso; omega)))
      | refine awp_block ?_
      | (refine awp_skip ?_; try simp only [thenA, inBlockA, reduceIte, reduceCtorEq, Nat.reduceEqDiff, if_false, if_true])
      | (refine awp_exit ?_; try simp only [thenA, inBlockA, reduceIte, reduceCtorEq, Nat.reduceEqDiff, if_false, if_true])
      | (refine awp_ret ?_; try simp only [thenA, inBlockA, reduceIte, reduceCtorEq, Nat.reduceEqDiff, if_false, if_true])
      | (refine runL_split ?_ (fun hc => ?_) (fun hc => ?_); (simp only [go_sem, hs']; exact rfl); all_goals (try simp only [go_sem, hc, hs']); all_goals (try simp only [go_sem, hs'] at hc); all_goals (try (exfalso; omega)))
      | (refine runD_split ?_ (fun hc => ?_) (fun hc => ?_); (simp only [go_sem, hs']; exact rfl); all_goals (try simp only [go_sem, hc, hs']); all_goals (try simp only [go_sem, hs'] at hc); all_goals (try (exfalso; omega)))
      | (first | (refine CallK.pure (enter53) (signature_tri g) ?_ ?_; (focus first | ((repeat (first | exact trivial | refine ⟨(by first | exact Or.inl rfl | exact Or.inr rfl), ?_⟩)); done) | (simp only [coL, AV.dat, true_or, or_true, AV.d.injEq, go_sem]; done)); simp only [go_sem, hs']) | (refine CallD.pure (enter53) (signature_tri g) ?_ ?_; (focus first | ((repeat (first | exact trivial | refine ⟨(by first | exact Or.inl rfl | exact Or.inr rfl), ?_⟩)); done) | (simp only [coL, AV.dat, true_or, or_true, AV.d.injEq, go_sem]; done)); simp only [go_sem, hs']))
      | refine And.intro (by first | omega | exact trivial | rfl | assumption | (apply map_sz; intro a; simp only [go_sem]; done) | ((and_intros <;> first | omega | exact trivial | rfl | assumption | (apply map_sz; intro a; simp only [go_sem]; done) | fail); done) | fail) ?_
      | fail)
    first | refine ret_pure (by simp only [Try.results28, resOkL, resOk, Try.ntmps28, List.toList_toArray]; first | decide | (simp only [go_sem]; done) | (simp only [go_sem]; and_intros <;> first | omega | rfl | decide)) ?_ (by repeat (first | exact Fr.rfl' _ _ | assumption | refine Fr.updk ?_ (by omega) _)) | refine ret_ro (by simp only [Try.results28, resOkL, resOk, Try.ntmps28, List.toList_toArray]; first | decide | (simp only [go_sem]; done) | (simp only [go_sem]; and_intros <;> first | omega | rfl | decide)) ?_ (by repeat (first | exact Fr.rfl' _ _ | assumption | refine Fr.updk ?_ (by omega) _))
    simp only [resA, resV, Try.results28, go_sem]
    all_goals try (first | exact Co.t2 (.dat rfl) (.dat rfl) | exact Co.t3 (.dat rfl) (.dat rfl) (.dat rfl))
    exact co_i hv.symm
  | true =>
    have hs2 : sigOk g = 0 := by simpa using hs
    have hs' : (sigOk g != 0) = false := by simp [hs2]
    have hlen := sig_len hs2
    by_cases hsz : sz < 1 ∨ sz > 3
    · have hv : mdOk g sz tb = 3 := by unfold mdOk; rw [if_neg (by simp [hs2]), if_pos hsz]
      cases h1 : decide (sz < 1) with
      | true =>
        repeat' (first
          | refine awp_seq_k fun K hK => ?_
          | (refine awp_region_k (by kernel_rfl) fun R hR => ?_; simp only [go_sem, hs2, bne_self_eq_false, h1])
          | (refine awp_draw mixed (by kernel_rfl) (by kernel_rfl) fun R hR => ?_; simp only [go_sem, hs2, bne_self_eq_false, h1])
          | (refine hR _ ?_; clear hR R; try simp only [thenA, inBlockA, reduceIte, reduceCtorEq, Nat.reduceEqDiff, if_false, if_true])
          | (refine hK _ ?_; clear hK K)
          | (clear hK K; refine hK _ ?_; clear hK K)
          | (clear hK K; clear hK K; refine hK _ ?_; clear hK K)
          | (clear hK K; clear hK K; clear hK K; refine hK _ ?_; clear hK K)
          | (clear hK K; clear hK K; clear hK K; clear hK K; refine hK _ ?_; clear hK K)
          | refine awp_true rfl rfl ?_
          | refine awp_false rfl rfl ?_
          | (refine awp_cond rfl rfl (fun hc => ?_) (fun hc => ?_) <;> (try simp only [go_sem, hs2, bne_self_eq_false, h1] at hc) <;> (try (exfalso; omega)))
          | refine awp_block ?_
          | (refine awp_skip ?_; try simp only [thenA, inBlockA, reduceIte, reduceCtorEq, Nat.reduceEqDiff, if_false, if_true])
          | (refine awp_exit ?_; try simp only [thenA, inBlockA, reduceIte, reduceCtorEq, Nat.reduceEqDiff, if_false, if_true])
          | (refine awp_ret ?_; try simp only [thenA, inBlockA, reduceIte, reduceCtorEq, Nat.reduceEqDiff, if_false, if_true])
          | (refine runL_split ?_ (fun hc => ?_) (fun hc => ?_); (simp only [go_sem, hs2, bne_self_eq_false, h1]; exact rfl); all_goals (try simp only [go_sem, hc, hs2, bne_self_eq_false, h1]); all_goals (try simp only [go_sem, hs2, bne_self_eq_false, h1] at hc); all_goals (try (exfalso; omega)))
          | (refine runD_split ?_ (fun hc => ?_) (fun hc => ?_); (simp only [go_sem, hs2, bne_self_eq_false, h1]; exact rfl); all_goals (try simp only [go_sem, hc, hs2, bne_self_eq_false, h1]); all_goals (try simp only [go_sem, hs2, bne_self_eq_false, h1] at hc); all_goals (try (exfalso; omega)))
          | (first | (refine CallK.pure (enter53) (signature_tri g) ?_ ?_; (focus first | ((repeat (first | exact trivial | refine ⟨(by first | exact Or.inl rfl | exact Or.inr rfl), ?_⟩)); done) | (simp only [coL, AV.dat, true_or, or_true, AV.d.injEq, go_sem]; done)); simp only [go_sem, hs2, bne_self_eq_false, h1]) | (refine CallD.pure (enter53) (signature_tri g) ?_ ?_; (focus first | ((repeat (first | exact trivial | refine ⟨(by first | exact Or.inl rfl | exact Or.inr rfl), ?_⟩)); done) | (simp only [coL, AV.dat, true_or, or_true, AV.d.injEq, go_sem]; done)); simp only [go_sem, hs2, bne_self_eq_false, h1]))
          | refine And.intro (by first | omega | exact trivial | rfl | assumption | (apply map_sz; intro a; simp only [go_sem]; done) | ((and_intros <;> first | omega | exact trivial | rfl | assumption | (apply map_sz; intro a; simp only [go_sem]; done) | fail); done) | fail) ?_
          | fail)
        first | refine ret_pure (by simp only [Try.results28, resOkL, resOk, Try.ntmps28, List.toList_toArray]; first | decide | (simp only [go_sem]; done) | (simp only [go_sem]; and_intros <;> first | omega | rfl | decide)) ?_ (by repeat (first | exact Fr.rfl' _ _ | assumption | refine Fr.updk ?_ (by omega) _)) | refine ret_ro (by simp only [Try.results28, resOkL, resOk, Try.ntmps28, List.toList_toArray]; first | decide | (simp only [go_sem]; done) | (simp only [go_sem]; and_intros <;> first | omega | rfl | decide)) ?_ (by repeat (first | exact Fr.rfl' _ _ | assumption | refine Fr.updk ?_ (by omega) _))
        simp only [resA, resV, Try.results28, go_sem]
        all_goals try (first | exact Co.t2 (.dat rfl) (.dat rfl) | exact Co.t3 (.dat rfl) (.dat rfl) (.dat rfl))
        exact co_i hv.symm
      | false =>
        have h2 : decide (sz > 3) = true := by simp at h1 ⊢; omega
        repeat' (first
          | refine awp_seq_k fun K hK => ?_
          | (refine awp_region_k (by kernel_rfl) fun R hR => ?_; simp only [go_sem, hs2, bne_self_eq_false, h1, h2])
          | (refine awp_draw mixed (by kernel_rfl) (by kernel_rfl) fun R hR => ?_; simp only [go_sem, hs2, bne_self_eq_false, h1, h2])
          | (refine hR _ ?_; clear hR R; try simp only [thenA, inBlockA, reduceIte, reduceCtorEq, Nat.reduceEqDiff, if_false, if_true])
          | (refine hK _ ?_; clear hK K)
          | (clear hK K; refine hK _ ?_; clear hK K)
          | (clear hK K; clear hK K; refine hK _ ?_; clear hK K)
          | (clear hK K; clear hK K; clear hK K; refine hK _ ?_; clear hK K)
          | (clear hK K; clear hK K; clear hK K; clear hK K; refine hK _ ?_; clear hK K)
          | refine awp_true rfl rfl ?_
          | refine awp_false rfl rfl ?_
          | (refine awp_cond rfl rfl (fun hc => ?_) (fun hc => ?_) <;> (try simp only [go_sem, hs2, bne_self_eq_false, h1, h2] at hc) <;> (try (exfalso; omega)))
          | refine awp_block ?_
          | (refine awp_skip ?_; try simp only [thenA, inBlockA, reduceIte, reduceCtorEq, Nat.reduceEqDiff, if_false, if_true])
          | (refine awp_exit ?_; try simp only [thenA, inBlockA, reduceIte, reduceCtorEq, Nat.reduceEqDiff, if_false, if_true])
          | (refine awp_ret ?_; try simp only [thenA, inBlockA, reduceIte, reduceCtorEq, Nat.reduceEqDiff, if_false, if_true])
          | (refine runL_split ?_ (fun hc => ?_) (fun hc => ?_); (simp only [go_sem, hs2, bne_self_eq_false, h1, h2]; exact rfl); all_goals (try simp only [go_sem, hc, hs2, bne_self_eq_false, h1, h2]); all_goals (try simp only [go_sem, hs2, bne_self_eq_false, h1, h2] at hc); all_goals (try (exfalso; omega)))
          | (refine runD_split ?_ (fun hc => ?_) (fun hc => ?_); (simp only [go_sem, hs2, bne_self_eq_false, h1, h2]; exact rfl); all_goals (try simp only [go_sem, hc, hs2, bne_self_eq_false, h1, h2]); all_goals (try simp only [go_sem, hs2, bne_self_eq_false, h1, h2] at hc); all_goals (try (exfalso; omega)))
          | (first | (refine CallK.pure (enter53) (signature_tri g) ?_ ?_; (focus first | ((repeat (first | exact trivial | refine ⟨(by first | exact Or.inl rfl | exact Or.inr rfl), ?_⟩)); done) | (simp only [coL, AV.dat, true_or, or_true, AV.d.injEq, go_sem]; done)); simp only [go_sem, hs2, bne_self_eq_false, h1, h2]) | (refine CallD.pure (enter53) (signature_tri g) ?_ ?_; (focus first | ((repeat (first | exact trivial | refine ⟨(by first | exact Or.inl rfl | exact Or.inr rfl), ?_⟩)); done) | (simp only [coL, AV.dat, true_or, or_true, AV.d.injEq, go_sem]; done)); simp only [go_sem, hs2, bne_self_eq_false, h1, h2]))
          | refine And.intro (by first | omega | exact trivial | rfl | assumption | (apply map_sz; intro a; simp only [go_sem]; done) | ((and_intros <;> first | omega | exact trivial | rfl | assumption | (apply map_sz; intro a; simp only [go_sem]; done) | fail); done) | fail) ?_
          | fail)
        first | refine ret_pure (by simp only [Try.results28, resOkL, resOk, Try.ntmps28, List.toList_toArray]; first | decide | (simp only [go_sem]; done) | (simp only [go_sem]; and_intros <;> first | omega | rfl | decide)) ?_ (by repeat (first | exact Fr.rfl' _ _ | assumption | refine Fr.updk ?_ (by omega) _)) | refine ret_ro (by simp only [Try.results28, resOkL, resOk, Try.ntmps28, List.toList_toArray]; first | decide | (simp only [go_sem]; done) | (simp only [go_sem]; and_intros <;> first | omega | rfl | decide)) ?_ (by repeat (first | exact Fr.rfl' _ _ | assumption | refine Fr.updk ?_ (by omega) _))
        simp only [resA, resV, Try.results28, go_sem]
        all_goals try (first | exact Co.t2 (.dat rfl) (.dat rfl) | exact Co.t3 (.dat rfl) (.dat rfl) (.dat rfl))
        exact co_i hv.symm
    · have h1 : decide (sz < 1) = false := by simp; omega
      have h2 : decide (sz > 3) = false := by simp; omega
      cases h3 : ((tb.length : Int) != (g.length : Int)) with
      | true =>
        have hv : mdOk g sz tb = 1 := by unfold mdOk; rw [if_neg (by simp [hs2]), if_neg hsz, if_pos (by simp at h3; omega)]
        repeat' (first
          | refine awp_seq_k fun K hK => ?_
          | (refine awp_region_k (by kernel_rfl) fun R hR => ?_; simp only [go_sem, hs2, bne_self_eq_false, h1, h2, h3])
          | (refine awp_draw mixed (by kernel_rfl) (by kernel_rfl) fun R hR => ?_; simp only [go_sem, hs2, bne_self_eq_false, h1, h2, h3])
          | (refine hR _ ?_; clear hR R; try simp only [thenA, inBlockA, reduceIte, reduceCtorEq, Nat.reduceEqDiff, if_false, if_true])
          | (refine hK _ ?_; clear hK K)
          | (clear hK K; refine hK _ ?_; clear hK K)
          | (clear hK K; clear hK K; refine hK _ ?_; clear hK K)
          | (clear hK K; clear hK K; clear hK K; refine hK _ ?_; clear hK K)
          | (clear hK K; clear hK K; clear hK K; clear hK K; refine hK _ ?_; clear hK K)
          | refine awp_true rfl rfl ?_
          | refine awp_false rfl rfl ?_
          | (refine awp_cond rfl rfl (fun hc => ?_) (fun hc => ?_) <;> (try simp only [go_sem, hs2, bne_self_eq_false, h1, h2, h3] at hc) <;> (try (exfalso; omega)))
          | refine awp_block ?_
          | (refine awp_skip ?_; try simp only [thenA, inBlockA, reduceIte, reduceCtorEq, Nat.reduceEqDiff, if_false, if_true])
          | (refine awp_exit ?_; try simp only [thenA, inBlockA, reduceIte, reduceCtorEq, Nat.reduceEqDiff, if_false, if_true])
          | (refine awp_ret ?_; try simp only [thenA, inBlockA, reduceIte, reduceCtorEq, Nat.reduceEqDiff, if_false, if_true])
          | (refine runL_split ?_ (fun hc => ?_) (fun hc => ?_); (simp only [go_sem, hs2, bne_self_eq_false, h1, h2, h3]; exact rfl); all_goals (try simp only [go_sem, hc, hs2, bne_self_eq_false, h1, h2, h3]); all_goals (try simp only [go_sem, hs2, bne_self_eq_false, h1, h2, h3] at hc); all_goals (try (exfalso; omega)))
          | (refine runD_split ?_ (fun hc => ?_) (fun hc => ?_); (simp only [go_sem, hs2, bne_self_eq_false, h1, h2, h3]; exact rfl); all_goals (try simp only [go_sem, hc, hs2, bne_self_eq_false, h1, h2, h3]); all_goals (try simp only [go_sem, hs2, bne_self_eq_false, h1, h2, h3] at hc); all_goals (try (exfalso; omega)))
          | (first | (refine CallK.pure (enter53) (signature_tri g) ?_ ?_; (focus first | ((repeat (first | exact trivial | refine ⟨(by first | exact Or.inl rfl | exact Or.inr rfl), ?_⟩)); done) | (simp only [coL, AV.dat, true_or, or_true, AV.d.injEq, go_sem]; done)); simp only [go_sem, hs2, bne_self_eq_false, h1, h2, h3]) | (refine CallD.pure (enter53) (signature_tri g) ?_ ?_; (focus first | ((repeat (first | exact trivial | refine ⟨(by first | exact Or.inl rfl | exact Or.inr rfl), ?_⟩)); done) | (simp only [coL, AV.dat, true_or, or_true, AV.d.injEq, go_sem]; done)); simp only [go_sem, hs2, bne_self_eq_false, h1, h2, h3]))
          | refine And.intro (by first | omega | exact trivial | rfl | assumption | (apply map_sz; intro a; simp only [go_sem]; done) | ((and_intros <;> first | omega | exact trivial | rfl | assumption | (apply map_sz; intro a; simp only [go_sem]; done) | fail); done) | fail) ?_
          | fail)
        first | refine ret_pure (by simp only [Try.results28, resOkL, resOk, Try.ntmps28, List.toList_toArray]; first | decide | (simp only [go_sem]; done) | (simp only [go_sem]; and_intros <;> first | omega | rfl | decide)) ?_ (by repeat (first | exact Fr.rfl' _ _ | assumption | refine Fr.updk ?_ (by omega) _)) | refine ret_ro (by simp only [Try.results28, resOkL, resOk, Try.ntmps28, List.toList_toArray]; first | decide | (simp only [go_sem]; done) | (simp only [go_sem]; and_intros <;> first | omega | rfl | decide)) ?_ (by repeat (first | exact Fr.rfl' _ _ | assumption | refine Fr.updk ?_ (by omega) _))
        simp only [resA, resV, Try.results28, go_sem]
        all_goals try (first | exact Co.t2 (.dat rfl) (.dat rfl) | exact Co.t3 (.dat rfl) (.dat rfl) (.dat rfl))
        exact co_i hv.symm
      | false =>
        have h3' : tb.length = g.length := by simp at h3; omega
        have hv : mdOk g sz tb = if rowsBad sz g tb = true then 1 else if (tb.any fun r => r.any (outOf sz)) = true then 5 else 0 := by unfold mdOk; rw [if_neg (by simp [hs2]), if_neg hsz, if_neg (by simp [h3'])]
        repeat' (first
          | refine awp_seq_k fun K hK => ?_
          | (refine awp_region_k (by kernel_rfl) fun R hR => ?_; simp only [go_sem, hs2, bne_self_eq_false, h1, h2, h3])
          | (refine awp_draw mixed (by kernel_rfl) (by kernel_rfl) fun R hR => ?_; simp only [go_sem, hs2, bne_self_eq_false, h1, h2, h3])
          | (refine hR _ ?_; clear hR R; try simp only [thenA, inBlockA, reduceIte, reduceCtorEq, Nat.reduceEqDiff, if_false, if_true])
          | (refine hK _ ?_; clear hK K)
          | (clear hK K; refine hK _ ?_; clear hK K)
          | (clear hK K; clear hK K; refine hK _ ?_; clear hK K)
          | (clear hK K; clear hK K; clear hK K; refine hK _ ?_; clear hK K)
          | (clear hK K; clear hK K; clear hK K; clear hK K; refine hK _ ?_; clear hK K)
          | refine awp_true rfl rfl ?_
          | refine awp_false rfl rfl ?_
          | (refine awp_cond rfl rfl (fun hc => ?_) (fun hc => ?_) <;> (try simp only [go_sem, hs2, bne_self_eq_false, h1, h2, h3] at hc) <;> (try (exfalso; omega)))
          | refine awp_block ?_
          | (refine awp_skip ?_; try simp only [thenA, inBlockA, reduceIte, reduceCtorEq, Nat.reduceEqDiff, if_false, if_true])
          | (refine awp_exit ?_; try simp only [thenA, inBlockA, reduceIte, reduceCtorEq, Nat.reduceEqDiff, if_false, if_true])
          | (refine awp_ret ?_; try simp only [thenA, inBlockA, reduceIte, reduceCtorEq, Nat.reduceEqDiff, if_false, if_true])
          | (refine runL_split ?_ (fun hc => ?_) (fun hc => ?_); (simp only [go_sem, hs2, bne_self_eq_false, h1, h2, h3]; exact rfl); all_goals (try simp only [go_sem, hc, hs2, bne_self_eq_false, h1, h2, h3]); all_goals (try simp only [go_sem, hs2, bne_self_eq_false, h1, h2, h3] at hc); all_goals (try (exfalso; omega)))
          | (refine runD_split ?_ (fun hc => ?_) (fun hc => ?_); (simp only [go_sem, hs2, bne_self_eq_false, h1, h2, h3]; exact rfl); all_goals (try simp only [go_sem, hc, hs2, bne_self_eq_false, h1, h2, h3]); all_goals (try simp only [go_sem, hs2, bne_self_eq_false, h1, h2, h3] at hc); all_goals (try (exfalso; omega)))
          | (first | (refine CallK.pure (enter53) (signature_tri g) ?_ ?_; (focus first | ((repeat (first | exact trivial | refine ⟨(by first | exact Or.inl rfl | exact Or.inr rfl), ?_⟩)); done) | (simp only [coL, AV.dat, true_or, or_true, AV.d.injEq, go_sem]; done)); simp only [go_sem, hs2, bne_self_eq_false, h1, h2, h3]) | (refine CallD.pure (enter53) (signature_tri g) ?_ ?_; (focus first | ((repeat (first | exact trivial | refine ⟨(by first | exact Or.inl rfl | exact Or.inr rfl), ?_⟩)); done) | (simp only [coL, AV.dat, true_or, or_true, AV.d.injEq, go_sem]; done)); simp only [go_sem, hs2, bne_self_eq_false, h1, h2, h3]))
          | refine And.intro (by first | omega | exact trivial | rfl | assumption | (apply map_sz; intro a; simp only [go_sem]; done) | ((and_intros <;> first | omega | exact trivial | rfl | assumption | (apply map_sz; intro a; simp only [go_sem]; done) | fail); done) | fail) ?_
          | fail)
        refine awp_loop (fun σ => ∃ i : Nat, σ.t 2 = .ptr (k, 0) 0 ∧ σ.t 3 = .ptr (k, 1) 0 ∧ σ.t 31 = .d (.sl (tb.map gI)) ∧ σ.t 32 = iA tb.length ∧ σ.t 33 = iA i ∧ σ.h (k, 0) = some (.cells 24 [.d (.sl (g.map iD))]) ∧ σ.h (k, 1) = some (.cells 39 [iA sz, .d (.sl (tb.map gI))]) ∧ Fr k h0 σ.h ∧ k < σ.k ∧ i ≤ tb.length ∧ rowsBad sz (g.drop i) (tb.drop i) = rowsBad sz g tb) (fun σ => tb.length - (intOf' (σ.t 33)).toNat) ?_ ?_
        · refine ⟨0, ?_⟩
          simp only [go_sem, List.drop_zero]
          and_intros; all_goals try (first | rfl | omega | assumption | ((repeat (first | exact Fr.rfl' _ _ | assumption | refine Fr.updk ?_ (by omega) _)); done))
        · rintro σ ⟨i, s2, s3, s31, s32, s33, sh, sh', hF, hk, hi, hb⟩
          have hne := ltne hk
          rcases Nat.lt_or_ge i tb.length with hlt | hge
          · have hlt' : i < g.length := by omega
            have hz : (i : Int) < (tb.length : Int) := by omega
            have hz' : (i : Int) < (g.length : Int) := by omega
            have e1 : (tb.map gI).getD i default = gI tb[i] := nth_map gI hlt _
            have e2 : (g.map iD).getD i default = iD g[i] := nth_map iD hlt' _
            obtain ⟨g1, g2⟩ := sig_each hs2 g[i] (List.getElem_mem hlt')
            have pw := power_tri (n := sz) (by omega) (by omega) (j := g[i].toNat) (by omega)
            rw [show ((g[i].toNat : Nat) : Int) = g[i] by omega] at pw
            rw [rowsBad_at hlt' hlt] at hb
            cases hc : ((tb[i].length : Int) != sz ^ g[i].toNat) with
            | true =>
              rw [hc, Bool.true_or] at hb
              repeat' (first
                | refine awp_seq_k fun K hK => ?_
                | (refine awp_region_k (by kernel_rfl) fun R hR => ?_; simp only [go_sem, s2, s3, s31, s32, s33, sh, sh', hz, hz', e1, e2, hne, hc, Int.toNat_natCast])
                | (refine awp_draw mixed (by kernel_rfl) (by kernel_rfl) fun R hR => ?_; simp only [go_sem, s2, s3, s31, s32, s33, sh, sh', hz, hz', e1, e2, hne, hc, Int.toNat_natCast])
                | (refine hR _ ?_; clear hR R; try simp only [thenA, inBlockA, reduceIte, reduceCtorEq, Nat.reduceEqDiff, if_false, if_true])
                | (refine hK _ ?_; clear hK K)
                | (clear hK K; refine hK _ ?_; clear hK K)
                | (clear hK K; clear hK K; refine hK _ ?_; clear hK K)
                | (clear hK K; clear hK K; clear hK K; refine hK _ ?_; clear hK K)
                | (clear hK K; clear hK K; clear hK K; clear hK K; refine hK _ ?_; clear hK K)
                | refine awp_true rfl rfl ?_
                | refine awp_false rfl rfl ?_
                | (refine awp_cond rfl rfl (fun hc => ?_) (fun hc => ?_) <;> (try simp only [go_sem, s2, s3, s31, s32, s33, sh, sh', hz, hz', e1, e2, hne, hc, Int.toNat_natCast] at hc) <;> (try (exfalso; omega)))
                | refine awp_block ?_
                | (refine awp_skip ?_; try simp only [thenA, inBlockA, reduceIte, reduceCtorEq, Nat.reduceEqDiff, if_false, if_true])
                | (refine awp_exit ?_; try simp only [thenA, inBlockA, reduceIte, reduceCtorEq, Nat.reduceEqDiff, if_false, if_true])
                | (refine awp_ret ?_; try simp only [thenA, inBlockA, reduceIte, reduceCtorEq, Nat.reduceEqDiff, if_false, if_true])
                | (refine runL_split ?_ (fun hc => ?_) (fun hc => ?_); (simp only [go_sem, s2, s3, s31, s32, s33, sh, sh', hz, hz', e1, e2, hne, hc, Int.toNat_natCast]; exact rfl); all_goals (try simp only [go_sem, hc, s2, s3, s31, s32, s33, sh, sh', hz, hz', e1, e2, hne, hc, Int.toNat_natCast]); all_goals (try simp only [go_sem, s2, s3, s31, s32, s33, sh, sh', hz, hz', e1, e2, hne, hc, Int.toNat_natCast] at hc); all_goals (try (exfalso; omega)))
                | (refine runD_split ?_ (fun hc => ?_) (fun hc => ?_); (simp only [go_sem, s2, s3, s31, s32, s33, sh, sh', hz, hz', e1, e2, hne, hc, Int.toNat_natCast]; exact rfl); all_goals (try simp only [go_sem, hc, s2, s3, s31, s32, s33, sh, sh', hz, hz', e1, e2, hne, hc, Int.toNat_natCast]); all_goals (try simp only [go_sem, s2, s3, s31, s32, s33, sh, sh', hz, hz', e1, e2, hne, hc, Int.toNat_natCast] at hc); all_goals (try (exfalso; omega)))
                | (first | (refine CallK.pure (enter76) (pw) ?_ ?_; (focus first | ((repeat (first | exact trivial | refine ⟨(by first | exact Or.inl rfl | exact Or.inr rfl), ?_⟩)); done) | (simp only [coL, AV.dat, true_or, or_true, AV.d.injEq, go_sem]; done)); simp only [go_sem, s2, s3, s31, s32, s33, sh, sh', hz, hz', e1, e2, hne, hc, Int.toNat_natCast]) | (refine CallD.pure (enter76) (pw) ?_ ?_; (focus first | ((repeat (first | exact trivial | refine ⟨(by first | exact Or.inl rfl | exact Or.inr rfl), ?_⟩)); done) | (simp only [coL, AV.dat, true_or, or_true, AV.d.injEq, go_sem]; done)); simp only [go_sem, s2, s3, s31, s32, s33, sh, sh', hz, hz', e1, e2, hne, hc, Int.toNat_natCast]))
                | refine And.intro (by first | omega | exact trivial | rfl | assumption | (apply map_sz; intro a; simp only [go_sem]; done) | ((and_intros <;> first | omega | exact trivial | rfl | assumption | (apply map_sz; intro a; simp only [go_sem]; done) | fail); done) | fail) ?_
                | fail)
              first | refine ret_pure (by simp only [Try.results28, resOkL, resOk, Try.ntmps28, List.toList_toArray]; first | decide | (simp only [go_sem]; done) | (simp only [go_sem]; and_intros <;> first | omega | rfl | decide)) ?_ (by repeat (first | exact Fr.rfl' _ _ | assumption | refine Fr.updk ?_ (by omega) _)) | refine ret_ro (by simp only [Try.results28, resOkL, resOk, Try.ntmps28, List.toList_toArray]; first | decide | (simp only [go_sem]; done) | (simp only [go_sem]; and_intros <;> first | omega | rfl | decide)) ?_ (by repeat (first | exact Fr.rfl' _ _ | assumption | refine Fr.updk ?_ (by omega) _))
              simp only [resA, resV, Try.results28, go_sem]
              all_goals try (first | exact Co.t2 (.dat rfl) (.dat rfl) | exact Co.t3 (.dat rfl) (.dat rfl) (.dat rfl))
              exact co_i (by rw [hv, ← hb]; rfl)
            | false =>
              rw [hc, Bool.false_or] at hb
              repeat' (first
                | refine awp_seq_k fun K hK => ?_
                | (refine awp_region_k (by kernel_rfl) fun R hR => ?_; simp only [go_sem, s2, s3, s31, s32, s33, sh, sh', hz, hz', e1, e2, hne, hc, Int.toNat_natCast])
                | (refine awp_draw mixed (by kernel_rfl) (by kernel_rfl) fun R hR => ?_; simp only [go_sem, s2, s3, s31, s32, s33, sh, sh', hz, hz', e1, e2, hne, hc, Int.toNat_natCast])
                | (refine hR _ ?_; clear hR R; try simp only [thenA, inBlockA, reduceIte, reduceCtorEq, Nat.reduceEqDiff, if_false, if_true])
                | (refine hK _ ?_; clear hK K)
                | (clear hK K; refine hK _ ?_; clear hK K)
                | (clear hK K; clear hK K; refine hK _ ?_; clear hK K)
                | (clear hK K; clear hK K; clear hK K; refine hK _ ?_; clear hK K)
                | (clear hK K; clear hK K; clear hK K; clear hK K; refine hK _ ?_; clear hK K)
                | refine awp_true rfl rfl ?_
                | refine awp_false rfl rfl ?_
                | (refine awp_cond rfl rfl (fun hc => ?_) (fun hc => ?_) <;> (try simp only [go_sem, s2, s3, s31, s32, s33, sh, sh', hz, hz', e1, e2, hne, hc, Int.toNat_natCast] at hc) <;> (try (exfalso; omega)))
                | refine awp_block ?_
                | (refine awp_skip ?_; try simp only [thenA, inBlockA, reduceIte, reduceCtorEq, Nat.reduceEqDiff, if_false, if_true])
                | (refine awp_exit ?_; try simp only [thenA, inBlockA, reduceIte, reduceCtorEq, Nat.reduceEqDiff, if_false, if_true])
                | (refine awp_ret ?_; try simp only [thenA, inBlockA, reduceIte, reduceCtorEq, Nat.reduceEqDiff, if_false, if_true])
                | (refine runL_split ?_ (fun hc => ?_) (fun hc => ?_); (simp only [go_sem, s2, s3, s31, s32, s33, sh, sh', hz, hz', e1, e2, hne, hc, Int.toNat_natCast]; exact rfl); all_goals (try simp only [go_sem, hc, s2, s3, s31, s32, s33, sh, sh', hz, hz', e1, e2, hne, hc, Int.toNat_natCast]); all_goals (try simp only [go_sem, s2, s3, s31, s32, s33, sh, sh', hz, hz', e1, e2, hne, hc, Int.toNat_natCast] at hc); all_goals (try (exfalso; omega)))
                | (refine runD_split ?_ (fun hc => ?_) (fun hc => ?_); (simp only [go_sem, s2, s3, s31, s32, s33, sh, sh', hz, hz', e1, e2, hne, hc, Int.toNat_natCast]; exact rfl); all_goals (try simp only [go_sem, hc, s2, s3, s31, s32, s33, sh, sh', hz, hz', e1, e2, hne, hc, Int.toNat_natCast]); all_goals (try simp only [go_sem, s2, s3, s31, s32, s33, sh, sh', hz, hz', e1, e2, hne, hc, Int.toNat_natCast] at hc); all_goals (try (exfalso; omega)))
                | (first | (refine CallK.pure (enter76) (pw) ?_ ?_; (focus first | ((repeat (first | exact trivial | refine ⟨(by first | exact Or.inl rfl | exact Or.inr rfl), ?_⟩)); done) | (simp only [coL, AV.dat, true_or, or_true, AV.d.injEq, go_sem]; done)); simp only [go_sem, s2, s3, s31, s32, s33, sh, sh', hz, hz', e1, e2, hne, hc, Int.toNat_natCast]) | (refine CallD.pure (enter76) (pw) ?_ ?_; (focus first | ((repeat (first | exact trivial | refine ⟨(by first | exact Or.inl rfl | exact Or.inr rfl), ?_⟩)); done) | (simp only [coL, AV.dat, true_or, or_true, AV.d.injEq, go_sem]; done)); simp only [go_sem, s2, s3, s31, s32, s33, sh, sh', hz, hz', e1, e2, hne, hc, Int.toNat_natCast]))
                | refine And.intro (by first | omega | exact trivial | rfl | assumption | (apply map_sz; intro a; simp only [go_sem]; done) | ((and_intros <;> first | omega | exact trivial | rfl | assumption | (apply map_sz; intro a; simp only [go_sem]; done) | fail); done) | fail) ?_
                | fail)
              refine ⟨⟨i + 1, ?_⟩, ?_⟩
              rotate_left
              · simp only [go_sem, s2, s3, s31, s32, s33, sh, sh', hne]; omega
              simp only [go_sem, s2, s3, s31, s32, s33, sh, sh', hne]
              and_intros; all_goals try (first | rfl | omega | assumption | ((repeat (first | exact Fr.rfl' _ _ | assumption | refine Fr.updk ?_ (by omega) _)); done))
          · have hz : ¬ ((i : Int) < (tb.length : Int)) := by omega
            rw [rowsBad_end hge] at hb
            rw [← hb] at hv
            simp only [Bool.false_eq_true, if_false] at hv
            have hro : RoOK σ.k (mdO (k, 1) sz tb) σ.h := roMd hk sh'
            have hcf := containsF_rows tb (by omega) 85 (enter85) [.ptr (k, 1) 0] (mdO (k, 1) sz tb) (fun r => r.any (outOf sz)) (fun r hr' => check1_tri (k, 1) sz tb r (by have := hr r hr'; omega))
            cases h5 : tb.any fun r => r.any (outOf sz) with
            | true =>
              rw [h5] at hv hcf
              repeat' (first
                | refine awp_seq_k fun K hK => ?_
                | (refine awp_region_k (by kernel_rfl) fun R hR => ?_; simp only [go_sem, s3, s31, s32, s33, sh', hz, hne])
                | (refine awp_draw mixed (by kernel_rfl) (by kernel_rfl) fun R hR => ?_; simp only [go_sem, s3, s31, s32, s33, sh', hz, hne])
                | (refine hR _ ?_; clear hR R; try simp only [thenA, inBlockA, reduceIte, reduceCtorEq, Nat.reduceEqDiff, if_false, if_true])
                | (refine hK _ ?_; clear hK K)
                | (clear hK K; refine hK _ ?_; clear hK K)
                | (clear hK K; clear hK K; refine hK _ ?_; clear hK K)
                | (clear hK K; clear hK K; clear hK K; refine hK _ ?_; clear hK K)
                | (clear hK K; clear hK K; clear hK K; clear hK K; refine hK _ ?_; clear hK K)
                | refine awp_true rfl rfl ?_
                | refine awp_false rfl rfl ?_
                | (refine awp_cond rfl rfl (fun hc => ?_) (fun hc => ?_) <;> (try simp only [go_sem, s3, s31, s32, s33, sh', hz, hne] at hc) <;> (try (exfalso; omega)))
                | refine awp_block ?_
                | (refine awp_skip ?_; try simp only [thenA, inBlockA, reduceIte, reduceCtorEq, Nat.reduceEqDiff, if_false, if_true])
                | (refine awp_exit ?_; try simp only [thenA, inBlockA, reduceIte, reduceCtorEq, Nat.reduceEqDiff, if_false, if_true])
                | (refine awp_ret ?_; try simp only [thenA, inBlockA, reduceIte, reduceCtorEq, Nat.reduceEqDiff, if_false, if_true])
                | (refine runL_split ?_ (fun hc => ?_) (fun hc => ?_); (simp only [go_sem, s3, s31, s32, s33, sh', hz, hne]; exact rfl); all_goals (try simp only [go_sem, hc, s3, s31, s32, s33, sh', hz, hne]); all_goals (try simp only [go_sem, s3, s31, s32, s33, sh', hz, hne] at hc); all_goals (try (exfalso; omega)))
                | (refine runD_split ?_ (fun hc => ?_) (fun hc => ?_); (simp only [go_sem, s3, s31, s32, s33, sh', hz, hne]; exact rfl); all_goals (try simp only [go_sem, hc, s3, s31, s32, s33, sh', hz, hne]); all_goals (try simp only [go_sem, s3, s31, s32, s33, sh', hz, hne] at hc); all_goals (try (exfalso; omega)))
                | (first | (first | (refine CallK.look (enter84) (hcf) ?_ (by assumption) (by repeat (first | exact Fr.rfl' _ _ | assumption | refine Fr.updk ?_ (by omega) _)) ?_; (focus first | ((repeat (first | exact trivial | refine ⟨(by first | exact Or.inl rfl | exact Or.inr rfl), ?_⟩)); done) | (simp only [coL, AV.dat, true_or, or_true, AV.d.injEq, go_sem]; done)); simp only [go_sem, s3, s31, s32, s33, sh', hz, hne])) | (first | (refine CallD.look (enter84) (hcf) ?_ (by assumption) (by repeat (first | exact Fr.rfl' _ _ | assumption | refine Fr.updk ?_ (by omega) _)) (by first | assumption | exact List.cons_ne_nil _ _) ?_; (focus first | ((repeat (first | exact trivial | refine ⟨(by first | exact Or.inl rfl | exact Or.inr rfl), ?_⟩)); done) | (simp only [coL, AV.dat, true_or, or_true, AV.d.injEq, go_sem]; done)); simp only [go_sem, s3, s31, s32, s33, sh', hz, hne])))
                | refine And.intro (by first | omega | exact trivial | rfl | assumption | (apply map_sz; intro a; simp only [go_sem]; done) | ((and_intros <;> first | omega | exact trivial | rfl | assumption | (apply map_sz; intro a; simp only [go_sem]; done) | fail); done) | fail) ?_
                | fail)
              first | refine ret_pure (by simp only [Try.results28, resOkL, resOk, Try.ntmps28, List.toList_toArray]; first | decide | (simp only [go_sem]; done) | (simp only [go_sem]; and_intros <;> first | omega | rfl | decide)) ?_ (by repeat (first | exact Fr.rfl' _ _ | assumption | refine Fr.updk ?_ (by omega) _)) | refine ret_ro (by simp only [Try.results28, resOkL, resOk, Try.ntmps28, List.toList_toArray]; first | decide | (simp only [go_sem]; done) | (simp only [go_sem]; and_intros <;> first | omega | rfl | decide)) ?_ (by repeat (first | exact Fr.rfl' _ _ | assumption | refine Fr.updk ?_ (by omega) _))
              simp only [resA, resV, Try.results28, go_sem]
              all_goals try (first | exact Co.t2 (.dat rfl) (.dat rfl) | exact Co.t3 (.dat rfl) (.dat rfl) (.dat rfl))
              exact co_i hv.symm
            | false =>
              rw [h5] at hv hcf
              repeat' (first
                | refine awp_seq_k fun K hK => ?_
                | (refine awp_region_k (by kernel_rfl) fun R hR => ?_; simp only [go_sem, s3, s31, s32, s33, sh', hz, hne])
                | (refine awp_draw mixed (by kernel_rfl) (by kernel_rfl) fun R hR => ?_; simp only [go_sem, s3, s31, s32, s33, sh', hz, hne])
                | (refine hR _ ?_; clear hR R; try simp only [thenA, inBlockA, reduceIte, reduceCtorEq, Nat.reduceEqDiff, if_false, if_true])
                | (refine hK _ ?_; clear hK K)
                | (clear hK K; refine hK _ ?_; clear hK K)
                | (clear hK K; clear hK K; refine hK _ ?_; clear hK K)
                | (clear hK K; clear hK K; clear hK K; refine hK _ ?_; clear hK K)
                | (clear hK K; clear hK K; clear hK K; clear hK K; refine hK _ ?_; clear hK K)
                | refine awp_true rfl rfl ?_
                | refine awp_false rfl rfl ?_
                | (refine awp_cond rfl rfl (fun hc => ?_) (fun hc => ?_) <;> (try simp only [go_sem, s3, s31, s32, s33, sh', hz, hne] at hc) <;> (try (exfalso; omega)))
                | refine awp_block ?_
                | (refine awp_skip ?_; try simp only [thenA, inBlockA, reduceIte, reduceCtorEq, Nat.reduceEqDiff, if_false, if_true])
                | (refine awp_exit ?_; try simp only [thenA, inBlockA, reduceIte, reduceCtorEq, Nat.reduceEqDiff, if_false, if_true])
                | (refine awp_ret ?_; try simp only [thenA, inBlockA, reduceIte, reduceCtorEq, Nat.reduceEqDiff, if_false, if_true])
                | (refine runL_split ?_ (fun hc => ?_) (fun hc => ?_); (simp only [go_sem, s3, s31, s32, s33, sh', hz, hne]; exact rfl); all_goals (try simp only [go_sem, hc, s3, s31, s32, s33, sh', hz, hne]); all_goals (try simp only [go_sem, s3, s31, s32, s33, sh', hz, hne] at hc); all_goals (try (exfalso; omega)))
                | (refine runD_split ?_ (fun hc => ?_) (fun hc => ?_); (simp only [go_sem, s3, s31, s32, s33, sh', hz, hne]; exact rfl); all_goals (try simp only [go_sem, hc, s3, s31, s32, s33, sh', hz, hne]); all_goals (try simp only [go_sem, s3, s31, s32, s33, sh', hz, hne] at hc); all_goals (try (exfalso; omega)))
                | (first | (first | (refine CallK.look (enter84) (hcf) ?_ (by assumption) (by repeat (first | exact Fr.rfl' _ _ | assumption | refine Fr.updk ?_ (by omega) _)) ?_; (focus first | ((repeat (first | exact trivial | refine ⟨(by first | exact Or.inl rfl | exact Or.inr rfl), ?_⟩)); done) | (simp only [coL, AV.dat, true_or, or_true, AV.d.injEq, go_sem]; done)); simp only [go_sem, s3, s31, s32, s33, sh', hz, hne])) | (first | (refine CallD.look (enter84) (hcf) ?_ (by assumption) (by repeat (first | exact Fr.rfl' _ _ | assumption | refine Fr.updk ?_ (by omega) _)) (by first | assumption | exact List.cons_ne_nil _ _) ?_; (focus first | ((repeat (first | exact trivial | refine ⟨(by first | exact Or.inl rfl | exact Or.inr rfl), ?_⟩)); done) | (simp only [coL, AV.dat, true_or, or_true, AV.d.injEq, go_sem]; done)); simp only [go_sem, s3, s31, s32, s33, sh', hz, hne])))
                | refine And.intro (by first | omega | exact trivial | rfl | assumption | (apply map_sz; intro a; simp only [go_sem]; done) | ((and_intros <;> first | omega | exact trivial | rfl | assumption | (apply map_sz; intro a; simp only [go_sem]; done) | fail); done) | fail) ?_
                | fail)
              first | refine ret_pure (by simp only [Try.results28, resOkL, resOk, Try.ntmps28, List.toList_toArray]; first | decide | (simp only [go_sem]; done) | (simp only [go_sem]; and_intros <;> first | omega | rfl | decide)) ?_ (by repeat (first | exact Fr.rfl' _ _ | assumption | refine Fr.updk ?_ (by omega) _)) | refine ret_ro (by simp only [Try.results28, resOkL, resOk, Try.ntmps28, List.toList_toArray]; first | decide | (simp only [go_sem]; done) | (simp only [go_sem]; and_intros <;> first | omega | rfl | decide)) ?_ (by repeat (first | exact Fr.rfl' _ _ | assumption | refine Fr.updk ?_ (by omega) _))
              simp only [resA, resV, Try.results28, go_sem]
              all_goals try (first | exact Co.t2 (.dat rfl) (.dat rfl) | exact Co.t3 (.dat rfl) (.dat rfl) (.dat rfl))
              exact co_i hv.symm
end Go.Proofs.Ytmeekpinkfpnhaa

namespace Go.Proofs.Ytmeekpinkfpnhaa

mutual
def valM (sz : Int) (tb : List (List Int)) (vs : Int → Int) : Tm → Int
  | .mk v f us => if v > 0 then vs v else (tb.getD f.toNat []).getD (valL sz tb vs us 0).toNat 0
def valL (sz : Int) (tb : List (List Int)) (vs : Int → Int) : List Tm → Int → Int
  | [], a => a
  | x :: xs, a => valL sz tb vs xs (a * sz + valM sz tb vs x)
end
theorem valM_eq (sz : Int) (tb : List (List Int)) (vs : Int → Int) (t : Tm) : valM sz tb vs t = if t.v > 0 then vs t.v else (tb.getD t.f.toNat []).getD (valL sz tb vs t.us 0).toNat 0 := by cases t; rw [valM]; rfl
theorem valL_at {sz : Int} {tb : List (List Int)} {vs : Int → Int} {us : List Tm} {i : Nat} (hi : i < us.length) (a : Int) : valL sz tb vs (us.drop i) a = valL sz tb vs (us.drop (i + 1)) (a * sz + valM sz tb vs us[i]) := by
  rw [List.drop_eq_getElem_cons hi, valL]
theorem valL_take {sz : Int} {tb : List (List Int)} {vs : Int → Int} : ∀ {us : List Tm} {i : Nat} (hi : i < us.length) (a : Int), valL sz tb vs (us.take (i + 1)) a = valL sz tb vs (us.take i) a * sz + valM sz tb vs us[i]
  | x :: xs, 0, _, a => by simp [valL]
  | x :: xs, i + 1, hi, a => by
    rw [List.take_succ_cons, List.take_succ_cons, valL, valL]
    exact valL_take (by simpa using hi) _
/-- A term that is right, of variables that are things. -/
def Fine (g : List Int) (sz : Int) (vs : Int → Int) (l : List Tm) : Prop := ∀ x ∈ l, formOne g x.v x.f x.us.length = 0 ∧ (x.v > 0 → 0 ≤ vs x.v ∧ vs x.v < sz)
section
variable {g : List Int} {sz : Int} {tb : List (List Int)} {vs : Int → Int} (hm : mdOk g sz tb = 0)
include hm
theorem md_row {f : Int} (h0 : 0 ≤ f) (h1 : f < g.length) : ∃ h : f.toNat < tb.length, (tb[f.toNat].length : Int) = sz ^ (g.getD f.toNat 0).toNat ∧ ∀ n ∈ tb[f.toNat], 0 ≤ n ∧ n < sz := by
  obtain ⟨h2, h3, h4, h5, h6, h7⟩ := mdOk_all hm
  have h : f.toNat < g.length := by omega
  refine ⟨by omega, ?_, h7 _ (List.getElem_mem _)⟩
  rw [rowsBad_all h6 f.toNat h (by omega), getD_at h]
mutual
theorem valM_ok : ∀ t : Tm, Fine g sz vs (parts t) → 0 ≤ valM sz tb vs t ∧ valM sz tb vs t < sz
  | .mk v f us, hf => by
    have h0 := hf (.mk v f us) (by rw [parts]; simp)
    simp only [Tm.v, Tm.f, Tm.us] at h0
    obtain ⟨h1, h2⟩ := h0
    rw [valM]
    by_cases hv : v > 0
    · rw [if_pos hv]; exact h2 hv
    · rw [if_neg hv]
      have hL := valL_ok us 0 0 (fun x hx => hf x (by rw [parts]; exact List.mem_append_left _ hx)) (by omega) (by simp)
      have hv0 := formOne_v h1
      unfold formOne at h1
      rw [if_neg (by omega)] at h1
      split at h1
      · cases h1
      · split at h1
        · cases h1
        · rename_i h3 h4
          simp only [Nat.zero_add] at hL
          obtain ⟨h5, h6, h7⟩ := md_row hm (f := f) (by omega) (by omega)
          rw [getD_at h5]
          have h8 : (g.getD f.toNat 0).toNat = us.length := by have h4 := Decidable.not_not.1 h4; omega
          rw [h8] at h6
          have h9 : (valL sz tb vs us 0).toNat < tb[f.toNat].length := by omega
          rw [getD_at h9]
          exact h7 _ (List.getElem_mem _)
theorem valL_ok : ∀ (us : List Tm) (a : Int) (j : Nat), Fine g sz vs (partsL us) → 0 ≤ a → a < sz ^ j → 0 ≤ valL sz tb vs us a ∧ valL sz tb vs us a < sz ^ (j + us.length)
  | [], a, j, _, h0, h1 => by rw [valL]; exact ⟨h0, by simpa using h1⟩
  | x :: xs, a, j, hf, h0, h1 => by
    have hx := valM_ok x fun y hy => hf y (by rw [partsL]; exact List.mem_append_left _ hy)
    obtain ⟨_, h3, h4, _⟩ := mdOk_all hm
    rw [valL]
    have := valL_ok xs (a * sz + valM sz tb vs x) (j + 1) (fun y hy => hf y (by rw [partsL]; exact List.mem_append_right _ hy))
      (by have : sz = 1 ∨ sz = 2 ∨ sz = 3 := by omega
          rcases this with rfl | rfl | rfl <;> omega)
      (by rw [Int.pow_succ]
          generalize sz ^ j = p at *
          have : sz = 1 ∨ sz = 2 ∨ sz = 3 := by omega
          rcases this with rfl | rfl | rfl <;> omega)
    rw [List.length_cons, show j + (xs.length + 1) = j + 1 + xs.length by omega]
    exact this
end
end
mutual
theorem valM_congr {sz : Int} {tb : List (List Int)} {vs vs' : Int → Int} : ∀ t : Tm, (∀ x ∈ parts t, x.v > 0 → vs x.v = vs' x.v) → valM sz tb vs t = valM sz tb vs' t
  | .mk v f us, h => by
    rw [valM, valM]
    by_cases hv : v > 0
    · rw [if_pos hv, if_pos hv]; exact h (.mk v f us) (by rw [parts]; simp) hv
    · rw [if_neg hv, if_neg hv, valL_congr us 0 fun x hx => h x (by rw [parts]; exact List.mem_append_left _ hx)]
theorem valL_congr {sz : Int} {tb : List (List Int)} {vs vs' : Int → Int} : ∀ (us : List Tm) (a : Int), (∀ x ∈ partsL us, x.v > 0 → vs x.v = vs' x.v) → valL sz tb vs us a = valL sz tb vs' us a
  | [], a, _ => rfl
  | x :: xs, a, h => by
    rw [valL, valL, valM_congr x fun y hy => h y (by rw [partsL]; exact List.mem_append_left _ hy)]
    exact valL_congr xs _ fun y hy => h y (by rw [partsL]; exact List.mem_append_right _ hy)
end
theorem parts_sub {t u : Tm} (hu : u ∈ t.us) : ∀ x ∈ parts u, x ∈ parts t := fun x hx => by
  rw [parts_eq]
  refine List.mem_append_left _ ?_
  obtain ⟨i, hi, rfl⟩ := List.mem_iff_getElem.1 hu
  have h := partsL_take hi
  have h2 : partsL t.us = partsL (t.us.take (i + 1)) ++ partsL (t.us.drop (i + 1)) := by rw [← partsL_append, List.take_append_drop]
  rw [h2, h]
  exact List.mem_append_left _ (List.mem_append_right _ hx)
theorem Fine.take {g : List Int} {sz : Int} {vs : Int → Int} {t : Tm} (h : Fine g sz vs (parts t)) (i : Nat) : Fine g sz vs (partsL (t.us.take i)) := fun x hx => h x (by
  rw [parts_eq]
  refine List.mem_append_left _ ?_
  have h2 : partsL t.us = partsL (t.us.take i) ++ partsL (t.us.drop i) := by rw [← partsL_append, List.take_append_drop]
  rw [h2]; exact List.mem_append_left _ hx)
end Go.Proofs.Ytmeekpinkfpnhaa
