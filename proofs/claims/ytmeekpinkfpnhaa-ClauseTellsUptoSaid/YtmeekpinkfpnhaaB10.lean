/- clause.Neat$1, Neat$2; superposeref.ApplyClause, SameClause; superposelaw.clauseIs. Models checked: model.Check. Values of terms in models: what is plain. No program in sight. Values of terms in models: model.value, superposeref.ValueOf. Values of terms in models: superposeref.ValueOf, of a list, and of an array that changes. -/
import Derived.Test.YtmeekpinkfpnhaaB09
set_option linter.unusedSimpArgs false
set_option linter.unusedSectionVars false
set_option linter.unusedVariables false
set_option linter.unnecessarySimpa false
set_option linter.all false
namespace Go.Proofs.Ytmeekpinkfpnhaa
open Go.RowKit
set_option linter.unusedSimpArgs false
set_option linter.unusedSectionVars false

set_option maxRecDepth 20000 in
theorem neat1_tri (b : Nm) (l x : Lt) : Tri Try.prog 117 [.d (ltDV x), .ptr b 0] (rdE (ltO b l) (bA (x.y == l.y && sidesB x l))) := by
  refine tri_enter_ro Try.func117 rfl Try.ntmps117 (by simp only [List.length_cons, List.length_nil]; omega) fun w0 h0 k hro => ?_
  obtain ⟨n1, eb⟩ := hro.get _ (List.mem_cons_self ..)
  have q1 := nmne n1
  cases hy : (x.y == l.y) with
  | false =>
    repeat' (first
      | refine awp_seq_k fun K hK => ?_
      | ((first | refine awp_region_k (by kernel_rfl) fun R hR => ?_ | refine awp_draw mixed (by kernel_rfl) (by kernel_rfl) fun R hR => ?_); simp only [go_sem, eb, q1, hy])
      | ((first | (refine hR _ ?_; clear hR R) | refine awp_skip ?_ | refine awp_exit ?_ | refine awp_ret ?_); try simp only [thenA, inBlockA, reduceIte, reduceCtorEq, Nat.reduceEqDiff, if_false, if_true])
      | ((first | refine hK _ ?_ | (clear hK K; first | refine hK _ ?_ | (clear hK K; first | refine hK _ ?_ | (clear hK K; first | refine hK _ ?_ | (clear hK K; refine hK _ ?_))))); clear hK K)
      | refine awp_true rfl rfl ?_
      | refine awp_false rfl rfl ?_
      | refine awp_block ?_
      | refine And.intro (by first | omega | exact trivial | rfl | assumption | (apply map_sz; intro a; simp only [go_sem]; done) | ((and_intros <;> first | omega | exact trivial | rfl | assumption | (apply map_sz; intro a; simp only [go_sem]; done) | fail); done) | fail) ?_
      | fail)
    first | refine ret_pure (by simp only [Try.results117, resOkL, resOk, Try.ntmps117, List.toList_toArray]; first | decide | (simp only [go_sem]; done) | (simp only [go_sem]; and_intros <;> first | omega | rfl | decide)) ?_ (by repeat (first | exact Fr.rfl' _ _ | assumption | refine Fr.updk ?_ (by omega) _)) | refine ret_ro (by simp only [Try.results117, resOkL, resOk, Try.ntmps117, List.toList_toArray]; first | decide | (simp only [go_sem]; done) | (simp only [go_sem]; and_intros <;> first | omega | rfl | decide)) ?_ (by repeat (first | exact Fr.rfl' _ _ | assumption | refine Fr.updk ?_ (by omega) _))
    simp only [resA, resV, Try.results117, go_sem]
    all_goals try (first | exact Co.t2 (.dat rfl) (.dat rfl) | exact Co.t3 (.dat rfl) (.dat rfl) (.dat rfl))
    exact .dat rfl
  | true =>
    repeat' (first
      | refine awp_seq_k fun K hK => ?_
      | ((first | refine awp_region_k (by kernel_rfl) fun R hR => ?_ | refine awp_draw mixed (by kernel_rfl) (by kernel_rfl) fun R hR => ?_); simp only [go_sem, eb, q1, hy])
      | ((first | (refine hR _ ?_; clear hR R) | refine awp_skip ?_ | refine awp_exit ?_ | refine awp_ret ?_); try simp only [thenA, inBlockA, reduceIte, reduceCtorEq, Nat.reduceEqDiff, if_false, if_true])
      | ((first | refine hK _ ?_ | (clear hK K; first | refine hK _ ?_ | (clear hK K; first | refine hK _ ?_ | (clear hK K; first | refine hK _ ?_ | (clear hK K; refine hK _ ?_))))); clear hK K)
      | refine awp_true rfl rfl ?_
      | refine awp_false rfl rfl ?_
      | refine awp_block ?_
      | ((first | refine CallK.pure (enter118) (sides_tri x l) ?_ ?_ | refine CallD.pure (enter118) (sides_tri x l) ?_ ?_); (focus first | ((repeat (first | exact trivial | refine ⟨(by first | exact Or.inl rfl | exact Or.inr rfl), ?_⟩)); done) | (simp only [coL, AV.dat, true_or, or_true, AV.d.injEq, go_sem]; done)); simp only [go_sem, eb, q1, hy])
      | refine And.intro (by first | omega | exact trivial | rfl | assumption | (apply map_sz; intro a; simp only [go_sem]; done) | ((and_intros <;> first | omega | exact trivial | rfl | assumption | (apply map_sz; intro a; simp only [go_sem]; done) | fail); done) | fail) ?_
      | fail)
    first | refine ret_pure (by simp only [Try.results117, resOkL, resOk, Try.ntmps117, List.toList_toArray]; first | decide | (simp only [go_sem]; done) | (simp only [go_sem]; and_intros <;> first | omega | rfl | decide)) ?_ (by repeat (first | exact Fr.rfl' _ _ | assumption | refine Fr.updk ?_ (by omega) _)) | refine ret_ro (by simp only [Try.results117, resOkL, resOk, Try.ntmps117, List.toList_toArray]; first | decide | (simp only [go_sem]; done) | (simp only [go_sem]; and_intros <;> first | omega | rfl | decide)) ?_ (by repeat (first | exact Fr.rfl' _ _ | assumption | refine Fr.updk ?_ (by omega) _))
    simp only [resA, resV, Try.results117, go_sem]
    all_goals try (first | exact Co.t2 (.dat rfl) (.dat rfl) | exact Co.t3 (.dat rfl) (.dat rfl) (.dat rfl))
    exact .dat rfl
set_option maxRecDepth 20000 in
theorem neat2_tri (b mm : Nm) (bs : Bs) (hbs : ∀ p ∈ bs, p.2.size ≤ 4000000) (t : Tm) (ht : t.size ≤ 4000000) : Tri Try.prog 120 [.d (tmDV t), .ptr b 0] (rdE (bsO b mm bs) (.d (tmDV (mapM (madeS bs) t)))) := by
  refine tri_enter_ro Try.func120 rfl Try.ntmps120 (by simp only [List.length_cons, List.length_nil]; omega) fun w0 h0 k hro => ?_
  obtain ⟨n1, eb⟩ := hro.get _ (List.mem_cons_self ..)
  obtain ⟨n2, em⟩ := hro.get _ (List.mem_cons_of_mem _ (List.mem_cons_self ..))
  have q1 := nmne n1
  have q2 := nmne n2
  have h := made_tri mm bs hbs t ht
  repeat' (first
    | refine awp_seq_k fun K hK => ?_
    | ((first | refine awp_region_k (by kernel_rfl) fun R hR => ?_ | refine awp_draw mixed (by kernel_rfl) (by kernel_rfl) fun R hR => ?_); simp only [go_sem, eb, em, q1, q2])
    | ((first | (refine hR _ ?_; clear hR R) | refine awp_skip ?_ | refine awp_exit ?_ | refine awp_ret ?_); try simp only [thenA, inBlockA, reduceIte, reduceCtorEq, Nat.reduceEqDiff, if_false, if_true])
    | ((first | refine hK _ ?_ | (clear hK K; first | refine hK _ ?_ | (clear hK K; first | refine hK _ ?_ | (clear hK K; first | refine hK _ ?_ | (clear hK K; refine hK _ ?_))))); clear hK K)
    | refine awp_true rfl rfl ?_
    | refine awp_false rfl rfl ?_
    | refine awp_block ?_
    | ((first | refine CallK.look (enter121) (h) ?_ (⟨fun x hx => by simp only [List.mem_cons, List.not_mem_nil, or_false] at hx; subst hx; exact ⟨Nat.lt_succ_of_lt n2, by simp only [go_sem, em, q2]⟩⟩) (Fr.rfl' _ _) ?_ | refine CallD.look (enter121) (h) ?_ (⟨fun x hx => by simp only [List.mem_cons, List.not_mem_nil, or_false] at hx; subst hx; exact ⟨Nat.lt_succ_of_lt n2, by simp only [go_sem, em, q2]⟩⟩) (Fr.rfl' _ _) (by first | assumption | exact List.cons_ne_nil _ _) ?_); (focus first | ((repeat (first | exact trivial | refine ⟨(by first | exact Or.inl rfl | exact Or.inr rfl), ?_⟩)); done) | (simp only [coL, AV.dat, true_or, or_true, AV.d.injEq, go_sem]; done)); simp only [go_sem, eb, em, q1, q2])
    | refine And.intro (by first | omega | exact trivial | rfl | assumption | (apply map_sz; intro a; simp only [go_sem]; done) | ((and_intros <;> first | omega | exact trivial | rfl | assumption | (apply map_sz; intro a; simp only [go_sem]; done) | fail); done) | fail) ?_
    | fail)
  first | refine ret_pure (by simp only [Try.results120, resOkL, resOk, Try.ntmps120, List.toList_toArray]; first | decide | (simp only [go_sem]; done) | (simp only [go_sem]; and_intros <;> first | omega | rfl | decide)) ?_ (by repeat (first | exact Fr.rfl' _ _ | assumption | refine Fr.updk ?_ (by omega) _)) | refine ret_ro (by simp only [Try.results120, resOkL, resOk, Try.ntmps120, List.toList_toArray]; first | decide | (simp only [go_sem]; done) | (simp only [go_sem]; and_intros <;> first | omega | rfl | decide)) ?_ (by repeat (first | exact Fr.rfl' _ _ | assumption | refine Fr.updk ?_ (by omega) _))
  simp only [resA, resV, Try.results120, go_sem]
  all_goals try (first | exact Co.t2 (.dat rfl) (.dat rfl) | exact Co.t3 (.dat rfl) (.dat rfl) (.dat rfl))
  all_goals exact co_tm' rfl
set_option maxHeartbeats 1000000 in
set_option maxRecDepth 20000 in
theorem applyClause_tri (bs : Bs) (hbs : bs.length ≤ 4000000) (c : List Lt) (hc : c.length ≤ 4000000) (hs : ∀ l ∈ c, l.a.size ≤ 4000000 ∧ l.b.size ≤ 4000000) : Tri Try.prog 92 [.d (bsDV bs), .d (clDV c)] (pure' (.d (clDV (c.map (mapLt (applyR bs)))))) := by
  refine tri_enter Try.func92 rfl Try.ntmps92 (by simp only [List.length_cons, List.length_nil]; omega) fun w0 h0 k hrd hwr => ?_
  repeat' (first
    | refine awp_ghost (ghost_nil (i := 5) (e := 107) rfl) ?_
    | refine awp_seq_k fun K hK => ?_
    | ((first | refine awp_region_k (by kernel_rfl) fun R hR => ?_ | refine awp_draw mixed (by kernel_rfl) (by kernel_rfl) fun R hR => ?_); simp only [go_sem])
    | ((first | (refine hR _ ?_; clear hR R) | refine awp_skip ?_ | refine awp_exit ?_ | refine awp_ret ?_); try simp only [thenA, inBlockA, reduceIte, reduceCtorEq, Nat.reduceEqDiff, if_false, if_true])
    | ((first | refine hK _ ?_ | (clear hK K; first | refine hK _ ?_ | (clear hK K; first | refine hK _ ?_ | (clear hK K; first | refine hK _ ?_ | (clear hK K; refine hK _ ?_))))); clear hK K)
    | refine awp_true rfl rfl ?_
    | refine awp_false rfl rfl ?_
    | refine awp_block ?_
    | refine And.intro (by first | omega | exact trivial | rfl | assumption | (apply map_sz; intro a; simp only [go_sem]; done) | ((and_intros <;> first | omega | exact trivial | rfl | assumption | (apply map_sz; intro a; simp only [go_sem]; done) | fail); done) | fail) ?_
    | fail)
  refine awp_loop (fun σ => ∃ i : Nat, σ.t 0 = .d (bsDV bs) ∧ σ.t 1 = .d (clDV c) ∧ σ.t 5 = .own (k + 1 + 1, 0) (((c.take i).map (mapLt (applyR bs))).map ltDV) ∧ σ.t 6 = iA i ∧
    σ.h (k + 1 + 1, 0) = some (.perm 107 ((c.take i).map (mapLt (applyR bs))).length) ∧ Fr k h0 σ.h ∧ k + 1 + 1 < σ.k ∧ i ≤ c.length) (fun σ => c.length - (intOf' (σ.t 6)).toNat) ?_ ?_
  · refine ⟨0, ?_⟩
    simp only [go_sem, List.take_zero, List.map_nil]
    and_intros; all_goals try (first | rfl | omega | assumption | ((repeat (first | exact Fr.rfl' _ _ | assumption | refine Fr.updk ?_ (by omega) _)); done))
  · rintro σ ⟨i, s0, s1, s5, s6, sh, hF, hk, hi⟩
    have hne2 := ltne hk
    have hml : ((c.take i).map (mapLt (applyR bs))).length = i := by rw [List.length_map, List.length_take]; omega
    rcases Nat.lt_or_ge i c.length with hlt | hge
    · have hz : (i : Int) < (c.length : Int) := by omega
      have e1 : (c.map ltDV).getD i default = ltDV c[i] := nth_map ltDV hlt _
      obtain ⟨z1, z2⟩ := hs _ (List.getElem_mem hlt)
      have d1 := apply_tri bs hbs c[i].a z1
      have d2 := apply_tri bs hbs c[i].b z2
      have etk : ((c.take i).map (mapLt (applyR bs))).map ltDV ++ [ltDV (mapLt (applyR bs) c[i])] = ((c.take (i + 1)).map (mapLt (applyR bs))).map ltDV := by rw [mapLt_take hlt]; simp
      repeat' (first
        | refine awp_seq_k fun K hK => ?_
        | ((first | refine awp_region_k (by kernel_rfl) fun R hR => ?_ | refine awp_draw mixed (by kernel_rfl) (by kernel_rfl) fun R hR => ?_); simp only [go_sem, s0, s1, s5, s6, sh, hz, e1, hne2, hml, List.length_map, Int.toNat_natCast])
        | ((first | (refine hR _ ?_; clear hR R) | refine awp_skip ?_ | refine awp_exit ?_ | refine awp_ret ?_); try simp only [thenA, inBlockA, reduceIte, reduceCtorEq, Nat.reduceEqDiff, if_false, if_true])
        | ((first | refine hK _ ?_ | (clear hK K; first | refine hK _ ?_ | (clear hK K; first | refine hK _ ?_ | (clear hK K; first | refine hK _ ?_ | (clear hK K; refine hK _ ?_))))); clear hK K)
        | refine awp_true rfl rfl ?_
        | refine awp_false rfl rfl ?_
        | refine awp_block ?_
        | ((first | refine CallK.pure (enter101) (d1) ?_ ?_ | refine CallD.pure (enter101) (d1) ?_ ?_); (focus first | ((repeat (first | exact trivial | refine ⟨(by first | exact Or.inl rfl | exact Or.inr rfl), ?_⟩)); done) | (simp only [coL, AV.dat, true_or, or_true, AV.d.injEq, go_sem]; done)); simp only [go_sem, s0, s1, s5, s6, sh, hz, e1, hne2, hml, List.length_map, Int.toNat_natCast])
        | ((first | refine CallK.pure (enter101) (d2) ?_ ?_ | refine CallD.pure (enter101) (d2) ?_ ?_); (focus first | ((repeat (first | exact trivial | refine ⟨(by first | exact Or.inl rfl | exact Or.inr rfl), ?_⟩)); done) | (simp only [coL, AV.dat, true_or, or_true, AV.d.injEq, go_sem]; done)); simp only [go_sem, s0, s1, s5, s6, sh, hz, e1, hne2, hml, List.length_map, Int.toNat_natCast])
        | refine And.intro (by first | omega | exact trivial | rfl | assumption | (apply map_sz; intro a; simp only [go_sem]; done) | ((and_intros <;> first | omega | exact trivial | rfl | assumption | (apply map_sz; intro a; simp only [go_sem]; done) | fail); done) | fail) ?_
        | fail)
      refine ⟨⟨i + 1, ?_⟩, ?_⟩
      rotate_left
      · simp only [go_sem, s0, s1, s5, s6, sh, hne2, etk, hml, List.length_map]; omega
      simp only [go_sem, s0, s1, s5, s6, sh, hne2, etk, hml, List.length_map]
      and_intros; all_goals try (first | rfl | omega | assumption | ((repeat (first | exact Fr.rfl' _ _ | assumption | refine Fr.updk ?_ (by omega) _)); done))
    · have hz : ¬ ((i : Int) < (c.length : Int)) := by omega
      obtain rfl : i = c.length := by omega
      rw [List.take_length] at s5 sh
      repeat' (first
        | refine awp_seq_k fun K hK => ?_
        | ((first | refine awp_region_k (by kernel_rfl) fun R hR => ?_ | refine awp_draw mixed (by kernel_rfl) (by kernel_rfl) fun R hR => ?_); simp only [go_sem, s0, s1, s5, s6, sh, hz])
        | ((first | (refine hR _ ?_; clear hR R) | refine awp_skip ?_ | refine awp_exit ?_ | refine awp_ret ?_); try simp only [thenA, inBlockA, reduceIte, reduceCtorEq, Nat.reduceEqDiff, if_false, if_true])
        | ((first | refine hK _ ?_ | (clear hK K; first | refine hK _ ?_ | (clear hK K; first | refine hK _ ?_ | (clear hK K; first | refine hK _ ?_ | (clear hK K; refine hK _ ?_))))); clear hK K)
        | refine awp_true rfl rfl ?_
        | refine awp_false rfl rfl ?_
        | refine awp_block ?_
        | refine And.intro (by first | omega | exact trivial | rfl | assumption | (apply map_sz; intro a; simp only [go_sem]; done) | ((and_intros <;> first | omega | exact trivial | rfl | assumption | (apply map_sz; intro a; simp only [go_sem]; done) | fail); done) | fail) ?_
        | fail)
      first | refine ret_pure (by simp only [Try.results92, resOkL, resOk, Try.ntmps92, List.toList_toArray]; first | decide | (simp only [go_sem, s5]; done) | (simp only [go_sem, s5]; and_intros <;> first | omega | rfl | decide)) ?_ (by repeat (first | exact Fr.rfl' _ _ | assumption | refine Fr.updk ?_ (by omega) _)) | refine ret_ro (by simp only [Try.results92, resOkL, resOk, Try.ntmps92, List.toList_toArray]; first | decide | (simp only [go_sem, s5]; done) | (simp only [go_sem, s5]; and_intros <;> first | omega | rfl | decide)) ?_ (by repeat (first | exact Fr.rfl' _ _ | assumption | refine Fr.updk ?_ (by omega) _))
      simp only [resA, resV, Try.results92, go_sem, s5]
      all_goals try (first | exact Co.t2 (.dat rfl) (.dat rfl) | exact Co.t3 (.dat rfl) (.dat rfl) (.dat rfl))
      all_goals exact .dat rfl
/-- superposeref.SameClause -/
def sameC : List Lt → List Lt → Bool
  | [], [] => true
  | x :: xs, y :: ys => x.y == y.y && same x.a y.a && same x.b y.b && sameC xs ys
  | _, _ => false
theorem sameC_iff : ∀ a b : List Lt, sameC a b = true ↔ a = b
  | [], [] => by simp [sameC]
  | [], _ :: _ => by simp [sameC]
  | _ :: _, [] => by simp [sameC]
  | x :: xs, y :: ys => by
    rw [sameC, Bool.and_eq_true, Bool.and_eq_true, Bool.and_eq_true, beq_iff_eq, same_iff, same_iff, sameC_iff xs ys]
    obtain ⟨x1, x2, x3⟩ := x
    obtain ⟨y1, y2, y3⟩ := y
    simp only [List.cons.injEq, Lt.mk.injEq]
    constructor
    · rintro ⟨⟨⟨h1, h2⟩, h3⟩, h4⟩; exact ⟨⟨h1, h2, h3⟩, h4⟩
    · rintro ⟨⟨h1, h2, h3⟩, h4⟩; exact ⟨⟨⟨h1, h2⟩, h3⟩, h4⟩
theorem sameC_rfl (a : List Lt) : sameC a a = true := (sameC_iff a a).2 rfl
theorem sameC_len {a b : List Lt} (h : a.length ≠ b.length) : sameC a b = false := by
  rw [← Bool.not_eq_true, sameC_iff]; rintro rfl; exact h rfl
theorem sameC_at {a b : List Lt} {i : Nat} (hi : i < a.length) (hi' : i < b.length) : sameC (a.drop i) (b.drop i) = (a[i].y == b[i].y && same a[i].a b[i].a && same a[i].b b[i].b && sameC (a.drop (i + 1)) (b.drop (i + 1))) := by
  rw [List.drop_eq_getElem_cons hi, List.drop_eq_getElem_cons hi', sameC]
set_option maxHeartbeats 1000000 in
set_option maxRecDepth 20000 in
theorem sameClause_tri (a b : List Lt) (ha : a.length ≤ 4000000) : Tri Try.prog 38 [.d (clDV a), .d (clDV b)] (pure' (bA (sameC a b))) := by
  refine tri_enter Try.func38 rfl Try.ntmps38 (by simp only [List.length_cons, List.length_nil]; omega) fun w0 h0 k hrd hwr => ?_
  cases h1 : ((a.length : Int) != (b.length : Int)) with
  | true =>
    rw [sameC_len (by simp at h1; omega)]
    repeat' (first
      | refine awp_seq_k fun K hK => ?_
      | ((first | refine awp_region_k (by kernel_rfl) fun R hR => ?_ | refine awp_draw mixed (by kernel_rfl) (by kernel_rfl) fun R hR => ?_); simp only [go_sem, h1])
      | ((first | (refine hR _ ?_; clear hR R) | refine awp_skip ?_ | refine awp_exit ?_ | refine awp_ret ?_); try simp only [thenA, inBlockA, reduceIte, reduceCtorEq, Nat.reduceEqDiff, if_false, if_true])
      | ((first | refine hK _ ?_ | (clear hK K; first | refine hK _ ?_ | (clear hK K; first | refine hK _ ?_ | (clear hK K; first | refine hK _ ?_ | (clear hK K; refine hK _ ?_))))); clear hK K)
      | refine awp_true rfl rfl ?_
      | refine awp_false rfl rfl ?_
      | refine awp_block ?_
      | refine And.intro (by first | omega | exact trivial | rfl | assumption | (apply map_sz; intro a; simp only [go_sem]; done) | ((and_intros <;> first | omega | exact trivial | rfl | assumption | (apply map_sz; intro a; simp only [go_sem]; done) | fail); done) | fail) ?_
      | fail)
    first | refine ret_pure (by simp only [Try.results38, resOkL, resOk, Try.ntmps38, List.toList_toArray]; first | decide | (simp only [go_sem]; done) | (simp only [go_sem]; and_intros <;> first | omega | rfl | decide)) ?_ (by repeat (first | exact Fr.rfl' _ _ | assumption | refine Fr.updk ?_ (by omega) _)) | refine ret_ro (by simp only [Try.results38, resOkL, resOk, Try.ntmps38, List.toList_toArray]; first | decide | (simp only [go_sem]; done) | (simp only [go_sem]; and_intros <;> first | omega | rfl | decide)) ?_ (by repeat (first | exact Fr.rfl' _ _ | assumption | refine Fr.updk ?_ (by omega) _))
    simp only [resA, resV, Try.results38, go_sem]
    all_goals try (first | exact Co.t2 (.dat rfl) (.dat rfl) | exact Co.t3 (.dat rfl) (.dat rfl) (.dat rfl))
    all_goals exact .dat rfl
  | false =>
    have hll : a.length = b.length := by simp at h1; omega
    repeat' (first
      | refine awp_seq_k fun K hK => ?_
      | ((first | refine awp_region_k (by kernel_rfl) fun R hR => ?_ | refine awp_draw mixed (by kernel_rfl) (by kernel_rfl) fun R hR => ?_); simp only [go_sem, h1])
      | ((first | (refine hR _ ?_; clear hR R) | refine awp_skip ?_ | refine awp_exit ?_ | refine awp_ret ?_); try simp only [thenA, inBlockA, reduceIte, reduceCtorEq, Nat.reduceEqDiff, if_false, if_true])
      | ((first | refine hK _ ?_ | (clear hK K; first | refine hK _ ?_ | (clear hK K; first | refine hK _ ?_ | (clear hK K; first | refine hK _ ?_ | (clear hK K; refine hK _ ?_))))); clear hK K)
      | refine awp_true rfl rfl ?_
      | refine awp_false rfl rfl ?_
      | refine awp_block ?_
      | refine And.intro (by first | omega | exact trivial | rfl | assumption | (apply map_sz; intro a; simp only [go_sem]; done) | ((and_intros <;> first | omega | exact trivial | rfl | assumption | (apply map_sz; intro a; simp only [go_sem]; done) | fail); done) | fail) ?_
      | fail)
    refine awp_loop (fun σ => ∃ i : Nat, σ.t 0 = .d (clDV a) ∧ σ.t 1 = .d (clDV b) ∧ σ.t 5 = iA i ∧ σ.h = h0 ∧ i ≤ a.length ∧ sameC (a.drop i) (b.drop i) = sameC a b) (fun σ => a.length - (intOf' (σ.t 5)).toNat) ?_ ?_
    · refine ⟨0, ?_⟩
      simp only [go_sem, List.drop_zero]
      and_intros; all_goals try (first | rfl | omega | assumption | ((repeat (first | exact Fr.rfl' _ _ | assumption | refine Fr.updk ?_ (by omega) _)); done))
    · rintro σ ⟨i, s0, s1, s5, sh, hi, hv⟩
      have hfr : Fr k h0 σ.h := by rw [sh]; exact Fr.rfl' _ _
      rcases Nat.lt_or_ge i a.length with hlt | hge
      · have hlt' : i < b.length := by omega
        have hz : (i : Int) < (a.length : Int) := by omega
        have hz' : (i : Int) < (b.length : Int) := by omega
        have e1 : (a.map ltDV).getD i default = ltDV a[i] := nth_map ltDV hlt _
        have e2 : (b.map ltDV).getD i default = ltDV b[i] := nth_map ltDV hlt' _
        rw [sameC_at hlt hlt'] at hv
        cases hy : (a[i].y == b[i].y) with
        | false =>
          rw [hy, Bool.false_and, Bool.false_and, Bool.false_and] at hv
          repeat' (first
            | refine awp_seq_k fun K hK => ?_
            | ((first | refine awp_region_k (by kernel_rfl) fun R hR => ?_ | refine awp_draw mixed (by kernel_rfl) (by kernel_rfl) fun R hR => ?_); simp only [go_sem, s0, s1, s5, hz, hz', e1, e2, hy, Int.toNat_natCast])
            | ((first | (refine hR _ ?_; clear hR R) | refine awp_skip ?_ | refine awp_exit ?_ | refine awp_ret ?_); try simp only [thenA, inBlockA, reduceIte, reduceCtorEq, Nat.reduceEqDiff, if_false, if_true])
            | ((first | refine hK _ ?_ | (clear hK K; first | refine hK _ ?_ | (clear hK K; first | refine hK _ ?_ | (clear hK K; first | refine hK _ ?_ | (clear hK K; refine hK _ ?_))))); clear hK K)
            | refine awp_true rfl rfl ?_
            | refine awp_false rfl rfl ?_
            | refine awp_block ?_
            | refine And.intro (by first | omega | exact trivial | rfl | assumption | (apply map_sz; intro a; simp only [go_sem]; done) | ((and_intros <;> first | omega | exact trivial | rfl | assumption | (apply map_sz; intro a; simp only [go_sem]; done) | fail); done) | fail) ?_
            | fail)
          first | refine ret_pure (by simp only [Try.results38, resOkL, resOk, Try.ntmps38, List.toList_toArray]; first | decide | (simp only [go_sem]; done) | (simp only [go_sem]; and_intros <;> first | omega | rfl | decide)) ?_ (by repeat (first | exact Fr.rfl' _ _ | assumption | refine Fr.updk ?_ (by omega) _)) | refine ret_ro (by simp only [Try.results38, resOkL, resOk, Try.ntmps38, List.toList_toArray]; first | decide | (simp only [go_sem]; done) | (simp only [go_sem]; and_intros <;> first | omega | rfl | decide)) ?_ (by repeat (first | exact Fr.rfl' _ _ | assumption | refine Fr.updk ?_ (by omega) _))
          simp only [resA, resV, Try.results38, go_sem]
          all_goals try (first | exact Co.t2 (.dat rfl) (.dat rfl) | exact Co.t3 (.dat rfl) (.dat rfl) (.dat rfl))
          all_goals exact co_b hv
        | true =>
          cases h2 : same a[i].a b[i].a with
          | false =>
            rw [hy, h2, Bool.true_and, Bool.false_and, Bool.false_and] at hv
            repeat' (first
              | refine awp_seq_k fun K hK => ?_
              | ((first | refine awp_region_k (by kernel_rfl) fun R hR => ?_ | refine awp_draw mixed (by kernel_rfl) (by kernel_rfl) fun R hR => ?_); simp only [go_sem, s0, s1, s5, hz, hz', e1, e2, hy, h2, Int.toNat_natCast])
              | ((first | (refine hR _ ?_; clear hR R) | refine awp_skip ?_ | refine awp_exit ?_ | refine awp_ret ?_); try simp only [thenA, inBlockA, reduceIte, reduceCtorEq, Nat.reduceEqDiff, if_false, if_true])
              | ((first | refine hK _ ?_ | (clear hK K; first | refine hK _ ?_ | (clear hK K; first | refine hK _ ?_ | (clear hK K; first | refine hK _ ?_ | (clear hK K; refine hK _ ?_))))); clear hK K)
              | refine awp_true rfl rfl ?_
              | refine awp_false rfl rfl ?_
              | refine awp_block ?_
              | ((first | refine CallK.pure (enter47) (sameR_tri a[i].a b[i].a) ?_ ?_ | refine CallD.pure (enter47) (sameR_tri a[i].a b[i].a) ?_ ?_); (focus first | ((repeat (first | exact trivial | refine ⟨(by first | exact Or.inl rfl | exact Or.inr rfl), ?_⟩)); done) | (simp only [coL, AV.dat, true_or, or_true, AV.d.injEq, go_sem]; done)); simp only [go_sem, s0, s1, s5, hz, hz', e1, e2, hy, h2, Int.toNat_natCast])
              | refine And.intro (by first | omega | exact trivial | rfl | assumption | (apply map_sz; intro a; simp only [go_sem]; done) | ((and_intros <;> first | omega | exact trivial | rfl | assumption | (apply map_sz; intro a; simp only [go_sem]; done) | fail); done) | fail) ?_
              | fail)
            first | refine ret_pure (by simp only [Try.results38, resOkL, resOk, Try.ntmps38, List.toList_toArray]; first | decide | (simp only [go_sem]; done) | (simp only [go_sem]; and_intros <;> first | omega | rfl | decide)) ?_ (by repeat (first | exact Fr.rfl' _ _ | assumption | refine Fr.updk ?_ (by omega) _)) | refine ret_ro (by simp only [Try.results38, resOkL, resOk, Try.ntmps38, List.toList_toArray]; first | decide | (simp only [go_sem]; done) | (simp only [go_sem]; and_intros <;> first | omega | rfl | decide)) ?_ (by repeat (first | exact Fr.rfl' _ _ | assumption | refine Fr.updk ?_ (by omega) _))
            simp only [resA, resV, Try.results38, go_sem]
            all_goals try (first | exact Co.t2 (.dat rfl) (.dat rfl) | exact Co.t3 (.dat rfl) (.dat rfl) (.dat rfl))
            all_goals exact co_b hv
          | true =>
            cases h3 : same a[i].b b[i].b with
            | false =>
              rw [hy, h2, h3, Bool.true_and, Bool.true_and, Bool.false_and] at hv
              repeat' (first
                | refine awp_seq_k fun K hK => ?_
                | ((first | refine awp_region_k (by kernel_rfl) fun R hR => ?_ | refine awp_draw mixed (by kernel_rfl) (by kernel_rfl) fun R hR => ?_); simp only [go_sem, s0, s1, s5, hz, hz', e1, e2, hy, h2, h3, Int.toNat_natCast])
                | ((first | (refine hR _ ?_; clear hR R) | refine awp_skip ?_ | refine awp_exit ?_ | refine awp_ret ?_); try simp only [thenA, inBlockA, reduceIte, reduceCtorEq, Nat.reduceEqDiff, if_false, if_true])
                | ((first | refine hK _ ?_ | (clear hK K; first | refine hK _ ?_ | (clear hK K; first | refine hK _ ?_ | (clear hK K; first | refine hK _ ?_ | (clear hK K; refine hK _ ?_))))); clear hK K)
                | refine awp_true rfl rfl ?_
                | refine awp_false rfl rfl ?_
                | refine awp_block ?_
                | ((first | refine CallK.pure (enter47) (sameR_tri a[i].a b[i].a) ?_ ?_ | refine CallD.pure (enter47) (sameR_tri a[i].a b[i].a) ?_ ?_); (focus first | ((repeat (first | exact trivial | refine ⟨(by first | exact Or.inl rfl | exact Or.inr rfl), ?_⟩)); done) | (simp only [coL, AV.dat, true_or, or_true, AV.d.injEq, go_sem]; done)); simp only [go_sem, s0, s1, s5, hz, hz', e1, e2, hy, h2, h3, Int.toNat_natCast])
                | ((first | refine CallK.pure (enter47) (sameR_tri a[i].b b[i].b) ?_ ?_ | refine CallD.pure (enter47) (sameR_tri a[i].b b[i].b) ?_ ?_); (focus first | ((repeat (first | exact trivial | refine ⟨(by first | exact Or.inl rfl | exact Or.inr rfl), ?_⟩)); done) | (simp only [coL, AV.dat, true_or, or_true, AV.d.injEq, go_sem]; done)); simp only [go_sem, s0, s1, s5, hz, hz', e1, e2, hy, h2, h3, Int.toNat_natCast])
                | refine And.intro (by first | omega | exact trivial | rfl | assumption | (apply map_sz; intro a; simp only [go_sem]; done) | ((and_intros <;> first | omega | exact trivial | rfl | assumption | (apply map_sz; intro a; simp only [go_sem]; done) | fail); done) | fail) ?_
                | fail)
              first | refine ret_pure (by simp only [Try.results38, resOkL, resOk, Try.ntmps38, List.toList_toArray]; first | decide | (simp only [go_sem]; done) | (simp only [go_sem]; and_intros <;> first | omega | rfl | decide)) ?_ (by repeat (first | exact Fr.rfl' _ _ | assumption | refine Fr.updk ?_ (by omega) _)) | refine ret_ro (by simp only [Try.results38, resOkL, resOk, Try.ntmps38, List.toList_toArray]; first | decide | (simp only [go_sem]; done) | (simp only [go_sem]; and_intros <;> first | omega | rfl | decide)) ?_ (by repeat (first | exact Fr.rfl' _ _ | assumption | refine Fr.updk ?_ (by omega) _))
              simp only [resA, resV, Try.results38, go_sem]
              all_goals try (first | exact Co.t2 (.dat rfl) (.dat rfl) | exact Co.t3 (.dat rfl) (.dat rfl) (.dat rfl))
              all_goals exact co_b hv
            | true =>
              rw [hy, h2, h3, Bool.true_and, Bool.true_and, Bool.true_and] at hv
              repeat' (first
                | refine awp_seq_k fun K hK => ?_
                | ((first | refine awp_region_k (by kernel_rfl) fun R hR => ?_ | refine awp_draw mixed (by kernel_rfl) (by kernel_rfl) fun R hR => ?_); simp only [go_sem, s0, s1, s5, hz, hz', e1, e2, hy, h2, h3, Int.toNat_natCast])
                | ((first | (refine hR _ ?_; clear hR R) | refine awp_skip ?_ | refine awp_exit ?_ | refine awp_ret ?_); try simp only [thenA, inBlockA, reduceIte, reduceCtorEq, Nat.reduceEqDiff, if_false, if_true])
                | ((first | refine hK _ ?_ | (clear hK K; first | refine hK _ ?_ | (clear hK K; first | refine hK _ ?_ | (clear hK K; first | refine hK _ ?_ | (clear hK K; refine hK _ ?_))))); clear hK K)
                | refine awp_true rfl rfl ?_
                | refine awp_false rfl rfl ?_
                | refine awp_block ?_
                | ((first | refine CallK.pure (enter47) (sameR_tri a[i].a b[i].a) ?_ ?_ | refine CallD.pure (enter47) (sameR_tri a[i].a b[i].a) ?_ ?_); (focus first | ((repeat (first | exact trivial | refine ⟨(by first | exact Or.inl rfl | exact Or.inr rfl), ?_⟩)); done) | (simp only [coL, AV.dat, true_or, or_true, AV.d.injEq, go_sem]; done)); simp only [go_sem, s0, s1, s5, hz, hz', e1, e2, hy, h2, h3, Int.toNat_natCast])
                | ((first | refine CallK.pure (enter47) (sameR_tri a[i].b b[i].b) ?_ ?_ | refine CallD.pure (enter47) (sameR_tri a[i].b b[i].b) ?_ ?_); (focus first | ((repeat (first | exact trivial | refine ⟨(by first | exact Or.inl rfl | exact Or.inr rfl), ?_⟩)); done) | (simp only [coL, AV.dat, true_or, or_true, AV.d.injEq, go_sem]; done)); simp only [go_sem, s0, s1, s5, hz, hz', e1, e2, hy, h2, h3, Int.toNat_natCast])
                | refine And.intro (by first | omega | exact trivial | rfl | assumption | (apply map_sz; intro a; simp only [go_sem]; done) | ((and_intros <;> first | omega | exact trivial | rfl | assumption | (apply map_sz; intro a; simp only [go_sem]; done) | fail); done) | fail) ?_
                | fail)
              refine ⟨⟨i + 1, ?_⟩, ?_⟩
              rotate_left
              · simp only [go_sem, s0, s1, s5, sh]; omega
              simp only [go_sem, s0, s1, s5, sh]
              and_intros; all_goals try (first | rfl | omega | assumption | ((repeat (first | exact Fr.rfl' _ _ | assumption | refine Fr.updk ?_ (by omega) _)); done))
      · have hz : ¬ ((i : Int) < (a.length : Int)) := by omega
        rw [List.drop_eq_nil_of_le hge, List.drop_eq_nil_of_le (by omega), sameC] at hv
        repeat' (first
          | refine awp_seq_k fun K hK => ?_
          | ((first | refine awp_region_k (by kernel_rfl) fun R hR => ?_ | refine awp_draw mixed (by kernel_rfl) (by kernel_rfl) fun R hR => ?_); simp only [go_sem, s0, s1, s5, hz])
          | ((first | (refine hR _ ?_; clear hR R) | refine awp_skip ?_ | refine awp_exit ?_ | refine awp_ret ?_); try simp only [thenA, inBlockA, reduceIte, reduceCtorEq, Nat.reduceEqDiff, if_false, if_true])
          | ((first | refine hK _ ?_ | (clear hK K; first | refine hK _ ?_ | (clear hK K; first | refine hK _ ?_ | (clear hK K; first | refine hK _ ?_ | (clear hK K; refine hK _ ?_))))); clear hK K)
          | refine awp_true rfl rfl ?_
          | refine awp_false rfl rfl ?_
          | refine awp_block ?_
          | refine And.intro (by first | omega | exact trivial | rfl | assumption | (apply map_sz; intro a; simp only [go_sem]; done) | ((and_intros <;> first | omega | exact trivial | rfl | assumption | (apply map_sz; intro a; simp only [go_sem]; done) | fail); done) | fail) ?_
          | fail)
        first | refine ret_pure (by simp only [Try.results38, resOkL, resOk, Try.ntmps38, List.toList_toArray]; first | decide | (simp only [go_sem]; done) | (simp only [go_sem]; and_intros <;> first | omega | rfl | decide)) ?_ (by repeat (first | exact Fr.rfl' _ _ | assumption | refine Fr.updk ?_ (by omega) _)) | refine ret_ro (by simp only [Try.results38, resOkL, resOk, Try.ntmps38, List.toList_toArray]; first | decide | (simp only [go_sem]; done) | (simp only [go_sem]; and_intros <;> first | omega | rfl | decide)) ?_ (by repeat (first | exact Fr.rfl' _ _ | assumption | refine Fr.updk ?_ (by omega) _))
        simp only [resA, resV, Try.results38, go_sem]
        all_goals try (first | exact Co.t2 (.dat rfl) (.dat rfl) | exact Co.t3 (.dat rfl) (.dat rfl) (.dat rfl))
        all_goals exact co_b hv
set_option maxRecDepth 20000 in
theorem clauseIs_tri (c : List Lt) (hc : c.length ≤ 4000000) (e w : Int) (want : List Lt) : Tri Try.prog 37 [.d (clDV c), iA e, iA w, .d (clDV want)] (pure' (bA (e == w && sameC c (if w ≠ 0 then [] else want)))) := by
  refine tri_enter Try.func37 rfl Try.ntmps37 (by simp only [List.length_cons, List.length_nil]; omega) fun w0 h0 k hrd hwr => ?_
  cases hw : (w != 0) with
  | true =>
    rw [if_pos (by simpa using hw)]
    cases he : (e == w) with
    | true =>
      repeat' (first
        | refine awp_seq_k fun K hK => ?_
        | ((first | refine awp_region_k (by kernel_rfl) fun R hR => ?_ | refine awp_draw mixed (by kernel_rfl) (by kernel_rfl) fun R hR => ?_); simp only [go_sem, hw, he])
        | ((first | (refine hR _ ?_; clear hR R) | refine awp_skip ?_ | refine awp_exit ?_ | refine awp_ret ?_); try simp only [thenA, inBlockA, reduceIte, reduceCtorEq, Nat.reduceEqDiff, if_false, if_true])
        | ((first | refine hK _ ?_ | (clear hK K; first | refine hK _ ?_ | (clear hK K; first | refine hK _ ?_ | (clear hK K; first | refine hK _ ?_ | (clear hK K; refine hK _ ?_))))); clear hK K)
        | refine awp_true rfl rfl ?_
        | refine awp_false rfl rfl ?_
        | refine awp_block ?_
        | ((first | refine CallK.pure (enter38) (sameClause_tri c [] hc) ?_ ?_ | refine CallD.pure (enter38) (sameClause_tri c [] hc) ?_ ?_); (focus first | ((repeat (first | exact trivial | refine ⟨(by first | exact Or.inl rfl | exact Or.inr rfl), ?_⟩)); done) | (simp only [coL, AV.dat, true_or, or_true, AV.d.injEq, go_sem]; done)); simp only [go_sem, hw, he])
        | refine And.intro (by first | omega | exact trivial | rfl | assumption | (apply map_sz; intro a; simp only [go_sem]; done) | ((and_intros <;> first | omega | exact trivial | rfl | assumption | (apply map_sz; intro a; simp only [go_sem]; done) | fail); done) | fail) ?_
        | fail)
      first | refine ret_pure (by simp only [Try.results37, resOkL, resOk, Try.ntmps37, List.toList_toArray]; first | decide | (simp only [go_sem]; done) | (simp only [go_sem]; and_intros <;> first | omega | rfl | decide)) ?_ (by repeat (first | exact Fr.rfl' _ _ | assumption | refine Fr.updk ?_ (by omega) _)) | refine ret_ro (by simp only [Try.results37, resOkL, resOk, Try.ntmps37, List.toList_toArray]; first | decide | (simp only [go_sem]; done) | (simp only [go_sem]; and_intros <;> first | omega | rfl | decide)) ?_ (by repeat (first | exact Fr.rfl' _ _ | assumption | refine Fr.updk ?_ (by omega) _))
      simp only [resA, resV, Try.results37, go_sem]
      all_goals try (first | exact Co.t2 (.dat rfl) (.dat rfl) | exact Co.t3 (.dat rfl) (.dat rfl) (.dat rfl))
      all_goals exact .dat rfl
    | false =>
      repeat' (first
        | refine awp_seq_k fun K hK => ?_
        | ((first | refine awp_region_k (by kernel_rfl) fun R hR => ?_ | refine awp_draw mixed (by kernel_rfl) (by kernel_rfl) fun R hR => ?_); simp only [go_sem, hw, he])
        | ((first | (refine hR _ ?_; clear hR R) | refine awp_skip ?_ | refine awp_exit ?_ | refine awp_ret ?_); try simp only [thenA, inBlockA, reduceIte, reduceCtorEq, Nat.reduceEqDiff, if_false, if_true])
        | ((first | refine hK _ ?_ | (clear hK K; first | refine hK _ ?_ | (clear hK K; first | refine hK _ ?_ | (clear hK K; first | refine hK _ ?_ | (clear hK K; refine hK _ ?_))))); clear hK K)
        | refine awp_true rfl rfl ?_
        | refine awp_false rfl rfl ?_
        | refine awp_block ?_
        | refine And.intro (by first | omega | exact trivial | rfl | assumption | (apply map_sz; intro a; simp only [go_sem]; done) | ((and_intros <;> first | omega | exact trivial | rfl | assumption | (apply map_sz; intro a; simp only [go_sem]; done) | fail); done) | fail) ?_
        | fail)
      first | refine ret_pure (by simp only [Try.results37, resOkL, resOk, Try.ntmps37, List.toList_toArray]; first | decide | (simp only [go_sem]; done) | (simp only [go_sem]; and_intros <;> first | omega | rfl | decide)) ?_ (by repeat (first | exact Fr.rfl' _ _ | assumption | refine Fr.updk ?_ (by omega) _)) | refine ret_ro (by simp only [Try.results37, resOkL, resOk, Try.ntmps37, List.toList_toArray]; first | decide | (simp only [go_sem]; done) | (simp only [go_sem]; and_intros <;> first | omega | rfl | decide)) ?_ (by repeat (first | exact Fr.rfl' _ _ | assumption | refine Fr.updk ?_ (by omega) _))
      simp only [resA, resV, Try.results37, go_sem]
      all_goals try (first | exact Co.t2 (.dat rfl) (.dat rfl) | exact Co.t3 (.dat rfl) (.dat rfl) (.dat rfl))
      all_goals exact .dat rfl
  | false =>
    rw [if_neg (by simpa using hw)]
    cases he : (e == w) with
    | true =>
      repeat' (first
        | refine awp_seq_k fun K hK => ?_
        | ((first | refine awp_region_k (by kernel_rfl) fun R hR => ?_ | refine awp_draw mixed (by kernel_rfl) (by kernel_rfl) fun R hR => ?_); simp only [go_sem, hw, he])
        | ((first | (refine hR _ ?_; clear hR R) | refine awp_skip ?_ | refine awp_exit ?_ | refine awp_ret ?_); try simp only [thenA, inBlockA, reduceIte, reduceCtorEq, Nat.reduceEqDiff, if_false, if_true])
        | ((first | refine hK _ ?_ | (clear hK K; first | refine hK _ ?_ | (clear hK K; first | refine hK _ ?_ | (clear hK K; first | refine hK _ ?_ | (clear hK K; refine hK _ ?_))))); clear hK K)
        | refine awp_true rfl rfl ?_
        | refine awp_false rfl rfl ?_
        | refine awp_block ?_
        | ((first | refine CallK.pure (enter38) (sameClause_tri c want hc) ?_ ?_ | refine CallD.pure (enter38) (sameClause_tri c want hc) ?_ ?_); (focus first | ((repeat (first | exact trivial | refine ⟨(by first | exact Or.inl rfl | exact Or.inr rfl), ?_⟩)); done) | (simp only [coL, AV.dat, true_or, or_true, AV.d.injEq, go_sem]; done)); simp only [go_sem, hw, he])
        | refine And.intro (by first | omega | exact trivial | rfl | assumption | (apply map_sz; intro a; simp only [go_sem]; done) | ((and_intros <;> first | omega | exact trivial | rfl | assumption | (apply map_sz; intro a; simp only [go_sem]; done) | fail); done) | fail) ?_
        | fail)
      first | refine ret_pure (by simp only [Try.results37, resOkL, resOk, Try.ntmps37, List.toList_toArray]; first | decide | (simp only [go_sem]; done) | (simp only [go_sem]; and_intros <;> first | omega | rfl | decide)) ?_ (by repeat (first | exact Fr.rfl' _ _ | assumption | refine Fr.updk ?_ (by omega) _)) | refine ret_ro (by simp only [Try.results37, resOkL, resOk, Try.ntmps37, List.toList_toArray]; first | decide | (simp only [go_sem]; done) | (simp only [go_sem]; and_intros <;> first | omega | rfl | decide)) ?_ (by repeat (first | exact Fr.rfl' _ _ | assumption | refine Fr.updk ?_ (by omega) _))
      simp only [resA, resV, Try.results37, go_sem]
      all_goals try (first | exact Co.t2 (.dat rfl) (.dat rfl) | exact Co.t3 (.dat rfl) (.dat rfl) (.dat rfl))
      all_goals exact .dat rfl
    | false =>
      repeat' (first
        | refine awp_seq_k fun K hK => ?_
        | ((first | refine awp_region_k (by kernel_rfl) fun R hR => ?_ | refine awp_draw mixed (by kernel_rfl) (by kernel_rfl) fun R hR => ?_); simp only [go_sem, hw, he])
        | ((first | (refine hR _ ?_; clear hR R) | refine awp_skip ?_ | refine awp_exit ?_ | refine awp_ret ?_); try simp only [thenA, inBlockA, reduceIte, reduceCtorEq, Nat.reduceEqDiff, if_false, if_true])
        | ((first | refine hK _ ?_ | (clear hK K; first | refine hK _ ?_ | (clear hK K; first | refine hK _ ?_ | (clear hK K; first | refine hK _ ?_ | (clear hK K; refine hK _ ?_))))); clear hK K)
        | refine awp_true rfl rfl ?_
        | refine awp_false rfl rfl ?_
        | refine awp_block ?_
        | refine And.intro (by first | omega | exact trivial | rfl | assumption | (apply map_sz; intro a; simp only [go_sem]; done) | ((and_intros <;> first | omega | exact trivial | rfl | assumption | (apply map_sz; intro a; simp only [go_sem]; done) | fail); done) | fail) ?_
        | fail)
      first | refine ret_pure (by simp only [Try.results37, resOkL, resOk, Try.ntmps37, List.toList_toArray]; first | decide | (simp only [go_sem]; done) | (simp only [go_sem]; and_intros <;> first | omega | rfl | decide)) ?_ (by repeat (first | exact Fr.rfl' _ _ | assumption | refine Fr.updk ?_ (by omega) _)) | refine ret_ro (by simp only [Try.results37, resOkL, resOk, Try.ntmps37, List.toList_toArray]; first | decide | (simp only [go_sem]; done) | (simp only [go_sem]; and_intros <;> first | omega | rfl | decide)) ?_ (by repeat (first | exact Fr.rfl' _ _ | assumption | refine Fr.updk ?_ (by omega) _))
      simp only [resA, resV, Try.results37, go_sem]
      all_goals try (first | exact Co.t2 (.dat rfl) (.dat rfl) | exact Co.t3 (.dat rfl) (.dat rfl) (.dat rfl))
      all_goals exact .dat rfl
end Go.Proofs.Ytmeekpinkfpnhaa

namespace Go.Proofs.Ytmeekpinkfpnhaa
open Go.RowKit
set_option linter.unusedSimpArgs false
set_option linter.unusedSectionVars false

set_option maxHeartbeats 2000000 in
set_option maxRecDepth 20000 in
theorem mdCheck_tri (g : List Int) (sz : Int) (tb : List (List Int)) (hl : tb.length ≤ 4000000) (hr : ∀ r ∈ tb, r.length ≤ 4000000) : Tri Try.prog 28 [.d (sgDV g), .d (mdDV sz tb)] (pure' (iA (mdOk g sz tb))) := by
  refine tri_enter Try.func28 rfl Try.ntmps28 (by simp only [List.length_cons, List.length_nil]; omega) fun w0 h0 k hrd hwr => ?_
  cases hs : sigOk g == 0 with
  | false =>
    have hs' : (sigOk g != 0) = true := by simpa using hs
    have hv : mdOk g sz tb = sigOk g := by unfold mdOk; rw [if_pos (by simpa using hs)]
    repeat' (first
      | refine awp_seq_k fun K hK => ?_
      | ((first | refine awp_region_k (by kernel_rfl) fun R hR => ?_ | refine awp_draw mixed (by kernel_rfl) (by kernel_rfl) fun R hR => ?_); simp only [go_sem, hs'])
      | ((first | (refine hR _ ?_; clear hR R) | refine awp_skip ?_ | refine awp_exit ?_ | refine awp_ret ?_); try simp only [thenA, inBlockA, reduceIte, reduceCtorEq, Nat.reduceEqDiff, if_false, if_true])
      | ((first | refine hK _ ?_ | (clear hK K; first | refine hK _ ?_ | (clear hK K; first | refine hK _ ?_ | (clear hK K; first | refine hK _ ?_ | (clear hK K; refine hK _ ?_))))); clear hK K)
      | refine awp_true rfl rfl ?_
      | refine awp_false rfl rfl ?_
      | refine awp_block ?_
      | ((first | refine CallK.pure (enter53) (signature_tri g) ?_ ?_ | refine CallD.pure (enter53) (signature_tri g) ?_ ?_); (focus first | ((repeat (first | exact trivial | refine ⟨(by first | exact Or.inl rfl | exact Or.inr rfl), ?_⟩)); done) | (simp only [coL, AV.dat, true_or, or_true, AV.d.injEq, go_sem]; done)); simp only [go_sem, hs'])
      | refine And.intro (by first | omega | exact trivial | rfl | assumption | (apply map_sz; intro a; simp only [go_sem]; done) | ((and_intros <;> first | omega | exact trivial | rfl | assumption | (apply map_sz; intro a; simp only [go_sem]; done) | fail); done) | fail) ?_
      | fail)
    first | refine ret_pure (by simp only [Try.results28, resOkL, resOk, Try.ntmps28, List.toList_toArray]; first | decide | (simp only [go_sem]; done) | (simp only [go_sem]; and_intros <;> first | omega | rfl | decide)) ?_ (by repeat (first | exact Fr.rfl' _ _ | assumption | refine Fr.updk ?_ (by omega) _)) | refine ret_ro (by simp only [Try.results28, resOkL, resOk, Try.ntmps28, List.toList_toArray]; first | decide | (simp only [go_sem]; done) | (simp only [go_sem]; and_intros <;> first | omega | rfl | decide)) ?_ (by repeat (first | exact Fr.rfl' _ _ | assumption | refine Fr.updk ?_ (by omega) _))
    simp only [resA, resV, Try.results28, go_sem]
    all_goals try (first | exact Co.t2 (.dat rfl) (.dat rfl) | exact Co.t3 (.dat rfl) (.dat rfl) (.dat rfl))
    exact co_i hv.symm
  | true =>
    have hs2 : sigOk g = 0 := by simpa using hs
    have hs' : (sigOk g != 0) = false := by simp [hs2]
    have hlen := sig_len hs2
    by_cases hsz : sz < 1 ∨ sz > 3
    · have hv : mdOk g sz tb = 3 := by unfold mdOk; rw [if_neg (by simp [hs2]), if_pos hsz]
      cases h1 : decide (sz < 1) with
      | true =>
        repeat' (first
          | refine awp_seq_k fun K hK => ?_
          | ((first | refine awp_region_k (by kernel_rfl) fun R hR => ?_ | refine awp_draw mixed (by kernel_rfl) (by kernel_rfl) fun R hR => ?_); simp only [go_sem, hs2, bne_self_eq_false, h1])
          | ((first | (refine hR _ ?_; clear hR R) | refine awp_skip ?_ | refine awp_exit ?_ | refine awp_ret ?_); try simp only [thenA, inBlockA, reduceIte, reduceCtorEq, Nat.reduceEqDiff, if_false, if_true])
          | ((first | refine hK _ ?_ | (clear hK K; first | refine hK _ ?_ | (clear hK K; first | refine hK _ ?_ | (clear hK K; first | refine hK _ ?_ | (clear hK K; refine hK _ ?_))))); clear hK K)
          | refine awp_true rfl rfl ?_
          | refine awp_false rfl rfl ?_
          | refine awp_block ?_
          | ((first | refine CallK.pure (enter53) (signature_tri g) ?_ ?_ | refine CallD.pure (enter53) (signature_tri g) ?_ ?_); (focus first | ((repeat (first | exact trivial | refine ⟨(by first | exact Or.inl rfl | exact Or.inr rfl), ?_⟩)); done) | (simp only [coL, AV.dat, true_or, or_true, AV.d.injEq, go_sem]; done)); simp only [go_sem, hs2, bne_self_eq_false, h1])
          | refine And.intro (by first | omega | exact trivial | rfl | assumption | (apply map_sz; intro a; simp only [go_sem]; done) | ((and_intros <;> first | omega | exact trivial | rfl | assumption | (apply map_sz; intro a; simp only [go_sem]; done) | fail); done) | fail) ?_
          | fail)
        first | refine ret_pure (by simp only [Try.results28, resOkL, resOk, Try.ntmps28, List.toList_toArray]; first | decide | (simp only [go_sem]; done) | (simp only [go_sem]; and_intros <;> first | omega | rfl | decide)) ?_ (by repeat (first | exact Fr.rfl' _ _ | assumption | refine Fr.updk ?_ (by omega) _)) | refine ret_ro (by simp only [Try.results28, resOkL, resOk, Try.ntmps28, List.toList_toArray]; first | decide | (simp only [go_sem]; done) | (simp only [go_sem]; and_intros <;> first | omega | rfl | decide)) ?_ (by repeat (first | exact Fr.rfl' _ _ | assumption | refine Fr.updk ?_ (by omega) _))
        simp only [resA, resV, Try.results28, go_sem]
        all_goals try (first | exact Co.t2 (.dat rfl) (.dat rfl) | exact Co.t3 (.dat rfl) (.dat rfl) (.dat rfl))
        exact co_i hv.symm
      | false =>
        have h2 : decide (sz > 3) = true := by simp at h1 ⊢; omega
        repeat' (first
          | refine awp_seq_k fun K hK => ?_
          | ((first | refine awp_region_k (by kernel_rfl) fun R hR => ?_ | refine awp_draw mixed (by kernel_rfl) (by kernel_rfl) fun R hR => ?_); simp only [go_sem, hs2, bne_self_eq_false, h1, h2])
          | ((first | (refine hR _ ?_; clear hR R) | refine awp_skip ?_ | refine awp_exit ?_ | refine awp_ret ?_); try simp only [thenA, inBlockA, reduceIte, reduceCtorEq, Nat.reduceEqDiff, if_false, if_true])
          | ((first | refine hK _ ?_ | (clear hK K; first | refine hK _ ?_ | (clear hK K; first | refine hK _ ?_ | (clear hK K; first | refine hK _ ?_ | (clear hK K; refine hK _ ?_))))); clear hK K)
          | refine awp_true rfl rfl ?_
          | refine awp_false rfl rfl ?_
          | refine awp_block ?_
          | ((first | refine CallK.pure (enter53) (signature_tri g) ?_ ?_ | refine CallD.pure (enter53) (signature_tri g) ?_ ?_); (focus first | ((repeat (first | exact trivial | refine ⟨(by first | exact Or.inl rfl | exact Or.inr rfl), ?_⟩)); done) | (simp only [coL, AV.dat, true_or, or_true, AV.d.injEq, go_sem]; done)); simp only [go_sem, hs2, bne_self_eq_false, h1, h2])
          | refine And.intro (by first | omega | exact trivial | rfl | assumption | (apply map_sz; intro a; simp only [go_sem]; done) | ((and_intros <;> first | omega | exact trivial | rfl | assumption | (apply map_sz; intro a; simp only [go_sem]; done) | fail); done) | fail) ?_
          | fail)
        first | refine ret_pure (by simp only [Try.results28, resOkL, resOk, Try.ntmps28, List.toList_toArray]; first | decide | (simp only [go_sem]; done) | (simp only [go_sem]; and_intros <;> first | omega | rfl | decide)) ?_ (by repeat (first | exact Fr.rfl' _ _ | assumption | refine Fr.updk ?_ (by omega) _)) | refine ret_ro (by simp only [Try.results28, resOkL, resOk, Try.ntmps28, List.toList_toArray]; first | decide | (simp only [go_sem]; done) | (simp only [go_sem]; and_intros <;> first | omega | rfl | decide)) ?_ (by repeat (first | exact Fr.rfl' _ _ | assumption | refine Fr.updk ?_ (by omega) _))
        simp only [resA, resV, Try.results28, go_sem]
        all_goals try (first | exact Co.t2 (.dat rfl) (.dat rfl) | exact Co.t3 (.dat rfl) (.dat rfl) (.dat rfl))
        exact co_i hv.symm
    · have h1 : decide (sz < 1) = false := by simp; omega
      have h2 : decide (sz > 3) = false := by simp; omega
      cases h3 : ((tb.length : Int) != (g.length : Int)) with
      | true =>
        have hv : mdOk g sz tb = 1 := by unfold mdOk; rw [if_neg (by simp [hs2]), if_neg hsz, if_pos (by simp at h3; omega)]
        repeat' (first
          | refine awp_seq_k fun K hK => ?_
          | ((first | refine awp_region_k (by kernel_rfl) fun R hR => ?_ | refine awp_draw mixed (by kernel_rfl) (by kernel_rfl) fun R hR => ?_); simp only [go_sem, hs2, bne_self_eq_false, h1, h2, h3])
          | ((first | (refine hR _ ?_; clear hR R) | refine awp_skip ?_ | refine awp_exit ?_ | refine awp_ret ?_); try simp only [thenA, inBlockA, reduceIte, reduceCtorEq, Nat.reduceEqDiff, if_false, if_true])
          | ((first | refine hK _ ?_ | (clear hK K; first | refine hK _ ?_ | (clear hK K; first | refine hK _ ?_ | (clear hK K; first | refine hK _ ?_ | (clear hK K; refine hK _ ?_))))); clear hK K)
          | refine awp_true rfl rfl ?_
          | refine awp_false rfl rfl ?_
          | refine awp_block ?_
          | ((first | refine CallK.pure (enter53) (signature_tri g) ?_ ?_ | refine CallD.pure (enter53) (signature_tri g) ?_ ?_); (focus first | ((repeat (first | exact trivial | refine ⟨(by first | exact Or.inl rfl | exact Or.inr rfl), ?_⟩)); done) | (simp only [coL, AV.dat, true_or, or_true, AV.d.injEq, go_sem]; done)); simp only [go_sem, hs2, bne_self_eq_false, h1, h2, h3])
          | refine And.intro (by first | omega | exact trivial | rfl | assumption | (apply map_sz; intro a; simp only [go_sem]; done) | ((and_intros <;> first | omega | exact trivial | rfl | assumption | (apply map_sz; intro a; simp only [go_sem]; done) | fail); done) | fail) ?_
          | fail)
        first | refine ret_pure (by simp only [Try.results28, resOkL, resOk, Try.ntmps28, List.toList_toArray]; first | decide | (simp only [go_sem]; done) | (simp only [go_sem]; and_intros <;> first | omega | rfl | decide)) ?_ (by repeat (first | exact Fr.rfl' _ _ | assumption | refine Fr.updk ?_ (by omega) _)) | refine ret_ro (by simp only [Try.results28, resOkL, resOk, Try.ntmps28, List.toList_toArray]; first | decide | (simp only [go_sem]; done) | (simp only [go_sem]; and_intros <;> first | omega | rfl | decide)) ?_ (by repeat (first | exact Fr.rfl' _ _ | assumption | refine Fr.updk ?_ (by omega) _))
        simp only [resA, resV, Try.results28, go_sem]
        all_goals try (first | exact Co.t2 (.dat rfl) (.dat rfl) | exact Co.t3 (.dat rfl) (.dat rfl) (.dat rfl))
        exact co_i hv.symm
      | false =>
        have h3' : tb.length = g.length := by simp at h3; omega
        have hv : mdOk g sz tb = if rowsBad sz g tb = true then 1 else if (tb.any fun r => r.any (outOf sz)) = true then 5 else 0 := by unfold mdOk; rw [if_neg (by simp [hs2]), if_neg hsz, if_neg (by simp [h3'])]
        repeat' (first
          | refine awp_seq_k fun K hK => ?_
          | ((first | refine awp_region_k (by kernel_rfl) fun R hR => ?_ | refine awp_draw mixed (by kernel_rfl) (by kernel_rfl) fun R hR => ?_); simp only [go_sem, hs2, bne_self_eq_false, h1, h2, h3])
          | ((first | (refine hR _ ?_; clear hR R) | refine awp_skip ?_ | refine awp_exit ?_ | refine awp_ret ?_); try simp only [thenA, inBlockA, reduceIte, reduceCtorEq, Nat.reduceEqDiff, if_false, if_true])
          | ((first | refine hK _ ?_ | (clear hK K; first | refine hK _ ?_ | (clear hK K; first | refine hK _ ?_ | (clear hK K; first | refine hK _ ?_ | (clear hK K; refine hK _ ?_))))); clear hK K)
          | refine awp_true rfl rfl ?_
          | refine awp_false rfl rfl ?_
          | refine awp_block ?_
          | ((first | refine CallK.pure (enter53) (signature_tri g) ?_ ?_ | refine CallD.pure (enter53) (signature_tri g) ?_ ?_); (focus first | ((repeat (first | exact trivial | refine ⟨(by first | exact Or.inl rfl | exact Or.inr rfl), ?_⟩)); done) | (simp only [coL, AV.dat, true_or, or_true, AV.d.injEq, go_sem]; done)); simp only [go_sem, hs2, bne_self_eq_false, h1, h2, h3])
          | refine And.intro (by first | omega | exact trivial | rfl | assumption | (apply map_sz; intro a; simp only [go_sem]; done) | ((and_intros <;> first | omega | exact trivial | rfl | assumption | (apply map_sz; intro a; simp only [go_sem]; done) | fail); done) | fail) ?_
          | fail)
        refine awp_loop (fun σ => ∃ i : Nat, σ.t 2 = .ptr (k, 0) 0 ∧ σ.t 3 = .ptr (k, 1) 0 ∧ σ.t 31 = .d (.sl (tb.map gI)) ∧ σ.t 32 = iA tb.length ∧ σ.t 33 = iA i ∧ σ.h (k, 0) = some (.cells 24 [.d (.sl (g.map iD))]) ∧ σ.h (k, 1) = some (.cells 39 [iA sz, .d (.sl (tb.map gI))]) ∧ Fr k h0 σ.h ∧ k < σ.k ∧ i ≤ tb.length ∧ rowsBad sz (g.drop i) (tb.drop i) = rowsBad sz g tb) (fun σ => tb.length - (intOf' (σ.t 33)).toNat) ?_ ?_
        · refine ⟨0, ?_⟩
          simp only [go_sem, List.drop_zero]
          and_intros; all_goals try (first | rfl | omega | assumption | ((repeat (first | exact Fr.rfl' _ _ | assumption | refine Fr.updk ?_ (by omega) _)); done))
        · rintro σ ⟨i, s2, s3, s31, s32, s33, sh, sh', hF, hk, hi, hb⟩
          have hne := ltne hk
          rcases Nat.lt_or_ge i tb.length with hlt | hge
          · have hlt' : i < g.length := by omega
            have hz : (i : Int) < (tb.length : Int) := by omega
            have hz' : (i : Int) < (g.length : Int) := by omega
            have e1 : (tb.map gI).getD i default = gI tb[i] := nth_map gI hlt _
            have e2 : (g.map iD).getD i default = iD g[i] := nth_map iD hlt' _
            obtain ⟨g1, g2⟩ := sig_each hs2 g[i] (List.getElem_mem hlt')
            have pw := power_tri (n := sz) (by omega) (by omega) (j := g[i].toNat) (by omega)
            rw [show ((g[i].toNat : Nat) : Int) = g[i] by omega] at pw
            rw [rowsBad_at hlt' hlt] at hb
            cases hc : ((tb[i].length : Int) != sz ^ g[i].toNat) with
            | true =>
              rw [hc, Bool.true_or] at hb
              repeat' (first
                | refine awp_seq_k fun K hK => ?_
                | ((first | refine awp_region_k (by kernel_rfl) fun R hR => ?_ | refine awp_draw mixed (by kernel_rfl) (by kernel_rfl) fun R hR => ?_); simp only [go_sem, s2, s3, s31, s32, s33, sh, sh', hz, hz', e1, e2, hne, hc, Int.toNat_natCast])
                | ((first | (refine hR _ ?_; clear hR R) | refine awp_skip ?_ | refine awp_exit ?_ | refine awp_ret ?_); try simp only [thenA, inBlockA, reduceIte, reduceCtorEq, Nat.reduceEqDiff, if_false, if_true])
                | ((first | refine hK _ ?_ | (clear hK K; first | refine hK _ ?_ | (clear hK K; first | refine hK _ ?_ | (clear hK K; first | refine hK _ ?_ | (clear hK K; refine hK _ ?_))))); clear hK K)
                | refine awp_true rfl rfl ?_
                | refine awp_false rfl rfl ?_
                | refine awp_block ?_
                | ((first | refine CallK.pure (enter76) (pw) ?_ ?_ | refine CallD.pure (enter76) (pw) ?_ ?_); (focus first | ((repeat (first | exact trivial | refine ⟨(by first | exact Or.inl rfl | exact Or.inr rfl), ?_⟩)); done) | (simp only [coL, AV.dat, true_or, or_true, AV.d.injEq, go_sem]; done)); simp only [go_sem, s2, s3, s31, s32, s33, sh, sh', hz, hz', e1, e2, hne, hc, Int.toNat_natCast])
                | refine And.intro (by first | omega | exact trivial | rfl | assumption | (apply map_sz; intro a; simp only [go_sem]; done) | ((and_intros <;> first | omega | exact trivial | rfl | assumption | (apply map_sz; intro a; simp only [go_sem]; done) | fail); done) | fail) ?_
                | fail)
              first | refine ret_pure (by simp only [Try.results28, resOkL, resOk, Try.ntmps28, List.toList_toArray]; first | decide | (simp only [go_sem]; done) | (simp only [go_sem]; and_intros <;> first | omega | rfl | decide)) ?_ (by repeat (first | exact Fr.rfl' _ _ | assumption | refine Fr.updk ?_ (by omega) _)) | refine ret_ro (by simp only [Try.results28, resOkL, resOk, Try.ntmps28, List.toList_toArray]; first | decide | (simp only [go_sem]; done) | (simp only [go_sem]; and_intros <;> first | omega | rfl | decide)) ?_ (by repeat (first | exact Fr.rfl' _ _ | assumption | refine Fr.updk ?_ (by omega) _))
              simp only [resA, resV, Try.results28, go_sem]
              all_goals try (first | exact Co.t2 (.dat rfl) (.dat rfl) | exact Co.t3 (.dat rfl) (.dat rfl) (.dat rfl))
              exact co_i (by rw [hv, ← hb]; rfl)
            | false =>
              rw [hc, Bool.false_or] at hb
              repeat' (first
                | refine awp_seq_k fun K hK => ?_
                | ((first | refine awp_region_k (by kernel_rfl) fun R hR => ?_ | refine awp_draw mixed (by kernel_rfl) (by kernel_rfl) fun R hR => ?_); simp only [go_sem, s2, s3, s31, s32, s33, sh, sh', hz, hz', e1, e2, hne, hc, Int.toNat_natCast])
                | ((first | (refine hR _ ?_; clear hR R) | refine awp_skip ?_ | refine awp_exit ?_ | refine awp_ret ?_); try simp only [thenA, inBlockA, reduceIte, reduceCtorEq, Nat.reduceEqDiff, if_false, if_true])
                | ((first | refine hK _ ?_ | (clear hK K; first | refine hK _ ?_ | (clear hK K; first | refine hK _ ?_ | (clear hK K; first | refine hK _ ?_ | (clear hK K; refine hK _ ?_))))); clear hK K)
                | refine awp_true rfl rfl ?_
                | refine awp_false rfl rfl ?_
                | refine awp_block ?_
                | ((first | refine CallK.pure (enter76) (pw) ?_ ?_ | refine CallD.pure (enter76) (pw) ?_ ?_); (focus first | ((repeat (first | exact trivial | refine ⟨(by first | exact Or.inl rfl | exact Or.inr rfl), ?_⟩)); done) | (simp only [coL, AV.dat, true_or, or_true, AV.d.injEq, go_sem]; done)); simp only [go_sem, s2, s3, s31, s32, s33, sh, sh', hz, hz', e1, e2, hne, hc, Int.toNat_natCast])
                | refine And.intro (by first | omega | exact trivial | rfl | assumption | (apply map_sz; intro a; simp only [go_sem]; done) | ((and_intros <;> first | omega | exact trivial | rfl | assumption | (apply map_sz; intro a; simp only [go_sem]; done) | fail); done) | fail) ?_
                | fail)
              refine ⟨⟨i + 1, ?_⟩, ?_⟩
              rotate_left
              · simp only [go_sem, s2, s3, s31, s32, s33, sh, sh', hne]; omega
              simp only [go_sem, s2, s3, s31, s32, s33, sh, sh', hne]
              and_intros; all_goals try (first | rfl | omega | assumption | ((repeat (first | exact Fr.rfl' _ _ | assumption | refine Fr.updk ?_ (by omega) _)); done))
          · have hz : ¬ ((i : Int) < (tb.length : Int)) := by omega
            rw [rowsBad_end hge] at hb
            rw [← hb] at hv
            simp only [Bool.false_eq_true, if_false] at hv
            have hro : RoOK σ.k (mdO (k, 1) sz tb) σ.h := roMd hk sh'
            have hcf := containsF_rows tb (by omega) 85 (enter85) [.ptr (k, 1) 0] (mdO (k, 1) sz tb) (fun r => r.any (outOf sz)) (fun r hr' => check1_tri (k, 1) sz tb r (by have := hr r hr'; omega))
            cases h5 : tb.any fun r => r.any (outOf sz) with
            | true =>
              rw [h5] at hv hcf
              repeat' (first
                | refine awp_seq_k fun K hK => ?_
                | ((first | refine awp_region_k (by kernel_rfl) fun R hR => ?_ | refine awp_draw mixed (by kernel_rfl) (by kernel_rfl) fun R hR => ?_); simp only [go_sem, s3, s31, s32, s33, sh', hz, hne])
                | ((first | (refine hR _ ?_; clear hR R) | refine awp_skip ?_ | refine awp_exit ?_ | refine awp_ret ?_); try simp only [thenA, inBlockA, reduceIte, reduceCtorEq, Nat.reduceEqDiff, if_false, if_true])
                | ((first | refine hK _ ?_ | (clear hK K; first | refine hK _ ?_ | (clear hK K; first | refine hK _ ?_ | (clear hK K; first | refine hK _ ?_ | (clear hK K; refine hK _ ?_))))); clear hK K)
                | refine awp_true rfl rfl ?_
                | refine awp_false rfl rfl ?_
                | refine awp_block ?_
                | ((first | refine CallK.look (enter84) (hcf) ?_ (by assumption) (by repeat (first | exact Fr.rfl' _ _ | assumption | refine Fr.updk ?_ (by omega) _)) ?_ | refine CallD.look (enter84) (hcf) ?_ (by assumption) (by repeat (first | exact Fr.rfl' _ _ | assumption | refine Fr.updk ?_ (by omega) _)) (by first | assumption | exact List.cons_ne_nil _ _) ?_); (focus first | ((repeat (first | exact trivial | refine ⟨(by first | exact Or.inl rfl | exact Or.inr rfl), ?_⟩)); done) | (simp only [coL, AV.dat, true_or, or_true, AV.d.injEq, go_sem]; done)); simp only [go_sem, s3, s31, s32, s33, sh', hz, hne])
                | refine And.intro (by first | omega | exact trivial | rfl | assumption | (apply map_sz; intro a; simp only [go_sem]; done) | ((and_intros <;> first | omega | exact trivial | rfl | assumption | (apply map_sz; intro a; simp only [go_sem]; done) | fail); done) | fail) ?_
                | fail)
              first | refine ret_pure (by simp only [Try.results28, resOkL, resOk, Try.ntmps28, List.toList_toArray]; first | decide | (simp only [go_sem]; done) | (simp only [go_sem]; and_intros <;> first | omega | rfl | decide)) ?_ (by repeat (first | exact Fr.rfl' _ _ | assumption | refine Fr.updk ?_ (by omega) _)) | refine ret_ro (by simp only [Try.results28, resOkL, resOk, Try.ntmps28, List.toList_toArray]; first | decide | (simp only [go_sem]; done) | (simp only [go_sem]; and_intros <;> first | omega | rfl | decide)) ?_ (by repeat (first | exact Fr.rfl' _ _ | assumption | refine Fr.updk ?_ (by omega) _))
              simp only [resA, resV, Try.results28, go_sem]
              all_goals try (first | exact Co.t2 (.dat rfl) (.dat rfl) | exact Co.t3 (.dat rfl) (.dat rfl) (.dat rfl))
              exact co_i hv.symm
            | false =>
              rw [h5] at hv hcf
              repeat' (first
                | refine awp_seq_k fun K hK => ?_
                | ((first | refine awp_region_k (by kernel_rfl) fun R hR => ?_ | refine awp_draw mixed (by kernel_rfl) (by kernel_rfl) fun R hR => ?_); simp only [go_sem, s3, s31, s32, s33, sh', hz, hne])
                | ((first | (refine hR _ ?_; clear hR R) | refine awp_skip ?_ | refine awp_exit ?_ | refine awp_ret ?_); try simp only [thenA, inBlockA, reduceIte, reduceCtorEq, Nat.reduceEqDiff, if_false, if_true])
                | ((first | refine hK _ ?_ | (clear hK K; first | refine hK _ ?_ | (clear hK K; first | refine hK _ ?_ | (clear hK K; first | refine hK _ ?_ | (clear hK K; refine hK _ ?_))))); clear hK K)
                | refine awp_true rfl rfl ?_
                | refine awp_false rfl rfl ?_
                | refine awp_block ?_
                | ((first | refine CallK.look (enter84) (hcf) ?_ (by assumption) (by repeat (first | exact Fr.rfl' _ _ | assumption | refine Fr.updk ?_ (by omega) _)) ?_ | refine CallD.look (enter84) (hcf) ?_ (by assumption) (by repeat (first | exact Fr.rfl' _ _ | assumption | refine Fr.updk ?_ (by omega) _)) (by first | assumption | exact List.cons_ne_nil _ _) ?_); (focus first | ((repeat (first | exact trivial | refine ⟨(by first | exact Or.inl rfl | exact Or.inr rfl), ?_⟩)); done) | (simp only [coL, AV.dat, true_or, or_true, AV.d.injEq, go_sem]; done)); simp only [go_sem, s3, s31, s32, s33, sh', hz, hne])
                | refine And.intro (by first | omega | exact trivial | rfl | assumption | (apply map_sz; intro a; simp only [go_sem]; done) | ((and_intros <;> first | omega | exact trivial | rfl | assumption | (apply map_sz; intro a; simp only [go_sem]; done) | fail); done) | fail) ?_
                | fail)
              first | refine ret_pure (by simp only [Try.results28, resOkL, resOk, Try.ntmps28, List.toList_toArray]; first | decide | (simp only [go_sem]; done) | (simp only [go_sem]; and_intros <;> first | omega | rfl | decide)) ?_ (by repeat (first | exact Fr.rfl' _ _ | assumption | refine Fr.updk ?_ (by omega) _)) | refine ret_ro (by simp only [Try.results28, resOkL, resOk, Try.ntmps28, List.toList_toArray]; first | decide | (simp only [go_sem]; done) | (simp only [go_sem]; and_intros <;> first | omega | rfl | decide)) ?_ (by repeat (first | exact Fr.rfl' _ _ | assumption | refine Fr.updk ?_ (by omega) _))
              simp only [resA, resV, Try.results28, go_sem]
              all_goals try (first | exact Co.t2 (.dat rfl) (.dat rfl) | exact Co.t3 (.dat rfl) (.dat rfl) (.dat rfl))
              exact co_i hv.symm
end Go.Proofs.Ytmeekpinkfpnhaa

namespace Go.Proofs.Ytmeekpinkfpnhaa

mutual
def valM (sz : Int) (tb : List (List Int)) (vs : Int → Int) : Tm → Int
  | .mk v f us => if v > 0 then vs v else (tb.getD f.toNat []).getD (valL sz tb vs us 0).toNat 0
def valL (sz : Int) (tb : List (List Int)) (vs : Int → Int) : List Tm → Int → Int
  | [], a => a
  | x :: xs, a => valL sz tb vs xs (a * sz + valM sz tb vs x)
end
theorem valM_eq (sz : Int) (tb : List (List Int)) (vs : Int → Int) (t : Tm) : valM sz tb vs t = if t.v > 0 then vs t.v else (tb.getD t.f.toNat []).getD (valL sz tb vs t.us 0).toNat 0 := by cases t; rw [valM]; rfl
theorem valL_at {sz : Int} {tb : List (List Int)} {vs : Int → Int} {us : List Tm} {i : Nat} (hi : i < us.length) (a : Int) : valL sz tb vs (us.drop i) a = valL sz tb vs (us.drop (i + 1)) (a * sz + valM sz tb vs us[i]) := by
  rw [List.drop_eq_getElem_cons hi, valL]
theorem valL_take {sz : Int} {tb : List (List Int)} {vs : Int → Int} : ∀ {us : List Tm} {i : Nat} (hi : i < us.length) (a : Int), valL sz tb vs (us.take (i + 1)) a = valL sz tb vs (us.take i) a * sz + valM sz tb vs us[i]
  | x :: xs, 0, _, a => by simp [valL]
  | x :: xs, i + 1, hi, a => by
    rw [List.take_succ_cons, List.take_succ_cons, valL, valL]
    exact valL_take (by simpa using hi) _
/-- A term that is right, of variables that are things. -/
def Fine (g : List Int) (sz : Int) (vs : Int → Int) (l : List Tm) : Prop := ∀ x ∈ l, formOne g x.v x.f x.us.length = 0 ∧ (x.v > 0 → 0 ≤ vs x.v ∧ vs x.v < sz)
section
variable {g : List Int} {sz : Int} {tb : List (List Int)} {vs : Int → Int} (hm : mdOk g sz tb = 0)
include hm
theorem md_row {f : Int} (h0 : 0 ≤ f) (h1 : f < g.length) : ∃ h : f.toNat < tb.length, (tb[f.toNat].length : Int) = sz ^ (g.getD f.toNat 0).toNat ∧ ∀ n ∈ tb[f.toNat], 0 ≤ n ∧ n < sz := by
  obtain ⟨h2, h3, h4, h5, h6, h7⟩ := mdOk_all hm
  have h : f.toNat < g.length := by omega
  refine ⟨by omega, ?_, h7 _ (List.getElem_mem _)⟩
  rw [rowsBad_all h6 f.toNat h (by omega), getD_at h]
mutual
theorem valM_ok : ∀ t : Tm, Fine g sz vs (parts t) → 0 ≤ valM sz tb vs t ∧ valM sz tb vs t < sz
  | .mk v f us, hf => by
    have h0 := hf (.mk v f us) (by rw [parts]; simp)
    simp only [Tm.v, Tm.f, Tm.us] at h0
    obtain ⟨h1, h2⟩ := h0
    rw [valM]
    by_cases hv : v > 0
    · rw [if_pos hv]; exact h2 hv
    · rw [if_neg hv]
      have hL := valL_ok us 0 0 (fun x hx => hf x (by rw [parts]; exact List.mem_append_left _ hx)) (by omega) (by simp)
      have hv0 := formOne_v h1
      unfold formOne at h1
      rw [if_neg (by omega)] at h1
      split at h1
      · cases h1
      · split at h1
        · cases h1
        · rename_i h3 h4
          simp only [Nat.zero_add] at hL
          obtain ⟨h5, h6, h7⟩ := md_row hm (f := f) (by omega) (by omega)
          rw [getD_at h5]
          have h8 : (g.getD f.toNat 0).toNat = us.length := by have h4 := Decidable.not_not.1 h4; omega
          rw [h8] at h6
          have h9 : (valL sz tb vs us 0).toNat < tb[f.toNat].length := by omega
          rw [getD_at h9]
          exact h7 _ (List.getElem_mem _)
theorem valL_ok : ∀ (us : List Tm) (a : Int) (j : Nat), Fine g sz vs (partsL us) → 0 ≤ a → a < sz ^ j → 0 ≤ valL sz tb vs us a ∧ valL sz tb vs us a < sz ^ (j + us.length)
  | [], a, j, _, h0, h1 => by rw [valL]; exact ⟨h0, by simpa using h1⟩
  | x :: xs, a, j, hf, h0, h1 => by
    have hx := valM_ok x fun y hy => hf y (by rw [partsL]; exact List.mem_append_left _ hy)
    obtain ⟨_, h3, h4, _⟩ := mdOk_all hm
    rw [valL]
    have := valL_ok xs (a * sz + valM sz tb vs x) (j + 1) (fun y hy => hf y (by rw [partsL]; exact List.mem_append_right _ hy))
      (by have : sz = 1 ∨ sz = 2 ∨ sz = 3 := by omega
          rcases this with rfl | rfl | rfl <;> omega)
      (by rw [Int.pow_succ]
          generalize sz ^ j = p at *
          have : sz = 1 ∨ sz = 2 ∨ sz = 3 := by omega
          rcases this with rfl | rfl | rfl <;> omega)
    rw [List.length_cons, show j + (xs.length + 1) = j + 1 + xs.length by omega]
    exact this
end
end
mutual
theorem valM_congr {sz : Int} {tb : List (List Int)} {vs vs' : Int → Int} : ∀ t : Tm, (∀ x ∈ parts t, x.v > 0 → vs x.v = vs' x.v) → valM sz tb vs t = valM sz tb vs' t
  | .mk v f us, h => by
    rw [valM, valM]
    by_cases hv : v > 0
    · rw [if_pos hv, if_pos hv]; exact h (.mk v f us) (by rw [parts]; simp) hv
    · rw [if_neg hv, if_neg hv, valL_congr us 0 fun x hx => h x (by rw [parts]; exact List.mem_append_left _ hx)]
theorem valL_congr {sz : Int} {tb : List (List Int)} {vs vs' : Int → Int} : ∀ (us : List Tm) (a : Int), (∀ x ∈ partsL us, x.v > 0 → vs x.v = vs' x.v) → valL sz tb vs us a = valL sz tb vs' us a
  | [], a, _ => rfl
  | x :: xs, a, h => by
    rw [valL, valL, valM_congr x fun y hy => h y (by rw [partsL]; exact List.mem_append_left _ hy)]
    exact valL_congr xs _ fun y hy => h y (by rw [partsL]; exact List.mem_append_right _ hy)
end
theorem parts_sub {t u : Tm} (hu : u ∈ t.us) : ∀ x ∈ parts u, x ∈ parts t := fun x hx => by
  rw [parts_eq]
  refine List.mem_append_left _ ?_
  obtain ⟨i, hi, rfl⟩ := List.mem_iff_getElem.1 hu
  have h := partsL_take hi
  have h2 : partsL t.us = partsL (t.us.take (i + 1)) ++ partsL (t.us.drop (i + 1)) := by rw [← partsL_append, List.take_append_drop]
  rw [h2, h]
  exact List.mem_append_left _ (List.mem_append_right _ hx)
theorem Fine.take {g : List Int} {sz : Int} {vs : Int → Int} {t : Tm} (h : Fine g sz vs (parts t)) (i : Nat) : Fine g sz vs (partsL (t.us.take i)) := fun x hx => h x (by
  rw [parts_eq]
  refine List.mem_append_left _ ?_
  have h2 : partsL t.us = partsL (t.us.take i) ++ partsL (t.us.drop i) := by rw [← partsL_append, List.take_append_drop]
  rw [h2]; exact List.mem_append_left _ hx)
end Go.Proofs.Ytmeekpinkfpnhaa

namespace Go.Proofs.Ytmeekpinkfpnhaa
open Go.RowKit
set_option linter.unusedSimpArgs false
set_option linter.unusedSectionVars false

section
variable {g : List Int} {sz : Int} {tb : List (List Int)} {vs : Int → Int} (hm : mdOk g sz tb = 0)
include hm
/-- A function's place in a table. -/
theorem md_at {t : Tm} (hf : Fine g sz vs (parts t)) (hv : ¬ t.v > 0) : t.f.toNat < tb.length ∧ 0 ≤ t.f ∧ (∀ h : t.f.toNat < tb.length, ∃ h2 : (valL sz tb vs t.us 0).toNat < tb[t.f.toNat].length, valM sz tb vs t = (tb[t.f.toNat])[(valL sz tb vs t.us 0).toNat]) ∧ 0 ≤ valL sz tb vs t.us 0 ∧ t.us.length ≤ 3 := by
  have h0 := hf t (by rw [parts_eq]; simp)
  obtain ⟨h1, _⟩ := h0
  have hL := valL_ok hm t.us 0 0 (fun x hx => hf x (by rw [parts_eq]; exact List.mem_append_left _ hx)) (by omega) (by simp)
  have hv0 := formOne_v h1
  unfold formOne at h1
  rw [if_neg (by omega)] at h1
  split at h1
  · cases h1
  · split at h1
    · cases h1
    · rename_i h3 h4
      simp only [Nat.zero_add] at hL
      obtain ⟨h5, h6, h7⟩ := md_row hm (f := t.f) (by omega) (by omega)
      have h8 : (g.getD t.f.toNat 0).toNat = t.us.length := by have h4 := Decidable.not_not.1 h4; omega
      rw [h8] at h6
      have h9 : (valL sz tb vs t.us 0).toNat < tb[t.f.toNat].length := by omega
      refine ⟨h5, by omega, fun h => ⟨h9, ?_⟩, hL.1, ?_⟩
      · rw [valM_eq, if_neg hv, getD_at h5, getD_at h9]
      · have h10 := (mdOk_all hm).1
        have h11 : t.f.toNat < g.length := by omega
        have := sig_each h10 _ (List.getElem_mem h11)
        rw [getD_at h11] at h8
        omega
def ValSpec (g : List Int) (sz : Int) (tb : List (List Int)) (vs : Int → Int) (f : FuncId) (caps : List AV) (ro : List (Nm × Ob)) (t : Tm) : Prop :=
  Fine g sz vs (parts t) → (∀ x ∈ parts t, x.v > 0 → Tri Try.prog f ([iA x.v] ++ caps) (rdE ro (iA (vs x.v)))) → Tri Try.prog 73 [.d (mdDV sz tb), .d (tmDV t), .fn (.func f) [] caps] (rdE ro (iA (valM sz tb vs t)))
set_option maxRecDepth 20000 in
theorem value_step (f : FuncId) (hfe : enterOk Try.prog f) (caps : List AV) (ro : List (Nm × Ob)) (hrn : ro ≠ []) (t : Tm) (ih : ∀ u ∈ t.us, ValSpec g sz tb vs f caps ro u) : ValSpec g sz tb vs f caps ro t := by
  intro hf his
  have hsz := mdOk_all hm
  refine tri_enter_ro Try.func73 rfl Try.ntmps73 (by simp only [List.length_cons, List.length_nil]; omega) fun w0 h0 k hro => ?_
  cases hv : decide (t.v > 0) with
  | true =>
    have hv' : t.v > 0 := by simpa using hv
    have h1 := his t (by rw [parts_eq]; simp) hv'
    have e : valM sz tb vs t = vs t.v := by rw [valM_eq, if_pos hv']
    rw [e]
    repeat' (first
      | refine awp_seq_k fun K hK => ?_
      | ((first | refine awp_region_k (by kernel_rfl) fun R hR => ?_ | refine awp_draw mixed (by kernel_rfl) (by kernel_rfl) fun R hR => ?_); simp only [go_sem, hv])
      | ((first | (refine hR _ ?_; clear hR R) | refine awp_skip ?_ | refine awp_exit ?_ | refine awp_ret ?_); try simp only [thenA, inBlockA, reduceIte, reduceCtorEq, Nat.reduceEqDiff, if_false, if_true])
      | ((first | refine hK _ ?_ | (clear hK K; first | refine hK _ ?_ | (clear hK K; first | refine hK _ ?_ | (clear hK K; first | refine hK _ ?_ | (clear hK K; refine hK _ ?_))))); clear hK K)
      | refine awp_true rfl rfl ?_
      | refine awp_false rfl rfl ?_
      | refine awp_block ?_
      | ((first | refine CallK.vlook rfl (hfe) (h1) ?_ (by assumption) (by repeat (first | exact Fr.rfl' _ _ | assumption | refine Fr.updk ?_ (by omega) _)) ?_ | refine CallD.vlook rfl (hfe) (h1) ?_ (by assumption) (by repeat (first | exact Fr.rfl' _ _ | assumption | refine Fr.updk ?_ (by omega) _)) (by first | assumption | exact List.cons_ne_nil _ _) ?_); (focus first | ((repeat (first | exact trivial | refine ⟨(by first | exact Or.inl rfl | exact Or.inr rfl), ?_⟩)); done) | (simp only [coL, AV.dat, true_or, or_true, AV.d.injEq, go_sem]; done)); simp only [go_sem, hv])
      | refine And.intro (by first | omega | exact trivial | rfl | assumption | (apply map_sz; intro a; simp only [go_sem]; done) | ((and_intros <;> first | omega | exact trivial | rfl | assumption | (apply map_sz; intro a; simp only [go_sem]; done) | fail); done) | fail) ?_
      | fail)
    first | refine ret_pure (by simp only [Try.results73, resOkL, resOk, Try.ntmps73, List.toList_toArray]; first | decide | (simp only [go_sem]; done) | (simp only [go_sem]; and_intros <;> first | omega | rfl | decide)) ?_ (by repeat (first | exact Fr.rfl' _ _ | assumption | refine Fr.updk ?_ (by omega) _)) | refine ret_ro (by simp only [Try.results73, resOkL, resOk, Try.ntmps73, List.toList_toArray]; first | decide | (simp only [go_sem]; done) | (simp only [go_sem]; and_intros <;> first | omega | rfl | decide)) ?_ (by repeat (first | exact Fr.rfl' _ _ | assumption | refine Fr.updk ?_ (by omega) _))
    simp only [resA, resV, Try.results73, go_sem]
    all_goals try (first | exact Co.t2 (.dat rfl) (.dat rfl) | exact Co.t3 (.dat rfl) (.dat rfl) (.dat rfl))
    exact .dat rfl
  | false =>
    have hv' : ¬ t.v > 0 := by simpa using hv
    obtain ⟨a1, a2, a3, a4, a5⟩ := md_at hm hf hv'
    obtain ⟨a6, a7⟩ := a3 a1
    repeat' (first
      | refine awp_seq_k fun K hK => ?_
      | ((first | refine awp_region_k (by kernel_rfl) fun R hR => ?_ | refine awp_draw mixed (by kernel_rfl) (by kernel_rfl) fun R hR => ?_); simp only [go_sem, hv])
      | ((first | (refine hR _ ?_; clear hR R) | refine awp_skip ?_ | refine awp_exit ?_ | refine awp_ret ?_); try simp only [thenA, inBlockA, reduceIte, reduceCtorEq, Nat.reduceEqDiff, if_false, if_true])
      | ((first | refine hK _ ?_ | (clear hK K; first | refine hK _ ?_ | (clear hK K; first | refine hK _ ?_ | (clear hK K; first | refine hK _ ?_ | (clear hK K; refine hK _ ?_))))); clear hK K)
      | refine awp_true rfl rfl ?_
      | refine awp_false rfl rfl ?_
      | refine awp_block ?_
      | refine And.intro (by first | omega | exact trivial | rfl | assumption | (apply map_sz; intro a; simp only [go_sem]; done) | ((and_intros <;> first | omega | exact trivial | rfl | assumption | (apply map_sz; intro a; simp only [go_sem]; done) | fail); done) | fail) ?_
      | fail)
    refine awp_loop (fun σ => ∃ i : Nat, σ.t 2 = .fn (.func f) [] caps ∧ σ.t 3 = .ptr (k, 0) 0 ∧ σ.t 4 = .ptr (k, 1) 0 ∧ σ.t 7 = iA (valL sz tb vs (t.us.take i) 0) ∧ σ.t 18 = .d (.sl (t.us.map tmDV)) ∧ σ.t 19 = iA t.us.length ∧ σ.t 20 = iA i ∧ σ.h (k, 0) = some (.cells 39 [iA sz, .d (.sl (tb.map gI))]) ∧ σ.h (k, 1) = some (.cells 27 [iA t.v, iA t.f, .d (.sl (t.us.map tmDV))]) ∧ Fr k h0 σ.h ∧ k < σ.k ∧ i ≤ t.us.length) (fun σ => t.us.length - (intOf' (σ.t 20)).toNat) ?_ ?_
    · refine ⟨0, ?_⟩
      simp only [go_sem, List.take_zero]
      and_intros; all_goals try (first | rfl | omega | assumption | ((repeat (first | exact Fr.rfl' _ _ | assumption | refine Fr.updk ?_ (by omega) _)); done))
    · rintro σ ⟨i, s2, s3, s4, s7, s18, s19, s20, sh, sh', hF, hk, hi⟩
      have hne := ltne hk
      have hb := valL_ok hm (t.us.take i) 0 0 (hf.take i) (by omega) (by simp)
      simp only [Nat.zero_add, List.length_take] at hb
      have hp := pw_le hsz.2.1 hsz.2.2.1 (i := min i t.us.length) (by omega)
      rcases Nat.lt_or_ge i t.us.length with hlt | hge
      · have hz : (i : Int) < (t.us.length : Int) := by omega
        have e1 : (t.us.map tmDV).getD i default = tmDV t.us[i] := nth_map tmDV hlt _
        have hu := List.getElem_mem hlt
        have h1 := ih _ hu (fun x hx => hf x (parts_sub hu x hx)) (fun x hx => his x (parts_sub hu x hx))
        have hb' := valM_ok hm t.us[i] (fun x hx => hf x (parts_sub hu x hx))
        have e2 := valL_take (sz := sz) (tb := tb) (vs := vs) hlt 0
        generalize valL sz tb vs (t.us.take i) 0 = a at *
        have hbd : 0 ≤ a * sz ∧ a * sz ≤ 20000 := by
          have : sz = 1 ∨ sz = 2 ∨ sz = 3 := by omega
          rcases this with h | h | h <;> rw [h] at hb hp ⊢ <;> omega
        repeat' (first
          | refine awp_seq_k fun K hK => ?_
          | ((first | refine awp_region_k (by kernel_rfl) fun R hR => ?_ | refine awp_draw mixed (by kernel_rfl) (by kernel_rfl) fun R hR => ?_); simp only [go_sem, s2, s3, s4, s7, s18, s19, s20, sh, sh', hz, e1, hne, ← e2, Nat.reduceBEq, ite_self, implies_true, Int.toNat_natCast])
          | ((first | (refine hR _ ?_; clear hR R) | refine awp_skip ?_ | refine awp_exit ?_ | refine awp_ret ?_); try simp only [thenA, inBlockA, reduceIte, reduceCtorEq, Nat.reduceEqDiff, if_false, if_true])
          | ((first | refine hK _ ?_ | (clear hK K; first | refine hK _ ?_ | (clear hK K; first | refine hK _ ?_ | (clear hK K; first | refine hK _ ?_ | (clear hK K; refine hK _ ?_))))); clear hK K)
          | refine awp_true rfl rfl ?_
          | refine awp_false rfl rfl ?_
          | refine awp_block ?_
          | ((first | refine CallK.look (enter73) (h1) ?_ (by assumption) (by repeat (first | exact Fr.rfl' _ _ | assumption | refine Fr.updk ?_ (by omega) _)) ?_ | refine CallD.look (enter73) (h1) ?_ (by assumption) (by repeat (first | exact Fr.rfl' _ _ | assumption | refine Fr.updk ?_ (by omega) _)) (by first | assumption | exact List.cons_ne_nil _ _) ?_); (focus first | ((repeat (first | exact trivial | refine ⟨(by first | exact Or.inl rfl | exact Or.inr rfl), ?_⟩)); done) | (simp only [coL, AV.dat, true_or, or_true, AV.d.injEq, go_sem]; done)); simp only [go_sem, s2, s3, s4, s7, s18, s19, s20, sh, sh', hz, e1, hne, ← e2, Nat.reduceBEq, ite_self, implies_true, Int.toNat_natCast])
          | refine And.intro (by first | omega | exact trivial | rfl | assumption | (apply map_sz; intro a; simp only [go_sem]; done) | ((and_intros <;> first | omega | exact trivial | rfl | assumption | (apply map_sz; intro a; simp only [go_sem]; done) | fail); done) | fail) ?_
          | fail)
        refine ⟨⟨i + 1, ?_⟩, ?_⟩
        rotate_left
        · simp only [go_sem, s2, s3, s4, s7, s18, s19, s20, sh, sh', hne]; omega
        simp only [go_sem, s2, s3, s4, s7, s18, s19, s20, sh, sh', hne]
        and_intros; all_goals try (first | rfl | omega | assumption | ((repeat (first | exact Fr.rfl' _ _ | assumption | refine Fr.updk ?_ (by omega) _)); done))
      · have hz : ¬ ((i : Int) < (t.us.length : Int)) := by omega
        obtain rfl : i = t.us.length := by omega
        rw [List.take_length] at s7
        have e1 : (tb.map gI).getD t.f.toNat default = gI tb[t.f.toNat] := nth_map gI a1 _
        have e2 : (tb[t.f.toNat].map iD).getD (valL sz tb vs t.us 0).toNat default = iD tb[t.f.toNat][(valL sz tb vs t.us 0).toNat] := nth_map iD a6 _
        have hz1 : t.f < (tb.length : Int) := by omega
        have hz2 : valL sz tb vs t.us 0 < (tb[t.f.toNat].length : Int) := by omega
        repeat' (first
          | refine awp_seq_k fun K hK => ?_
          | ((first | refine awp_region_k (by kernel_rfl) fun R hR => ?_ | refine awp_draw mixed (by kernel_rfl) (by kernel_rfl) fun R hR => ?_); simp only [go_sem, s3, s4, s7, s19, s20, sh, sh', hz, hz1, hz2, e1, e2, hne])
          | ((first | (refine hR _ ?_; clear hR R) | refine awp_skip ?_ | refine awp_exit ?_ | refine awp_ret ?_); try simp only [thenA, inBlockA, reduceIte, reduceCtorEq, Nat.reduceEqDiff, if_false, if_true])
          | ((first | refine hK _ ?_ | (clear hK K; first | refine hK _ ?_ | (clear hK K; first | refine hK _ ?_ | (clear hK K; first | refine hK _ ?_ | (clear hK K; refine hK _ ?_))))); clear hK K)
          | refine awp_true rfl rfl ?_
          | refine awp_false rfl rfl ?_
          | refine awp_block ?_
          | refine And.intro (by first | omega | exact trivial | rfl | assumption | (apply map_sz; intro a; simp only [go_sem]; done) | ((and_intros <;> first | omega | exact trivial | rfl | assumption | (apply map_sz; intro a; simp only [go_sem]; done) | fail); done) | fail) ?_
          | fail)
        first | refine ret_pure (by simp only [Try.results73, resOkL, resOk, Try.ntmps73, List.toList_toArray]; first | decide | (simp only [go_sem]; done) | (simp only [go_sem]; and_intros <;> first | omega | rfl | decide)) ?_ (by repeat (first | exact Fr.rfl' _ _ | assumption | refine Fr.updk ?_ (by omega) _)) | refine ret_ro (by simp only [Try.results73, resOkL, resOk, Try.ntmps73, List.toList_toArray]; first | decide | (simp only [go_sem]; done) | (simp only [go_sem]; and_intros <;> first | omega | rfl | decide)) ?_ (by repeat (first | exact Fr.rfl' _ _ | assumption | refine Fr.updk ?_ (by omega) _))
        simp only [resA, resV, Try.results73, go_sem]
        all_goals try (first | exact Co.t2 (.dat rfl) (.dat rfl) | exact Co.t3 (.dat rfl) (.dat rfl) (.dat rfl))
        exact co_i a7.symm
theorem value_tri (f : FuncId) (hfe : enterOk Try.prog f) (caps : List AV) (ro : List (Nm × Ob)) (hrn : ro ≠ []) : ∀ t : Tm, ValSpec g sz tb vs f caps ro t := Tm.ind (value_step hm f hfe caps ro hrn)
end
end Go.Proofs.Ytmeekpinkfpnhaa

namespace Go.Proofs.Ytmeekpinkfpnhaa
open Go.RowKit
set_option linter.unusedSimpArgs false
set_option linter.unusedSectionVars false

/-- Variables by a list. -/
def byL (vars : List Int) (v : Int) : Int := vars.getD (v - 1).toNat 0
/-- What an array of numbers is. -/
abbrev arO (n : Nm) (vars : List Int) : List (Nm × Ob) := [(n, .cells 3 (vars.map iA))]
theorem nth_mapA {α : Type} (g : α → AV) {l : List α} {k : Nat} (hk : k < l.length) (d : AV) : (l.map g).getD k d = g l[k] := by
  rw [List.getD_eq_getElem?_getD, List.getElem?_map, List.getElem?_eq_getElem hk]; rfl
theorem arOk {k : Nat} {n : Nm} {vars : List Int} {h : Heap} (hr : RoOK k (arO n vars) h) : h n = some (.cells 3 (vars.map iA)) := (hr.get _ (List.mem_cons_self ..)).2
theorem arNe {k : Nat} {n : Nm} {vars : List Int} {h : Heap} (hr : RoOK k (arO n vars) h) : (∀ j, (n = (k, j)) = False) ∧ (∀ j, (n = (k + 1, j)) = False) ∧ (∀ j, (n = (k + 1 + 1, j)) = False) := by
  obtain ⟨h1, h2, h3, _⟩ := nmne (hr.get _ (List.mem_cons_self ..)).1
  exact ⟨h1, h2, h3⟩
section
variable {g : List Int} {sz : Int} {tb : List (List Int)} {vars : List Int} (hm : mdOk g sz tb = 0)
include hm
def ValOf_lists (n : Nm) (g : List Int) (sz : Int) (tb : List (List Int)) (vars : List Int) (t : Tm) : Prop :=
  Fine g sz (byL vars) (parts t) → (∀ x ∈ parts t, x.v > 0 → x.v ≤ vars.length) → Tri Try.prog 23 [.d (mdDV sz tb), .d (tmDV t), .d (.sl (vars.map iD))] (pure' (iA (valM sz tb (byL vars) t)))
set_option maxHeartbeats 1000000 in
set_option maxRecDepth 20000 in
theorem valueOf_lists_step (n : Nm) (hvl : vars.length ≤ 4000000) (t : Tm) (ih : ∀ u ∈ t.us, ValOf_lists n g sz tb vars u) : ValOf_lists n g sz tb vars t := by
  intro hf his
  have hsz := mdOk_all hm
  refine tri_enter Try.func23 rfl Try.ntmps23 (by simp only [List.length_cons, List.length_nil]; omega) fun w0 h0 k hrd hwr => ?_
  cases hv : decide (t.v > 0) with
  | true =>
    have hv' : t.v > 0 := by simpa using hv
    have h1 := his t (by rw [parts_eq]; simp) hv'
    have hx : (t.v - 1).toNat < vars.length := by omega
    have e : valM sz tb (byL vars) t = vars[(t.v - 1).toNat] := by rw [valM_eq, if_pos hv', byL, getD_at hx]
    have e1 : (vars.map iD).getD (t.v - 1).toNat default = iD vars[(t.v - 1).toNat] := nth_map iD hx _
    have e2 : (vars.map iA).getD (t.v - 1).toNat .junk = iA vars[(t.v - 1).toNat] := nth_mapA iA hx _
    have hz1 : t.v - 1 < (vars.length : Int) := by omega
    rw [e]
    repeat' (first
      | refine awp_seq_k fun K hK => ?_
      | ((first | refine awp_region_k (by kernel_rfl) fun R hR => ?_ | refine awp_draw mixed (by kernel_rfl) (by kernel_rfl) fun R hR => ?_); simp only [go_sem, hv, e1, e2, hz1, List.length_map, Nat.mul_one, List.length_map])
      | ((first | (refine hR _ ?_; clear hR R) | refine awp_skip ?_ | refine awp_exit ?_ | refine awp_ret ?_); try simp only [thenA, inBlockA, reduceIte, reduceCtorEq, Nat.reduceEqDiff, if_false, if_true])
      | ((first | refine hK _ ?_ | (clear hK K; first | refine hK _ ?_ | (clear hK K; first | refine hK _ ?_ | (clear hK K; first | refine hK _ ?_ | (clear hK K; refine hK _ ?_))))); clear hK K)
      | refine awp_true rfl rfl ?_
      | refine awp_false rfl rfl ?_
      | refine awp_block ?_
      | refine And.intro (by first | omega | exact trivial | rfl | assumption | (apply map_sz; intro a; simp only [go_sem]; done) | ((and_intros <;> first | omega | exact trivial | rfl | assumption | (apply map_sz; intro a; simp only [go_sem]; done) | fail); done) | fail) ?_
      | fail)
    first | refine ret_pure (by simp only [Try.results23, resOkL, resOk, Try.ntmps23, List.toList_toArray]; first | decide | (simp only [go_sem]; done) | (simp only [go_sem]; and_intros <;> first | omega | rfl | decide)) ?_ (by repeat (first | exact Fr.rfl' _ _ | assumption | refine Fr.updk ?_ (by omega) _)) | refine ret_ro (by simp only [Try.results23, resOkL, resOk, Try.ntmps23, List.toList_toArray]; first | decide | (simp only [go_sem]; done) | (simp only [go_sem]; and_intros <;> first | omega | rfl | decide)) ?_ (by repeat (first | exact Fr.rfl' _ _ | assumption | refine Fr.updk ?_ (by omega) _))
    simp only [resA, resV, Try.results23, go_sem]
    all_goals try (first | exact Co.t2 (.dat rfl) (.dat rfl) | exact Co.t3 (.dat rfl) (.dat rfl) (.dat rfl))
    exact .dat rfl
  | false =>
    have hv' : ¬ t.v > 0 := by simpa using hv
    obtain ⟨a1, a2, a3, a4, a5⟩ := md_at hm hf hv'
    obtain ⟨a6, a7⟩ := a3 a1
    repeat' (first
      | refine awp_seq_k fun K hK => ?_
      | ((first | refine awp_region_k (by kernel_rfl) fun R hR => ?_ | refine awp_draw mixed (by kernel_rfl) (by kernel_rfl) fun R hR => ?_); simp only [go_sem, hv])
      | ((first | (refine hR _ ?_; clear hR R) | refine awp_skip ?_ | refine awp_exit ?_ | refine awp_ret ?_); try simp only [thenA, inBlockA, reduceIte, reduceCtorEq, Nat.reduceEqDiff, if_false, if_true])
      | ((first | refine hK _ ?_ | (clear hK K; first | refine hK _ ?_ | (clear hK K; first | refine hK _ ?_ | (clear hK K; first | refine hK _ ?_ | (clear hK K; refine hK _ ?_))))); clear hK K)
      | refine awp_true rfl rfl ?_
      | refine awp_false rfl rfl ?_
      | refine awp_block ?_
      | refine And.intro (by first | omega | exact trivial | rfl | assumption | (apply map_sz; intro a; simp only [go_sem]; done) | ((and_intros <;> first | omega | exact trivial | rfl | assumption | (apply map_sz; intro a; simp only [go_sem]; done) | fail); done) | fail) ?_
      | fail)
    refine awp_loop (fun σ => ∃ i : Nat, σ.t 2 = .d (.sl (vars.map iD)) ∧ σ.t 3 = .ptr (k, 0) 0 ∧ σ.t 4 = .ptr (k, 1) 0 ∧ σ.t 7 = iA (valL sz tb (byL vars) (t.us.take i) 0) ∧ σ.t 8 = iA i ∧ σ.h (k, 0) = some (.cells 39 [iA sz, .d (.sl (tb.map gI))]) ∧ σ.h (k, 1) = some (.cells 27 [iA t.v, iA t.f, .d (.sl (t.us.map tmDV))]) ∧ Fr k h0 σ.h ∧ k < σ.k ∧ i ≤ t.us.length) (fun σ => t.us.length - (intOf' (σ.t 8)).toNat) ?_ ?_
    · refine ⟨0, ?_⟩
      simp only [go_sem, List.take_zero]
      and_intros; all_goals try (first | rfl | omega | assumption | ((repeat (first | exact Fr.rfl' _ _ | assumption | refine Fr.updk ?_ (by omega) _)); done))
    · rintro σ ⟨i, s2, s3, s4, s7, s8, sh, sh', hF, hk, hi⟩
      have hne := ltne hk
      have hb := valL_ok hm (t.us.take i) 0 0 (hf.take i) (by omega) (by simp)
      simp only [Nat.zero_add, List.length_take] at hb
      have hp := pw_le hsz.2.1 hsz.2.2.1 (i := min i t.us.length) (by omega)
      rcases Nat.lt_or_ge i t.us.length with hlt | hge
      · have hz : (i : Int) < (t.us.length : Int) := by omega
        have e1 : (t.us.map tmDV).getD i default = tmDV t.us[i] := nth_map tmDV hlt _
        have hu := List.getElem_mem hlt
        have h1 := ih _ hu (fun x hx => hf x (parts_sub hu x hx)) (fun x hx => his x (parts_sub hu x hx))
        have hb' := valM_ok hm t.us[i] (fun x hx => hf x (parts_sub hu x hx))
        have e2 : valL sz tb (byL vars) (t.us.take (i + 1)) 0 = sz * valL sz tb (byL vars) (t.us.take i) 0 + valM sz tb (byL vars) t.us[i] := by rw [valL_take hlt 0, Int.mul_comm]
        generalize valL sz tb (byL vars) (t.us.take i) 0 = a at *
        have hbd : 0 ≤ sz * a ∧ sz * a ≤ 20000 := by
          have : sz = 1 ∨ sz = 2 ∨ sz = 3 := by omega
          rcases this with h | h | h <;> rw [h] at hb hp ⊢ <;> omega
        repeat' (first
          | refine awp_seq_k fun K hK => ?_
          | ((first | refine awp_region_k (by kernel_rfl) fun R hR => ?_ | refine awp_draw mixed (by kernel_rfl) (by kernel_rfl) fun R hR => ?_); simp only [go_sem, s2, s3, s4, s7, s8, sh, sh', hz, e1, hne, ← e2, Nat.reduceBEq, ite_self, implies_true, Int.toNat_natCast])
          | ((first | (refine hR _ ?_; clear hR R) | refine awp_skip ?_ | refine awp_exit ?_ | refine awp_ret ?_); try simp only [thenA, inBlockA, reduceIte, reduceCtorEq, Nat.reduceEqDiff, if_false, if_true])
          | ((first | refine hK _ ?_ | (clear hK K; first | refine hK _ ?_ | (clear hK K; first | refine hK _ ?_ | (clear hK K; first | refine hK _ ?_ | (clear hK K; refine hK _ ?_))))); clear hK K)
          | refine awp_true rfl rfl ?_
          | refine awp_false rfl rfl ?_
          | refine awp_block ?_
          | ((first | refine CallK.pure (enter23) (h1) ?_ ?_ | refine CallD.pure (enter23) (h1) ?_ ?_); (focus first | ((repeat (first | exact trivial | refine ⟨(by first | exact Or.inl rfl | exact Or.inr rfl), ?_⟩)); done) | (simp only [coL, AV.dat, true_or, or_true, AV.d.injEq, go_sem]; done)); simp only [go_sem, s2, s3, s4, s7, s8, sh, sh', hz, e1, hne, ← e2, Nat.reduceBEq, ite_self, implies_true, Int.toNat_natCast])
          | refine And.intro (by first | omega | exact trivial | rfl | assumption | (apply map_sz; intro a; simp only [go_sem]; done) | ((and_intros <;> first | omega | exact trivial | rfl | assumption | (apply map_sz; intro a; simp only [go_sem]; done) | fail); done) | fail) ?_
          | fail)
        refine ⟨⟨i + 1, ?_⟩, ?_⟩
        rotate_left
        · simp only [go_sem, s2, s3, s4, s7, s8, sh, sh', hne]; omega
        simp only [go_sem, s2, s3, s4, s7, s8, sh, sh', hne]
        and_intros; all_goals try (first | rfl | omega | assumption | ((repeat (first | exact Fr.rfl' _ _ | assumption | refine Fr.updk ?_ (by omega) _)); done))
      · have hz : ¬ ((i : Int) < (t.us.length : Int)) := by omega
        obtain rfl : i = t.us.length := by omega
        rw [List.take_length] at s7
        have e1 : (tb.map gI).getD t.f.toNat default = gI tb[t.f.toNat] := nth_map gI a1 _
        have e2 : (tb[t.f.toNat].map iD).getD (valL sz tb (byL vars) t.us 0).toNat default = iD tb[t.f.toNat][(valL sz tb (byL vars) t.us 0).toNat] := nth_map iD a6 _
        have hz1 : t.f < (tb.length : Int) := by omega
        have hz2 : valL sz tb (byL vars) t.us 0 < (tb[t.f.toNat].length : Int) := by omega
        repeat' (first
          | refine awp_seq_k fun K hK => ?_
          | ((first | refine awp_region_k (by kernel_rfl) fun R hR => ?_ | refine awp_draw mixed (by kernel_rfl) (by kernel_rfl) fun R hR => ?_); simp only [go_sem, s3, s4, s7, s8, sh, sh', hz, hz1, hz2, e1, e2, hne])
          | ((first | (refine hR _ ?_; clear hR R) | refine awp_skip ?_ | refine awp_exit ?_ | refine awp_ret ?_); try simp only [thenA, inBlockA, reduceIte, reduceCtorEq, Nat.reduceEqDiff, if_false, if_true])
          | ((first | refine hK _ ?_ | (clear hK K; first | refine hK _ ?_ | (clear hK K; first | refine hK _ ?_ | (clear hK K; first | refine hK _ ?_ | (clear hK K; refine hK _ ?_))))); clear hK K)
          | refine awp_true rfl rfl ?_
          | refine awp_false rfl rfl ?_
          | refine awp_block ?_
          | refine And.intro (by first | omega | exact trivial | rfl | assumption | (apply map_sz; intro a; simp only [go_sem]; done) | ((and_intros <;> first | omega | exact trivial | rfl | assumption | (apply map_sz; intro a; simp only [go_sem]; done) | fail); done) | fail) ?_
          | fail)
        first | refine ret_pure (by simp only [Try.results23, resOkL, resOk, Try.ntmps23, List.toList_toArray]; first | decide | (simp only [go_sem]; done) | (simp only [go_sem]; and_intros <;> first | omega | rfl | decide)) ?_ (by repeat (first | exact Fr.rfl' _ _ | assumption | refine Fr.updk ?_ (by omega) _)) | refine ret_ro (by simp only [Try.results23, resOkL, resOk, Try.ntmps23, List.toList_toArray]; first | decide | (simp only [go_sem]; done) | (simp only [go_sem]; and_intros <;> first | omega | rfl | decide)) ?_ (by repeat (first | exact Fr.rfl' _ _ | assumption | refine Fr.updk ?_ (by omega) _))
        simp only [resA, resV, Try.results23, go_sem]
        all_goals try (first | exact Co.t2 (.dat rfl) (.dat rfl) | exact Co.t3 (.dat rfl) (.dat rfl) (.dat rfl))
        exact co_i a7.symm
theorem valueOf_lists (n : Nm) (hvl : vars.length ≤ 4000000) : ∀ t : Tm, ValOf_lists n g sz tb vars t := Tm.ind (valueOf_lists_step hm n hvl)
def ValOf_arrs (n : Nm) (g : List Int) (sz : Int) (tb : List (List Int)) (vars : List Int) (t : Tm) : Prop :=
  Fine g sz (byL vars) (parts t) → (∀ x ∈ parts t, x.v > 0 → x.v ≤ vars.length) → Tri Try.prog 23 [.d (mdDV sz tb), .d (tmDV t), .arr n 0 vars.length] (rdE (arO n vars) (iA (valM sz tb (byL vars) t)))
set_option maxHeartbeats 1000000 in
set_option maxRecDepth 20000 in
theorem valueOf_arrs_step (n : Nm) (hvl : vars.length ≤ 4000000) (t : Tm) (ih : ∀ u ∈ t.us, ValOf_arrs n g sz tb vars u) : ValOf_arrs n g sz tb vars t := by
  intro hf his
  have hsz := mdOk_all hm
  refine tri_enter_ro Try.func23 rfl Try.ntmps23 (by simp only [List.length_cons, List.length_nil]; omega) fun w0 h0 k hro => ?_
  cases hv : decide (t.v > 0) with
  | true =>
    have hv' : t.v > 0 := by simpa using hv
    have h1 := his t (by rw [parts_eq]; simp) hv'
    have hx : (t.v - 1).toNat < vars.length := by omega
    have e : valM sz tb (byL vars) t = vars[(t.v - 1).toNat] := by rw [valM_eq, if_pos hv', byL, getD_at hx]
    have e1 : (vars.map iD).getD (t.v - 1).toNat default = iD vars[(t.v - 1).toNat] := nth_map iD hx _
    have e2 : (vars.map iA).getD (t.v - 1).toNat .junk = iA vars[(t.v - 1).toNat] := nth_mapA iA hx _
    have hz1 : t.v - 1 < (vars.length : Int) := by omega
    rw [e]
    repeat' (first
      | refine awp_seq_k fun K hK => ?_
      | ((first | refine awp_region_k (by kernel_rfl) fun R hR => ?_ | refine awp_draw mixed (by kernel_rfl) (by kernel_rfl) fun R hR => ?_); simp only [go_sem, hv, e1, e2, hz1, arOk hro, arNe hro, Nat.mul_one, List.length_map])
      | ((first | (refine hR _ ?_; clear hR R) | refine awp_skip ?_ | refine awp_exit ?_ | refine awp_ret ?_); try simp only [thenA, inBlockA, reduceIte, reduceCtorEq, Nat.reduceEqDiff, if_false, if_true])
      | ((first | refine hK _ ?_ | (clear hK K; first | refine hK _ ?_ | (clear hK K; first | refine hK _ ?_ | (clear hK K; first | refine hK _ ?_ | (clear hK K; refine hK _ ?_))))); clear hK K)
      | refine awp_true rfl rfl ?_
      | refine awp_false rfl rfl ?_
      | refine awp_block ?_
      | refine And.intro (by first | omega | exact trivial | rfl | assumption | (apply map_sz; intro a; simp only [go_sem]; done) | ((and_intros <;> first | omega | exact trivial | rfl | assumption | (apply map_sz; intro a; simp only [go_sem]; done) | fail); done) | fail) ?_
      | fail)
    first | refine ret_pure (by simp only [Try.results23, resOkL, resOk, Try.ntmps23, List.toList_toArray]; first | decide | (simp only [go_sem]; done) | (simp only [go_sem]; and_intros <;> first | omega | rfl | decide)) ?_ (by repeat (first | exact Fr.rfl' _ _ | assumption | refine Fr.updk ?_ (by omega) _)) | refine ret_ro (by simp only [Try.results23, resOkL, resOk, Try.ntmps23, List.toList_toArray]; first | decide | (simp only [go_sem]; done) | (simp only [go_sem]; and_intros <;> first | omega | rfl | decide)) ?_ (by repeat (first | exact Fr.rfl' _ _ | assumption | refine Fr.updk ?_ (by omega) _))
    simp only [resA, resV, Try.results23, go_sem]
    all_goals try (first | exact Co.t2 (.dat rfl) (.dat rfl) | exact Co.t3 (.dat rfl) (.dat rfl) (.dat rfl))
    exact .dat rfl
  | false =>
    have hv' : ¬ t.v > 0 := by simpa using hv
    obtain ⟨a1, a2, a3, a4, a5⟩ := md_at hm hf hv'
    obtain ⟨a6, a7⟩ := a3 a1
    repeat' (first
      | refine awp_seq_k fun K hK => ?_
      | ((first | refine awp_region_k (by kernel_rfl) fun R hR => ?_ | refine awp_draw mixed (by kernel_rfl) (by kernel_rfl) fun R hR => ?_); simp only [go_sem, hv])
      | ((first | (refine hR _ ?_; clear hR R) | refine awp_skip ?_ | refine awp_exit ?_ | refine awp_ret ?_); try simp only [thenA, inBlockA, reduceIte, reduceCtorEq, Nat.reduceEqDiff, if_false, if_true])
      | ((first | refine hK _ ?_ | (clear hK K; first | refine hK _ ?_ | (clear hK K; first | refine hK _ ?_ | (clear hK K; first | refine hK _ ?_ | (clear hK K; refine hK _ ?_))))); clear hK K)
      | refine awp_true rfl rfl ?_
      | refine awp_false rfl rfl ?_
      | refine awp_block ?_
      | refine And.intro (by first | omega | exact trivial | rfl | assumption | (apply map_sz; intro a; simp only [go_sem]; done) | ((and_intros <;> first | omega | exact trivial | rfl | assumption | (apply map_sz; intro a; simp only [go_sem]; done) | fail); done) | fail) ?_
      | fail)
    refine awp_loop (fun σ => ∃ i : Nat, σ.t 2 = .arr n 0 vars.length ∧ σ.t 3 = .ptr (k, 0) 0 ∧ σ.t 4 = .ptr (k, 1) 0 ∧ σ.t 7 = iA (valL sz tb (byL vars) (t.us.take i) 0) ∧ σ.t 8 = iA i ∧ σ.h (k, 0) = some (.cells 39 [iA sz, .d (.sl (tb.map gI))]) ∧ σ.h (k, 1) = some (.cells 27 [iA t.v, iA t.f, .d (.sl (t.us.map tmDV))]) ∧ Fr k h0 σ.h ∧ k < σ.k ∧ i ≤ t.us.length) (fun σ => t.us.length - (intOf' (σ.t 8)).toNat) ?_ ?_
    · refine ⟨0, ?_⟩
      simp only [go_sem, List.take_zero]
      and_intros; all_goals try (first | rfl | omega | assumption | ((repeat (first | exact Fr.rfl' _ _ | assumption | refine Fr.updk ?_ (by omega) _)); done))
    · rintro σ ⟨i, s2, s3, s4, s7, s8, sh, sh', hF, hk, hi⟩
      have hne := ltne hk
      have hb := valL_ok hm (t.us.take i) 0 0 (hf.take i) (by omega) (by simp)
      simp only [Nat.zero_add, List.length_take] at hb
      have hp := pw_le hsz.2.1 hsz.2.2.1 (i := min i t.us.length) (by omega)
      rcases Nat.lt_or_ge i t.us.length with hlt | hge
      · have hz : (i : Int) < (t.us.length : Int) := by omega
        have e1 : (t.us.map tmDV).getD i default = tmDV t.us[i] := nth_map tmDV hlt _
        have hu := List.getElem_mem hlt
        have h1 := ih _ hu (fun x hx => hf x (parts_sub hu x hx)) (fun x hx => his x (parts_sub hu x hx))
        have hb' := valM_ok hm t.us[i] (fun x hx => hf x (parts_sub hu x hx))
        have e2 : valL sz tb (byL vars) (t.us.take (i + 1)) 0 = sz * valL sz tb (byL vars) (t.us.take i) 0 + valM sz tb (byL vars) t.us[i] := by rw [valL_take hlt 0, Int.mul_comm]
        generalize valL sz tb (byL vars) (t.us.take i) 0 = a at *
        have hbd : 0 ≤ sz * a ∧ sz * a ≤ 20000 := by
          have : sz = 1 ∨ sz = 2 ∨ sz = 3 := by omega
          rcases this with h | h | h <;> rw [h] at hb hp ⊢ <;> omega
        repeat' (first
          | refine awp_seq_k fun K hK => ?_
          | ((first | refine awp_region_k (by kernel_rfl) fun R hR => ?_ | refine awp_draw mixed (by kernel_rfl) (by kernel_rfl) fun R hR => ?_); simp only [go_sem, s2, s3, s4, s7, s8, sh, sh', hz, e1, hne, ← e2, Nat.reduceBEq, ite_self, implies_true, Int.toNat_natCast])
          | ((first | (refine hR _ ?_; clear hR R) | refine awp_skip ?_ | refine awp_exit ?_ | refine awp_ret ?_); try simp only [thenA, inBlockA, reduceIte, reduceCtorEq, Nat.reduceEqDiff, if_false, if_true])
          | ((first | refine hK _ ?_ | (clear hK K; first | refine hK _ ?_ | (clear hK K; first | refine hK _ ?_ | (clear hK K; first | refine hK _ ?_ | (clear hK K; refine hK _ ?_))))); clear hK K)
          | refine awp_true rfl rfl ?_
          | refine awp_false rfl rfl ?_
          | refine awp_block ?_
          | ((first | refine CallK.look (enter23) (h1) ?_ (by assumption) (by repeat (first | exact Fr.rfl' _ _ | assumption | refine Fr.updk ?_ (by omega) _)) ?_ | refine CallD.look (enter23) (h1) ?_ (by assumption) (by repeat (first | exact Fr.rfl' _ _ | assumption | refine Fr.updk ?_ (by omega) _)) (by first | assumption | exact List.cons_ne_nil _ _) ?_); (focus first | ((repeat (first | exact trivial | refine ⟨(by first | exact Or.inl rfl | exact Or.inr rfl), ?_⟩)); done) | (simp only [coL, AV.dat, true_or, or_true, AV.d.injEq, go_sem]; done)); simp only [go_sem, s2, s3, s4, s7, s8, sh, sh', hz, e1, hne, ← e2, Nat.reduceBEq, ite_self, implies_true, Int.toNat_natCast])
          | refine And.intro (by first | omega | exact trivial | rfl | assumption | (apply map_sz; intro a; simp only [go_sem]; done) | ((and_intros <;> first | omega | exact trivial | rfl | assumption | (apply map_sz; intro a; simp only [go_sem]; done) | fail); done) | fail) ?_
          | fail)
        refine ⟨⟨i + 1, ?_⟩, ?_⟩
        rotate_left
        · simp only [go_sem, s2, s3, s4, s7, s8, sh, sh', hne]; omega
        simp only [go_sem, s2, s3, s4, s7, s8, sh, sh', hne]
        and_intros; all_goals try (first | rfl | omega | assumption | ((repeat (first | exact Fr.rfl' _ _ | assumption | refine Fr.updk ?_ (by omega) _)); done))
      · have hz : ¬ ((i : Int) < (t.us.length : Int)) := by omega
        obtain rfl : i = t.us.length := by omega
        rw [List.take_length] at s7
        have e1 : (tb.map gI).getD t.f.toNat default = gI tb[t.f.toNat] := nth_map gI a1 _
        have e2 : (tb[t.f.toNat].map iD).getD (valL sz tb (byL vars) t.us 0).toNat default = iD tb[t.f.toNat][(valL sz tb (byL vars) t.us 0).toNat] := nth_map iD a6 _
        have hz1 : t.f < (tb.length : Int) := by omega
        have hz2 : valL sz tb (byL vars) t.us 0 < (tb[t.f.toNat].length : Int) := by omega
        repeat' (first
          | refine awp_seq_k fun K hK => ?_
          | ((first | refine awp_region_k (by kernel_rfl) fun R hR => ?_ | refine awp_draw mixed (by kernel_rfl) (by kernel_rfl) fun R hR => ?_); simp only [go_sem, s3, s4, s7, s8, sh, sh', hz, hz1, hz2, e1, e2, hne])
          | ((first | (refine hR _ ?_; clear hR R) | refine awp_skip ?_ | refine awp_exit ?_ | refine awp_ret ?_); try simp only [thenA, inBlockA, reduceIte, reduceCtorEq, Nat.reduceEqDiff, if_false, if_true])
          | ((first | refine hK _ ?_ | (clear hK K; first | refine hK _ ?_ | (clear hK K; first | refine hK _ ?_ | (clear hK K; first | refine hK _ ?_ | (clear hK K; refine hK _ ?_))))); clear hK K)
          | refine awp_true rfl rfl ?_
          | refine awp_false rfl rfl ?_
          | refine awp_block ?_
          | refine And.intro (by first | omega | exact trivial | rfl | assumption | (apply map_sz; intro a; simp only [go_sem]; done) | ((and_intros <;> first | omega | exact trivial | rfl | assumption | (apply map_sz; intro a; simp only [go_sem]; done) | fail); done) | fail) ?_
          | fail)
        first | refine ret_pure (by simp only [Try.results23, resOkL, resOk, Try.ntmps23, List.toList_toArray]; first | decide | (simp only [go_sem]; done) | (simp only [go_sem]; and_intros <;> first | omega | rfl | decide)) ?_ (by repeat (first | exact Fr.rfl' _ _ | assumption | refine Fr.updk ?_ (by omega) _)) | refine ret_ro (by simp only [Try.results23, resOkL, resOk, Try.ntmps23, List.toList_toArray]; first | decide | (simp only [go_sem]; done) | (simp only [go_sem]; and_intros <;> first | omega | rfl | decide)) ?_ (by repeat (first | exact Fr.rfl' _ _ | assumption | refine Fr.updk ?_ (by omega) _))
        simp only [resA, resV, Try.results23, go_sem]
        all_goals try (first | exact Co.t2 (.dat rfl) (.dat rfl) | exact Co.t3 (.dat rfl) (.dat rfl) (.dat rfl))
        exact co_i a7.symm
theorem valueOf_arrs (n : Nm) (hvl : vars.length ≤ 4000000) : ∀ t : Tm, ValOf_arrs n g sz tb vars t := Tm.ind (valueOf_arrs_step hm n hvl)
end
end Go.Proofs.Ytmeekpinkfpnhaa
