/- clause.sides, superposeref.SameSides, clause.IsAlways, clause.Always, superposeref.AlwaysOf. clause.Each. clause.Neat$1, Neat$2; superposeref.ApplyClause, SameClause; superposelaw.clauseIs. -/
import Derived.Test.YtmeekpinkfpnhabP10
import Derived.Test.YtmeekpinkfpnhabP12
import Derived.Test.YtmeekpinkfpnhabP14
import Derived.Test.YtmeekpinkfpnhabP24
set_option linter.unusedSimpArgs false
set_option linter.unusedSectionVars false
set_option linter.unusedVariables false
set_option linter.unnecessarySimpa false
set_option linter.all false
namespace Go.Proofs.Ytmeekpinkfpnhab
open Go.RowKit
set_option maxHeartbeats 2000000 in
set_option maxRecDepth 20000 in
theorem sides_tri (a b : Lt) : Tri Try.prog 155 [.d (ltDV a), .d (ltDV b)] (pure' (bA (sidesB a b))) := by
  refine tri_enter Try.func155 rfl Try.ntmps155 (by simp only [List.length_cons, List.length_nil]; omega) fun w0 h0 k hrd hwr => ?_
  unfold sidesB
  cases h1 : same a.a b.a with
  | true =>
    cases h2 : same a.b b.b with
    | true =>
      repeat' (first | refine awp_seq_k fun K hK => ?_ | ((first | refine aK fun R hR => ?_ | refine aD mixed fun R hR => ?_); simp only [go_sem, h1, h2]) | ((first | (refine hR _ ?_; clear hR R) | refine awp_skip ?_ | refine awp_exit ?_ | refine awp_ret ?_); try refine aP ?_) | ((repeat (fail_if_success refine hK _ ?_); clear hK K); refine hK _ ?_; clear hK K) | refine aT ?_ | refine aF ?_ | refine awp_block ?_ | ((first | refine CallK.pure (enter73) (same_tri a.a b.a) ?_ ?_ | refine CallD.pure (enter73) (same_tri a.a b.a) ?_ ?_); (focus exact aC); simp only [go_sem, h1, h2]) | ((first | refine CallK.pure (enter73) (same_tri a.b b.b) ?_ ?_ | refine CallD.pure (enter73) (same_tri a.b b.b) ?_ ?_); (focus exact aC); simp only [go_sem, h1, h2]) | refine aN ?_ | fail)
      (first | refine ret_pure ?_ ?_ ?_ | refine ret_ro ?_ ?_ ?_); focus exact (okA Try.ntmps155 Try.results155)
      rotate_left; focus exact frA
      simp only [resA, resV, Try.results155, go_sem]
      all_goals try exact coA
      exact .dat rfl
    | false =>
      cases h3 : same a.a b.b with
      | true =>
        repeat' (first | refine awp_seq_k fun K hK => ?_ | ((first | refine aK fun R hR => ?_ | refine aD mixed fun R hR => ?_); simp only [go_sem, h1, h2, h3]) | ((first | (refine hR _ ?_; clear hR R) | refine awp_skip ?_ | refine awp_exit ?_ | refine awp_ret ?_); try refine aP ?_) | ((repeat (fail_if_success refine hK _ ?_); clear hK K); refine hK _ ?_; clear hK K) | refine aT ?_ | refine aF ?_ | refine awp_block ?_ | ((first | refine CallK.pure (enter73) (same_tri a.a b.a) ?_ ?_ | refine CallD.pure (enter73) (same_tri a.a b.a) ?_ ?_); (focus exact aC); simp only [go_sem, h1, h2, h3]) | ((first | refine CallK.pure (enter73) (same_tri a.b b.b) ?_ ?_ | refine CallD.pure (enter73) (same_tri a.b b.b) ?_ ?_); (focus exact aC); simp only [go_sem, h1, h2, h3]) | ((first | refine CallK.pure (enter73) (same_tri a.a b.b) ?_ ?_ | refine CallD.pure (enter73) (same_tri a.a b.b) ?_ ?_); (focus exact aC); simp only [go_sem, h1, h2, h3]) | ((first | refine CallK.pure (enter73) (same_tri a.b b.a) ?_ ?_ | refine CallD.pure (enter73) (same_tri a.b b.a) ?_ ?_); (focus exact aC); simp only [go_sem, h1, h2, h3]) | refine aN ?_ | fail)
        (first | refine ret_pure ?_ ?_ ?_ | refine ret_ro ?_ ?_ ?_); focus exact (okA Try.ntmps155 Try.results155)
        rotate_left; focus exact frA
        simp only [resA, resV, Try.results155, go_sem]
        all_goals try exact coA
        exact .dat rfl
      | false =>
        repeat' (first | refine awp_seq_k fun K hK => ?_ | ((first | refine aK fun R hR => ?_ | refine aD mixed fun R hR => ?_); simp only [go_sem, h1, h2, h3]) | ((first | (refine hR _ ?_; clear hR R) | refine awp_skip ?_ | refine awp_exit ?_ | refine awp_ret ?_); try refine aP ?_) | ((repeat (fail_if_success refine hK _ ?_); clear hK K); refine hK _ ?_; clear hK K) | refine aT ?_ | refine aF ?_ | refine awp_block ?_ | ((first | refine CallK.pure (enter73) (same_tri a.a b.a) ?_ ?_ | refine CallD.pure (enter73) (same_tri a.a b.a) ?_ ?_); (focus exact aC); simp only [go_sem, h1, h2, h3]) | ((first | refine CallK.pure (enter73) (same_tri a.b b.b) ?_ ?_ | refine CallD.pure (enter73) (same_tri a.b b.b) ?_ ?_); (focus exact aC); simp only [go_sem, h1, h2, h3]) | ((first | refine CallK.pure (enter73) (same_tri a.a b.b) ?_ ?_ | refine CallD.pure (enter73) (same_tri a.a b.b) ?_ ?_); (focus exact aC); simp only [go_sem, h1, h2, h3]) | ((first | refine CallK.pure (enter73) (same_tri a.b b.a) ?_ ?_ | refine CallD.pure (enter73) (same_tri a.b b.a) ?_ ?_); (focus exact aC); simp only [go_sem, h1, h2, h3]) | refine aN ?_ | fail)
        (first | refine ret_pure ?_ ?_ ?_ | refine ret_ro ?_ ?_ ?_); focus exact (okA Try.ntmps155 Try.results155)
        rotate_left; focus exact frA
        simp only [resA, resV, Try.results155, go_sem]
        all_goals try exact coA
        exact .dat rfl
  | false =>
    cases h3 : same a.a b.b with
    | true =>
      repeat' (first | refine awp_seq_k fun K hK => ?_ | ((first | refine aK fun R hR => ?_ | refine aD mixed fun R hR => ?_); simp only [go_sem, h1, h3]) | ((first | (refine hR _ ?_; clear hR R) | refine awp_skip ?_ | refine awp_exit ?_ | refine awp_ret ?_); try refine aP ?_) | ((repeat (fail_if_success refine hK _ ?_); clear hK K); refine hK _ ?_; clear hK K) | refine aT ?_ | refine aF ?_ | refine awp_block ?_ | ((first | refine CallK.pure (enter73) (same_tri a.a b.a) ?_ ?_ | refine CallD.pure (enter73) (same_tri a.a b.a) ?_ ?_); (focus exact aC); simp only [go_sem, h1, h3]) | ((first | refine CallK.pure (enter73) (same_tri a.a b.b) ?_ ?_ | refine CallD.pure (enter73) (same_tri a.a b.b) ?_ ?_); (focus exact aC); simp only [go_sem, h1, h3]) | ((first | refine CallK.pure (enter73) (same_tri a.b b.a) ?_ ?_ | refine CallD.pure (enter73) (same_tri a.b b.a) ?_ ?_); (focus exact aC); simp only [go_sem, h1, h3]) | refine aN ?_ | fail)
      (first | refine ret_pure ?_ ?_ ?_ | refine ret_ro ?_ ?_ ?_); focus exact (okA Try.ntmps155 Try.results155)
      rotate_left; focus exact frA
      simp only [resA, resV, Try.results155, go_sem]
      all_goals try exact coA
      exact .dat rfl
    | false =>
      repeat' (first | refine awp_seq_k fun K hK => ?_ | ((first | refine aK fun R hR => ?_ | refine aD mixed fun R hR => ?_); simp only [go_sem, h1, h3]) | ((first | (refine hR _ ?_; clear hR R) | refine awp_skip ?_ | refine awp_exit ?_ | refine awp_ret ?_); try refine aP ?_) | ((repeat (fail_if_success refine hK _ ?_); clear hK K); refine hK _ ?_; clear hK K) | refine aT ?_ | refine aF ?_ | refine awp_block ?_ | ((first | refine CallK.pure (enter73) (same_tri a.a b.a) ?_ ?_ | refine CallD.pure (enter73) (same_tri a.a b.a) ?_ ?_); (focus exact aC); simp only [go_sem, h1, h3]) | ((first | refine CallK.pure (enter73) (same_tri a.a b.b) ?_ ?_ | refine CallD.pure (enter73) (same_tri a.a b.b) ?_ ?_); (focus exact aC); simp only [go_sem, h1, h3]) | ((first | refine CallK.pure (enter73) (same_tri a.b b.a) ?_ ?_ | refine CallD.pure (enter73) (same_tri a.b b.a) ?_ ?_); (focus exact aC); simp only [go_sem, h1, h3]) | refine aN ?_ | fail)
      (first | refine ret_pure ?_ ?_ ?_ | refine ret_ro ?_ ?_ ?_); focus exact (okA Try.ntmps155 Try.results155)
      rotate_left; focus exact frA
      simp only [resA, resV, Try.results155, go_sem]
      all_goals try exact coA
      exact .dat rfl
abbrev ltC (l : Lt) : List AV := [bA l.y, iA l.a.v, iA l.a.f, .d (.sl (l.a.us.map tmDV)), iA l.b.v, iA l.b.f, .d (.sl (l.b.us.map tmDV))]
abbrev ltO (b : Nm) (l : Lt) : List (Nm × Ob) := [(b, .cells 91 (ltC l))]
theorem roLt {b : Nm} {l : Lt} {k : Nat} {h : Heap} (h1 : b.1 < k) (e : h b = some (.cells 91 (ltC l))) : RoOK k (ltO b l) h := ⟨fun x hx => by
  simp only [ltO, List.mem_cons, List.not_mem_nil, or_false] at hx; subst hx; exact ⟨h1, e⟩⟩
theorem mapLt_take {f : Tm → Tm} {c : List Lt} {i : Nat} (hi : i < c.length) : (c.take (i + 1)).map (mapLt f) = (c.take i).map (mapLt f) ++ [mapLt f c[i]] := by
  rw [List.take_succ_eq_append_getElem hi, List.map_append]; rfl
@[go_sem] theorem mapLt_DV (f : Tm → Tm) (l : Lt) : DV.st [bD l.y, iD (f l.a).v, iD (f l.a).f, .sl ((f l.a).us.map tmDV), iD (f l.b).v, iD (f l.b).f, .sl ((f l.b).us.map tmDV)] = ltDV (mapLt f l) := (Eq.trans rfl (Eq.refl _))
section
variable (g : FuncId) (caps : List AV) (ro : List (Nm × Ob)) (f : Tm → Tm) (hg : enterOk Try.prog g)
include hg
set_option maxHeartbeats 1000000 in
set_option maxRecDepth 20000 in
theorem each_tri (hne : ro ≠ []) (c : List Lt) (hc : c.length ≤ 4000000) (hdo : ∀ l ∈ c, Tri Try.prog g ([.d (tmDV l.a)] ++ caps) (rdE ro (.d (tmDV (f l.a)))) ∧ Tri Try.prog g ([.d (tmDV l.b)] ++ caps) (rdE ro (.d (tmDV (f l.b))))) :
    Tri Try.prog 55 [.d (clDV c), .fn (.func g) [] caps] (rdE ro (.d (clDV (c.map (mapLt f))))) := by
  refine tri_enter_ro Try.func55 rfl Try.ntmps55 (by simp only [List.length_cons, List.length_nil]; omega) fun w0 h0 k hro => ?_
  repeat' (first | refine awp_ghost (ghost_nil (i := 5) (e := 91) rfl) ?_ | refine awp_seq_k fun K hK => ?_ | ((first | refine aK fun R hR => ?_ | refine aD mixed fun R hR => ?_); simp only [go_sem]) | ((first | (refine hR _ ?_; clear hR R) | refine awp_skip ?_ | refine awp_exit ?_ | refine awp_ret ?_); try refine aP ?_) | ((repeat (fail_if_success refine hK _ ?_); clear hK K); refine hK _ ?_; clear hK K) | refine aT ?_ | refine aF ?_ | refine awp_block ?_ | refine aN ?_ | fail)
  refine awp_loop (fun σ => ∃ i : Nat, σ.t 1 = .fn (.func g) [] caps ∧ σ.t 5 = .own (k + 1 + 1, 0) (((c.take i).map (mapLt f)).map ltDV) ∧ σ.t 8 = .d (clDV c) ∧ σ.t 9 = iA c.length ∧ σ.t 10 = iA i ∧
    σ.h (k + 1 + 1, 0) = some (.perm 91 ((c.take i).map (mapLt f)).length) ∧ Fr k h0 σ.h ∧ k + 1 + 1 < σ.k ∧ i ≤ c.length) (fun σ => c.length - (intOf' (σ.t 10)).toNat) ?_ ?_
  · refine ⟨0, ?_⟩
    simp only [go_sem, List.take_zero, List.map_nil]
    and_intros; all_goals try (first | rfl | omega | assumption | exact anA)
  · rintro σ ⟨i, s1, s5, s8, s9, s10, sh, hF, hk, hi⟩
    have hne2 := ltne hk
    have hml : ((c.take i).map (mapLt f)).length = i := by rw [List.length_map, List.length_take]; omega
    rcases Nat.lt_or_ge i c.length with hlt | hge
    · have hz : (i : Int) < (c.length : Int) := by omega
      have e1 : (c.map ltDV).getD i default = ltDV c[i] := nth_map ltDV hlt _
      obtain ⟨d1, d2⟩ := hdo _ (List.getElem_mem hlt)
      have etk : ((c.take i).map (mapLt f)).map ltDV ++ [ltDV (mapLt f c[i])] = ((c.take (i + 1)).map (mapLt f)).map ltDV := by rw [mapLt_take hlt]; simp
      repeat' (first | refine awp_seq_k fun K hK => ?_ | ((first | refine aK fun R hR => ?_ | refine aD mixed fun R hR => ?_); simp only [go_sem, s1, s5, s8, s9, s10, sh, hz, e1, hne2, hml, List.length_map, Int.toNat_natCast]) | ((first | (refine hR _ ?_; clear hR R) | refine awp_skip ?_ | refine awp_exit ?_ | refine awp_ret ?_); try refine aP ?_) | ((repeat (fail_if_success refine hK _ ?_); clear hK K); refine hK _ ?_; clear hK K) | refine aT ?_ | refine aF ?_ | refine awp_block ?_ | ((first | refine CallK.vlook rfl (hg) (d1) ?_ (by assumption) frA ?_ | refine CallD.vlook rfl (hg) (d1) ?_ (by assumption) frA (by first | assumption | exact List.cons_ne_nil _ _) ?_); (focus exact aC); simp only [go_sem, s1, s5, s8, s9, s10, sh, hz, e1, hne2, hml, List.length_map, Int.toNat_natCast]) | ((first | refine CallK.vlook rfl (hg) (d2) ?_ (by assumption) frA ?_ | refine CallD.vlook rfl (hg) (d2) ?_ (by assumption) frA (by first | assumption | exact List.cons_ne_nil _ _) ?_); (focus exact aC); simp only [go_sem, s1, s5, s8, s9, s10, sh, hz, e1, hne2, hml, List.length_map, Int.toNat_natCast]) | refine aN ?_ | fail)
      refine ⟨⟨i + 1, ?_⟩, ?_⟩
      rotate_left
      · simp only [go_sem, s1, s5, s8, s9, s10, sh, hne2, etk, hml, List.length_map]; omega
      simp only [go_sem, s1, s5, s8, s9, s10, sh, hne2, etk, hml, List.length_map]
      and_intros; all_goals try (first | rfl | omega | assumption | exact anA)
    · have hz : ¬ ((i : Int) < (c.length : Int)) := by omega
      obtain rfl : i = c.length := by omega
      rw [List.take_length] at s5 sh
      repeat' (first | refine awp_seq_k fun K hK => ?_ | ((first | refine aK fun R hR => ?_ | refine aD mixed fun R hR => ?_); simp only [go_sem, s5, s9, s10, sh, hz]) | ((first | (refine hR _ ?_; clear hR R) | refine awp_skip ?_ | refine awp_exit ?_ | refine awp_ret ?_); try refine aP ?_) | ((repeat (fail_if_success refine hK _ ?_); clear hK K); refine hK _ ?_; clear hK K) | refine aT ?_ | refine aF ?_ | refine awp_block ?_ | refine aN ?_ | fail)
      (first | refine ret_pure ?_ ?_ ?_ | refine ret_ro ?_ ?_ ?_); focus exact (by simp only [Try.results55, resOkL, resOk, Try.ntmps55, List.toList_toArray]; first | decide | (simp only [go_sem, s5]; done) | (simp only [go_sem, s5]; and_intros <;> first | omega | rfl | decide))
      rotate_left; focus exact frA
      simp only [resA, resV, Try.results55, go_sem, s5]
      all_goals try exact coA
      all_goals exact .dat rfl
end
set_option maxRecDepth 20000 in
theorem neat1_tri (b : Nm) (l x : Lt) : Tri Try.prog 154 [.d (ltDV x), .ptr b 0] (rdE (ltO b l) (bA (x.y == l.y && sidesB x l))) := by
  refine tri_enter_ro Try.func154 rfl Try.ntmps154 (by simp only [List.length_cons, List.length_nil]; omega) fun w0 h0 k hro => ?_
  obtain ⟨n1, eb⟩ := hro.get _ (List.mem_cons_self ..)
  have q1 := nmne n1
  cases hy : (x.y == l.y) with
  | false =>
    repeat' (first | refine awp_seq_k fun K hK => ?_ | ((first | refine aK fun R hR => ?_ | refine aD mixed fun R hR => ?_); simp only [go_sem, eb, q1, hy]) | ((first | (refine hR _ ?_; clear hR R) | refine awp_skip ?_ | refine awp_exit ?_ | refine awp_ret ?_); try refine aP ?_) | ((repeat (fail_if_success refine hK _ ?_); clear hK K); refine hK _ ?_; clear hK K) | refine aT ?_ | refine aF ?_ | refine awp_block ?_ | refine aN ?_ | fail)
    (first | refine ret_pure ?_ ?_ ?_ | refine ret_ro ?_ ?_ ?_); focus exact (okA Try.ntmps154 Try.results154)
    rotate_left; focus exact frA
    simp only [resA, resV, Try.results154, go_sem]
    all_goals try exact coA
    exact .dat rfl
  | true =>
    repeat' (first | refine awp_seq_k fun K hK => ?_ | ((first | refine aK fun R hR => ?_ | refine aD mixed fun R hR => ?_); simp only [go_sem, eb, q1, hy]) | ((first | (refine hR _ ?_; clear hR R) | refine awp_skip ?_ | refine awp_exit ?_ | refine awp_ret ?_); try refine aP ?_) | ((repeat (fail_if_success refine hK _ ?_); clear hK K); refine hK _ ?_; clear hK K) | refine aT ?_ | refine aF ?_ | refine awp_block ?_ | ((first | refine CallK.pure (enter155) (sides_tri x l) ?_ ?_ | refine CallD.pure (enter155) (sides_tri x l) ?_ ?_); (focus exact aC); simp only [go_sem, eb, q1, hy]) | refine aN ?_ | fail)
    (first | refine ret_pure ?_ ?_ ?_ | refine ret_ro ?_ ?_ ?_); focus exact (okA Try.ntmps154 Try.results154)
    rotate_left; focus exact frA
    simp only [resA, resV, Try.results154, go_sem]
    all_goals try exact coA
    exact .dat rfl
set_option maxRecDepth 20000 in
theorem neat2_tri (b mm : Nm) (bs : Bs) (hbs : ∀ p ∈ bs, p.2.size ≤ 4000000) (t : Tm) (ht : t.size ≤ 4000000) : Tri Try.prog 156 [.d (tmDV t), .ptr b 0] (rdE (bsO b mm bs) (.d (tmDV (mapM (madeS bs) t)))) := by
  refine tri_enter_ro Try.func156 rfl Try.ntmps156 (by simp only [List.length_cons, List.length_nil]; omega) fun w0 h0 k hro => ?_
  obtain ⟨n1, eb⟩ := hro.get _ (List.mem_cons_self ..)
  obtain ⟨n2, em⟩ := hro.get _ (List.mem_cons_of_mem _ (List.mem_cons_self ..))
  have q1 := nmne n1
  have q2 := nmne n2
  have h := made_tri mm bs hbs t ht
  repeat' (first | refine awp_seq_k fun K hK => ?_ | ((first | refine aK fun R hR => ?_ | refine aD mixed fun R hR => ?_); simp only [go_sem, eb, em, q1, q2]) | ((first | (refine hR _ ?_; clear hR R) | refine awp_skip ?_ | refine awp_exit ?_ | refine awp_ret ?_); try refine aP ?_) | ((repeat (fail_if_success refine hK _ ?_); clear hK K); refine hK _ ?_; clear hK K) | refine aT ?_ | refine aF ?_ | refine awp_block ?_ | ((first | refine CallK.look (enter72) (h) ?_ (⟨fun x hx => by simp only [List.mem_cons, List.not_mem_nil, or_false] at hx; subst hx; exact ⟨Nat.lt_succ_of_lt n2, by simp only [go_sem, em, q2]⟩⟩) (Fr.rfl' _ _) ?_ | refine CallD.look (enter72) (h) ?_ (⟨fun x hx => by simp only [List.mem_cons, List.not_mem_nil, or_false] at hx; subst hx; exact ⟨Nat.lt_succ_of_lt n2, by simp only [go_sem, em, q2]⟩⟩) (Fr.rfl' _ _) (by first | assumption | exact List.cons_ne_nil _ _) ?_); (focus exact aC); simp only [go_sem, eb, em, q1, q2]) | refine aN ?_ | fail)
  (first | refine ret_pure ?_ ?_ ?_ | refine ret_ro ?_ ?_ ?_); focus exact (okA Try.ntmps156 Try.results156)
  rotate_left; focus exact frA
  simp only [resA, resV, Try.results156, go_sem]
  all_goals try exact coA
  all_goals exact co_tm' rfl
end Go.Proofs.Ytmeekpinkfpnhab
