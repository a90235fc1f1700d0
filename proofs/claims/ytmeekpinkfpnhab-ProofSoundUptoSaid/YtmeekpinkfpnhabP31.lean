/- Package infer: falls. Package infer: pairs. Numbers that are not the same. No program in sight. -/
import Derived.Test.YtmeekpinkfpnhabP15
import Derived.Test.YtmeekpinkfpnhabP16
import Derived.Test.YtmeekpinkfpnhabP30
set_option linter.unusedSimpArgs false
set_option linter.unusedSectionVars false
set_option linter.unusedVariables false
set_option linter.unnecessarySimpa false
set_option linter.all false
namespace Go.Proofs.Ytmeekpinkfpnhab
open Go.RowKit
def fallsAns (bs : Bs) (x y : Tm) : Bool × Int :=
  if ((rawAns bs x).2 != 0) = true then (false, 2) else if ((rawAns bs y).2 != 0) = true then (false, 2) else (!gt (rawAns bs y).1 (rawAns bs x).1 && !same (rawAns bs x).1 (rawAns bs y).1, 0)
set_option maxHeartbeats 2000000 in
set_option maxRecDepth 20000 in
theorem falls_tri (mm : Nm) (bs : Bs) (hbs : ∀ p ∈ bs, p.2.size ≤ 4000000) (x y : Tm) (hx : x.size ≤ 4000000) (hy : y.size ≤ 4000000)
    (hab : (rawAns bs x).2 = 0 → (rawAns bs y).2 = 0 → Tri Try.prog 65 [.d (tmDV (rawAns bs y).1), .d (tmDV (rawAns bs x).1)] (pure' (bA (gt (rawAns bs y).1 (rawAns bs x).1)))) :
    Tri Try.prog 141 [.map mm, .d (tmDV x), .d (tmDV y)] (rdE [(mm, .map (bsE bs))] (.tup [bA (fallsAns bs x y).1, iA (fallsAns bs x y).2])) := by
  have h1 := raw_tri mm bs hbs x hx
  have h2 := raw_tri mm bs hbs y hy
  have h3 := same_tri (rawAns bs x).1 (rawAns bs y).1
  unfold fallsAns
  generalize rawAns bs x = A at *
  generalize rawAns bs y = B at *
  refine tri_enter_ro Try.func141 rfl Try.ntmps141 (by simp only [List.length_cons, List.length_nil]; omega) fun w0 h0 k hro => ?_
  obtain ⟨n2, em⟩ := hro.get _ (List.mem_cons_self ..)
  have q2 := nmne n2
  dsimp only at n2 em
  have hro' : ∀ (k' : Nat) (h : Heap), mm.1 < k' → h mm = some (.map (bsE bs)) → RoOK k' [(mm, .map (bsE bs))] h := fun k' h h1 e => ⟨fun x hx => by simp only [List.mem_cons, List.not_mem_nil, or_false] at hx; subst hx; exact ⟨h1, e⟩⟩
  cases a1 : (A.2 != 0) with
  | true =>
    rw [if_pos rfl]
    repeat' (first | refine awp_seq_k fun K hK => ?_ | ((first | refine aK fun R hR => ?_ | refine aD mixed fun R hR => ?_); simp only [go_sem, em, q2, a1]) | ((first | (refine hR _ ?_; clear hR R) | refine awp_skip ?_ | refine awp_exit ?_ | refine awp_ret ?_); try refine aP ?_) | ((repeat (fail_if_success refine hK _ ?_); clear hK K); refine hK _ ?_; clear hK K) | refine aT ?_ | refine aF ?_ | refine awp_block ?_ | ((first | refine CallK.look (enter33) (h1) ?_ (hro' (k + 1) _ (by omega) (by simp only [go_sem, em, q2])) (Fr.rfl' _ _) ?_ | refine CallD.look (enter33) (h1) ?_ (hro' (k + 1) _ (by omega) (by simp only [go_sem, em, q2])) (Fr.rfl' _ _) (by first | assumption | exact List.cons_ne_nil _ _) ?_); (focus exact aC); simp only [go_sem, em, q2, a1]) | ((first | refine CallK.look (enter33) (h2) ?_ (hro' (k + 1 + 1) _ (by omega) (by simp only [go_sem, em, q2])) (Fr.rfl' _ _) ?_ | refine CallD.look (enter33) (h2) ?_ (hro' (k + 1 + 1) _ (by omega) (by simp only [go_sem, em, q2])) (Fr.rfl' _ _) (by first | assumption | exact List.cons_ne_nil _ _) ?_); (focus exact aC); simp only [go_sem, em, q2, a1]) | refine aN ?_ | fail)
    (first | refine ret_pure ?_ ?_ ?_ | refine ret_ro ?_ ?_ ?_); focus exact (okA Try.ntmps141 Try.results141)
    rotate_left; focus exact frA
    simp only [resA, resV, Try.results141, go_sem]
    all_goals try exact coA
    all_goals exact .t2 (.dat rfl) (.dat rfl)
  | false =>
    rw [if_neg (by decide)]
    cases b1 : (B.2 != 0) with
    | true =>
      rw [if_pos rfl]
      repeat' (first | refine awp_seq_k fun K hK => ?_ | ((first | refine aK fun R hR => ?_ | refine aD mixed fun R hR => ?_); simp only [go_sem, em, q2, a1, b1]) | ((first | (refine hR _ ?_; clear hR R) | refine awp_skip ?_ | refine awp_exit ?_ | refine awp_ret ?_); try refine aP ?_) | ((repeat (fail_if_success refine hK _ ?_); clear hK K); refine hK _ ?_; clear hK K) | refine aT ?_ | refine aF ?_ | refine awp_block ?_ | ((first | refine CallK.look (enter33) (h1) ?_ (hro' (k + 1) _ (by omega) (by simp only [go_sem, em, q2])) (Fr.rfl' _ _) ?_ | refine CallD.look (enter33) (h1) ?_ (hro' (k + 1) _ (by omega) (by simp only [go_sem, em, q2])) (Fr.rfl' _ _) (by first | assumption | exact List.cons_ne_nil _ _) ?_); (focus exact aC); simp only [go_sem, em, q2, a1, b1]) | ((first | refine CallK.look (enter33) (h2) ?_ (hro' (k + 1 + 1) _ (by omega) (by simp only [go_sem, em, q2])) (Fr.rfl' _ _) ?_ | refine CallD.look (enter33) (h2) ?_ (hro' (k + 1 + 1) _ (by omega) (by simp only [go_sem, em, q2])) (Fr.rfl' _ _) (by first | assumption | exact List.cons_ne_nil _ _) ?_); (focus exact aC); simp only [go_sem, em, q2, a1, b1]) | refine aN ?_ | fail)
      (first | refine ret_pure ?_ ?_ ?_ | refine ret_ro ?_ ?_ ?_); focus exact (okA Try.ntmps141 Try.results141)
      rotate_left; focus exact frA
      simp only [resA, resV, Try.results141, go_sem]
      all_goals try exact coA
      all_goals exact .t2 (.dat rfl) (.dat rfl)
    | false =>
      rw [if_neg (by decide)]
      have hab := hab (by simpa using a1) (by simpa using b1)
      cases c1 : gt B.1 A.1 with
      | true =>
        rw [c1] at hab
        repeat' (first | refine awp_seq_k fun K hK => ?_ | ((first | refine aK fun R hR => ?_ | refine aD mixed fun R hR => ?_); simp only [go_sem, em, q2, a1, b1]) | ((first | (refine hR _ ?_; clear hR R) | refine awp_skip ?_ | refine awp_exit ?_ | refine awp_ret ?_); try refine aP ?_) | ((repeat (fail_if_success refine hK _ ?_); clear hK K); refine hK _ ?_; clear hK K) | refine aT ?_ | refine aF ?_ | refine awp_block ?_ | ((first | refine CallK.look (enter33) (h1) ?_ (hro' (k + 1) _ (by omega) (by simp only [go_sem, em, q2])) (Fr.rfl' _ _) ?_ | refine CallD.look (enter33) (h1) ?_ (hro' (k + 1) _ (by omega) (by simp only [go_sem, em, q2])) (Fr.rfl' _ _) (by first | assumption | exact List.cons_ne_nil _ _) ?_); (focus exact aC); simp only [go_sem, em, q2, a1, b1]) | ((first | refine CallK.look (enter33) (h2) ?_ (hro' (k + 1 + 1) _ (by omega) (by simp only [go_sem, em, q2])) (Fr.rfl' _ _) ?_ | refine CallD.look (enter33) (h2) ?_ (hro' (k + 1 + 1) _ (by omega) (by simp only [go_sem, em, q2])) (Fr.rfl' _ _) (by first | assumption | exact List.cons_ne_nil _ _) ?_); (focus exact aC); simp only [go_sem, em, q2, a1, b1]) | ((first | refine CallK.pure (enter65) (hab) ?_ ?_ | refine CallD.pure (enter65) (hab) ?_ ?_); (focus exact aC); simp only [go_sem, em, q2, a1, b1]) | refine aN ?_ | fail)
        (first | refine ret_pure ?_ ?_ ?_ | refine ret_ro ?_ ?_ ?_); focus exact (okA Try.ntmps141 Try.results141)
        rotate_left; focus exact frA
        simp only [resA, resV, Try.results141, go_sem]
        all_goals try exact coA
        all_goals exact .t2 (.dat rfl) (.dat rfl)
      | false =>
        rw [c1] at hab
        repeat' (first | refine awp_seq_k fun K hK => ?_ | ((first | refine aK fun R hR => ?_ | refine aD mixed fun R hR => ?_); simp only [go_sem, em, q2, a1, b1]) | ((first | (refine hR _ ?_; clear hR R) | refine awp_skip ?_ | refine awp_exit ?_ | refine awp_ret ?_); try refine aP ?_) | ((repeat (fail_if_success refine hK _ ?_); clear hK K); refine hK _ ?_; clear hK K) | refine aT ?_ | refine aF ?_ | refine awp_block ?_ | ((first | refine CallK.look (enter33) (h1) ?_ (hro' (k + 1) _ (by omega) (by simp only [go_sem, em, q2])) (Fr.rfl' _ _) ?_ | refine CallD.look (enter33) (h1) ?_ (hro' (k + 1) _ (by omega) (by simp only [go_sem, em, q2])) (Fr.rfl' _ _) (by first | assumption | exact List.cons_ne_nil _ _) ?_); (focus exact aC); simp only [go_sem, em, q2, a1, b1]) | ((first | refine CallK.look (enter33) (h2) ?_ (hro' (k + 1 + 1) _ (by omega) (by simp only [go_sem, em, q2])) (Fr.rfl' _ _) ?_ | refine CallD.look (enter33) (h2) ?_ (hro' (k + 1 + 1) _ (by omega) (by simp only [go_sem, em, q2])) (Fr.rfl' _ _) (by first | assumption | exact List.cons_ne_nil _ _) ?_); (focus exact aC); simp only [go_sem, em, q2, a1, b1]) | ((first | refine CallK.pure (enter65) (hab) ?_ ?_ | refine CallD.pure (enter65) (hab) ?_ ?_ | refine CallK.pure (enter73) (h3) ?_ ?_ | refine CallD.pure (enter73) (h3) ?_ ?_); (focus exact aC); simp only [go_sem, em, q2, a1, b1]) | refine aN ?_ | fail)
        (first | refine ret_pure ?_ ?_ ?_ | refine ret_ro ?_ ?_ ?_); focus exact (okA Try.ntmps141 Try.results141)
        rotate_left; focus exact frA
        simp only [resA, resV, Try.results141, go_sem]
        all_goals try exact coA
        all_goals exact .t2 (.dat rfl) (.dat rfl)
def pairsAns (fa : Tm → Tm → Bool × Int) : List (Tm × Tm) → Int
  | [] => 0
  | p :: ps => if ((fa p.1 p.2).2 != 0) = true then (fa p.1 p.2).2 else if (fa p.1 p.2).1 = true then pairsAns fa ps else 4
def flatPr (L : List (Tm × Tm)) : List Tm := L.flatMap fun p => [p.1, p.2]
theorem flatPr_len : ∀ L : List (Tm × Tm), (flatPr L).length = 2 * L.length
  | [] => rfl
  | p :: L => by
    have := flatPr_len L
    unfold flatPr at this ⊢
    rw [List.flatMap_cons, List.length_append, this, List.length_cons]; simp; omega
theorem flatPr_at : ∀ (L : List (Tm × Tm)) (i : Nat) (h : i < L.length), (flatPr L)[2 * i]? = some L[i].1 ∧ (flatPr L)[2 * i + 1]? = some L[i].2
  | p :: L, 0, _ => ⟨rfl, rfl⟩
  | p :: L, i + 1, h => flatPr_at L i (by simpa using h)
set_option maxHeartbeats 2000000 in
set_option maxRecDepth 20000 in
theorem pairs_tri (mm : Nm) (bs : Bs) (fa : Tm → Tm → Bool × Int) (L : List (Tm × Tm)) (hL : L.length ≤ 1000)
    (hf : ∀ p ∈ L, Tri Try.prog 141 [.map mm, .d (tmDV p.1), .d (tmDV p.2)] (rdE [(mm, .map (bsE bs))] (.tup [bA (fa p.1 p.2).1, iA (fa p.1 p.2).2]))) :
    Tri Try.prog 117 [.map mm, .d (.sl ((flatPr L).map tmDV))] (rdE [(mm, .map (bsE bs))] (iA (pairsAns fa L))) := by
  have hlen := flatPr_len L
  refine tri_enter_ro Try.func117 rfl Try.ntmps117 (by simp only [List.length_cons, List.length_nil]; omega) fun w0 h0 k hro => ?_
  obtain ⟨n2, em⟩ := hro.get _ (List.mem_cons_self ..)
  dsimp only at n2 em
  have hro' : ∀ (k' : Nat) (h : Heap), k ≤ k' → Fr k h0 h → RoOK k' [(mm, .map (bsE bs))] h := fun k' h h1 hF => ⟨fun x hx => by simp only [List.mem_cons, List.not_mem_nil, or_false] at hx; subst hx; exact ⟨Nat.lt_of_lt_of_le n2 h1, by rw [hF mm n2]; exact em⟩⟩
  repeat' (first | refine awp_seq_k fun K hK => ?_ | ((first | refine aK fun R hR => ?_ | refine aD mixed fun R hR => ?_); simp only [go_sem]) | ((first | (refine hR _ ?_; clear hR R) | refine awp_skip ?_ | refine awp_exit ?_ | refine awp_ret ?_); try refine aP ?_) | ((repeat (fail_if_success refine hK _ ?_); clear hK K); refine hK _ ?_; clear hK K) | refine aT ?_ | refine aF ?_ | refine awp_block ?_ | refine aN ?_ | fail)
  refine awp_loop (fun σ => ∃ i : Nat, σ.t 0 = .map mm ∧ σ.t 1 = .d (.sl ((flatPr L).map tmDV)) ∧ σ.t 5 = iA ((2 * i : Nat) : Int) ∧ Fr k h0 σ.h ∧ k ≤ σ.k ∧ i ≤ L.length ∧ pairsAns fa (L.drop i) = pairsAns fa L) (fun σ => (flatPr L).length - (intOf' (σ.t 5)).toNat) ?_ ?_
  · refine ⟨0, ?_⟩
    simp only [go_sem, List.drop_zero]
    and_intros; all_goals try (first | rfl | omega | assumption | exact anA)
  · rintro σ ⟨i, s0, s1, s5, hF, hk, hi, hv⟩
    rcases Nat.lt_or_ge i L.length with hlt | hge
    · have hz : (((2 * i : Nat) : Int)) < ((flatPr L).length : Int) := by omega
      obtain ⟨e1, e2⟩ := flatPr_at L i hlt
      have e1' : ((flatPr L).map tmDV).getD (2 * i) default = tmDV L[i].1 := by rw [List.getD_eq_getElem?_getD, List.getElem?_map, e1]; rfl
      have e2' : ((flatPr L).map tmDV).getD (2 * i + 1) default = tmDV L[i].2 := by rw [List.getD_eq_getElem?_getD, List.getElem?_map, e2]; rfl
      have et : (((2 * i : Nat) : Int) + 1).toNat = 2 * i + 1 := by omega
      have ei : ((2 * i : Nat) : Int) + 2 = ((2 * (i + 1) : Nat) : Int) := by omega
      have hz0 : (0 : Int) ≤ ((2 * i : Nat) : Int) := by omega
      have hz1 : (((2 * i : Nat) : Int) + 1) < ((flatPr L).length : Int) := by omega
      have hz2 : (0 : Int) ≤ ((2 * i : Nat) : Int) + 1 := by omega
      have hfi := hf L[i] (List.getElem_mem hlt)
      rw [List.drop_eq_getElem_cons hlt, pairsAns] at hv
      generalize fa L[i].1 L[i].2 = A at *
      cases a1 : (A.2 != 0) with
      | true =>
        rw [a1, if_pos rfl] at hv
        repeat' (first | refine awp_seq_k fun K hK => ?_ | ((first | refine aK fun R hR => ?_ | refine aD mixed fun R hR => ?_); simp only [go_sem, s0, s1, s5, hz, hz0, hz1, hz2, e1', e2', et, a1, Int.toNat_natCast, List.length_map]) | ((first | (refine hR _ ?_; clear hR R) | refine awp_skip ?_ | refine awp_exit ?_ | refine awp_ret ?_); try refine aP ?_) | ((repeat (fail_if_success refine hK _ ?_); clear hK K); refine hK _ ?_; clear hK K) | refine aT ?_ | refine aF ?_ | refine awp_block ?_ | ((first | refine CallK.look (enter141) (hfi) ?_ (hro' _ _ (by omega) hF) (Fr.rfl' _ _) ?_ | refine CallD.look (enter141) (hfi) ?_ (hro' _ _ (by omega) hF) (Fr.rfl' _ _) (by first | assumption | exact List.cons_ne_nil _ _) ?_); (focus exact aC); simp only [go_sem, s0, s1, s5, hz, hz0, hz1, hz2, e1', e2', et, a1, Int.toNat_natCast, List.length_map]) | refine aN ?_ | fail)
        rw [← hv]
        (first | refine ret_pure ?_ ?_ ?_ | refine ret_ro ?_ ?_ ?_); focus exact (okA Try.ntmps117 Try.results117)
        rotate_left; focus exact frA
        simp only [resA, resV, Try.results117, go_sem]
        all_goals try exact coA
        all_goals exact .dat rfl
      | false =>
        rw [a1, if_neg (by decide)] at hv
        cases b1 : A.1 with
        | true =>
          rw [b1, if_pos rfl] at hv
          repeat' (first | refine awp_seq_k fun K hK => ?_ | ((first | refine aK fun R hR => ?_ | refine aD mixed fun R hR => ?_); simp only [go_sem, s0, s1, s5, hz, hz0, hz1, hz2, e1', e2', et, a1, b1, Int.toNat_natCast, List.length_map]) | ((first | (refine hR _ ?_; clear hR R) | refine awp_skip ?_ | refine awp_exit ?_ | refine awp_ret ?_); try refine aP ?_) | ((repeat (fail_if_success refine hK _ ?_); clear hK K); refine hK _ ?_; clear hK K) | refine aT ?_ | refine aF ?_ | refine awp_block ?_ | ((first | refine CallK.look (enter141) (hfi) ?_ (hro' _ _ (by omega) hF) (Fr.rfl' _ _) ?_ | refine CallD.look (enter141) (hfi) ?_ (hro' _ _ (by omega) hF) (Fr.rfl' _ _) (by first | assumption | exact List.cons_ne_nil _ _) ?_); (focus exact aC); simp only [go_sem, s0, s1, s5, hz, hz0, hz1, hz2, e1', e2', et, a1, b1, Int.toNat_natCast, List.length_map]) | refine aN ?_ | fail)
          refine ⟨⟨i + 1, ?_⟩, ?_⟩
          rotate_left
          · simp only [go_sem, s0, s1, s5, ei]; omega
          simp only [go_sem, s0, s1, s5, ei]
          and_intros; all_goals try (first | rfl | omega | assumption | exact anA)
        | false =>
          rw [b1, if_neg (by decide)] at hv
          repeat' (first | refine awp_seq_k fun K hK => ?_ | ((first | refine aK fun R hR => ?_ | refine aD mixed fun R hR => ?_); simp only [go_sem, s0, s1, s5, hz, hz0, hz1, hz2, e1', e2', et, a1, b1, Int.toNat_natCast, List.length_map]) | ((first | (refine hR _ ?_; clear hR R) | refine awp_skip ?_ | refine awp_exit ?_ | refine awp_ret ?_); try refine aP ?_) | ((repeat (fail_if_success refine hK _ ?_); clear hK K); refine hK _ ?_; clear hK K) | refine aT ?_ | refine aF ?_ | refine awp_block ?_ | ((first | refine CallK.look (enter141) (hfi) ?_ (hro' _ _ (by omega) hF) (Fr.rfl' _ _) ?_ | refine CallD.look (enter141) (hfi) ?_ (hro' _ _ (by omega) hF) (Fr.rfl' _ _) (by first | assumption | exact List.cons_ne_nil _ _) ?_); (focus exact aC); simp only [go_sem, s0, s1, s5, hz, hz0, hz1, hz2, e1', e2', et, a1, b1, Int.toNat_natCast, List.length_map]) | refine aN ?_ | fail)
          rw [← hv]
          (first | refine ret_pure ?_ ?_ ?_ | refine ret_ro ?_ ?_ ?_); focus exact (okA Try.ntmps117 Try.results117)
          rotate_left; focus exact frA
          simp only [resA, resV, Try.results117, go_sem]
          all_goals try exact coA
          all_goals exact .dat rfl
    · have hz : ¬ ((((2 * i : Nat) : Int)) < ((flatPr L).length : Int)) := by omega
      rw [List.drop_eq_nil_of_le hge, pairsAns] at hv
      repeat' (first | refine awp_seq_k fun K hK => ?_ | ((first | refine aK fun R hR => ?_ | refine aD mixed fun R hR => ?_); simp only [go_sem, s0, s1, s5, hz, List.length_map]) | ((first | (refine hR _ ?_; clear hR R) | refine awp_skip ?_ | refine awp_exit ?_ | refine awp_ret ?_); try refine aP ?_) | ((repeat (fail_if_success refine hK _ ?_); clear hK K); refine hK _ ?_; clear hK K) | refine aT ?_ | refine aF ?_ | refine awp_block ?_ | refine aN ?_ | fail)
      rw [← hv]
      (first | refine ret_pure ?_ ?_ ?_ | refine ret_ro ?_ ?_ ?_); focus exact (okA Try.ntmps117 Try.results117)
      rotate_left; focus exact frA
      simp only [resA, resV, Try.results117, go_sem]
      all_goals try exact coA
      all_goals exact .dat rfl
end Go.Proofs.Ytmeekpinkfpnhab
namespace Go.Proofs.Ytmeekpinkfpnhab
theorem nat_ne8 (n : Nat) : ((n = n + 1 + 1 + 1 + 1 + 1 + 1 + 1 + 1) = False) ∧ ((n = n + 1 + 1 + 1 + 1 + 1 + 1 + 1 + 1 + 1) = False) ∧ ((n = n + 1 + 1 + 1 + 1 + 1 + 1 + 1 + 1 + 1 + 1) = False) ∧ ((n = n + 1 + 1 + 1 + 1 + 1 + 1 + 1 + 1 + 1 + 1 + 1) = False) ∧ ((n = n + 1 + 1 + 1 + 1 + 1 + 1 + 1 + 1 + 1 + 1 + 1 + 1) = False) ∧
    ((n + 1 + 1 + 1 + 1 + 1 + 1 + 1 + 1 = n) = False) ∧ ((n + 1 + 1 + 1 + 1 + 1 + 1 + 1 + 1 + 1 = n) = False) ∧ ((n + 1 + 1 + 1 + 1 + 1 + 1 + 1 + 1 + 1 + 1 = n) = False) ∧ ((n + 1 + 1 + 1 + 1 + 1 + 1 + 1 + 1 + 1 + 1 + 1 = n) = False) ∧ ((n + 1 + 1 + 1 + 1 + 1 + 1 + 1 + 1 + 1 + 1 + 1 + 1 = n) = False) := by
  and_intros <;> (apply eq_false; omega)
theorem nat_ne13 (n : Nat) : ((n = n + 1 + 1 + 1 + 1 + 1 + 1 + 1 + 1 + 1 + 1 + 1 + 1 + 1) = False) ∧ ((n = n + 1 + 1 + 1 + 1 + 1 + 1 + 1 + 1 + 1 + 1 + 1 + 1 + 1 + 1) = False) ∧ ((n = n + 1 + 1 + 1 + 1 + 1 + 1 + 1 + 1 + 1 + 1 + 1 + 1 + 1 + 1 + 1) = False) ∧ ((n = n + 1 + 1 + 1 + 1 + 1 + 1 + 1 + 1 + 1 + 1 + 1 + 1 + 1 + 1 + 1 + 1) = False) ∧ ((n = n + 1 + 1 + 1 + 1 + 1 + 1 + 1 + 1 + 1 + 1 + 1 + 1 + 1 + 1 + 1 + 1 + 1) = False) ∧ ((n = n + 1 + 1 + 1 + 1 + 1 + 1 + 1 + 1 + 1 + 1 + 1 + 1 + 1 + 1 + 1 + 1 + 1 + 1) = False) ∧ ((n = n + 1 + 1 + 1 + 1 + 1 + 1 + 1 + 1 + 1 + 1 + 1 + 1 + 1 + 1 + 1 + 1 + 1 + 1 + 1) = False) ∧
    ((n + 1 + 1 + 1 + 1 + 1 + 1 + 1 + 1 + 1 + 1 + 1 + 1 + 1 = n) = False) ∧ ((n + 1 + 1 + 1 + 1 + 1 + 1 + 1 + 1 + 1 + 1 + 1 + 1 + 1 + 1 = n) = False) ∧ ((n + 1 + 1 + 1 + 1 + 1 + 1 + 1 + 1 + 1 + 1 + 1 + 1 + 1 + 1 + 1 = n) = False) ∧ ((n + 1 + 1 + 1 + 1 + 1 + 1 + 1 + 1 + 1 + 1 + 1 + 1 + 1 + 1 + 1 + 1 = n) = False) ∧ ((n + 1 + 1 + 1 + 1 + 1 + 1 + 1 + 1 + 1 + 1 + 1 + 1 + 1 + 1 + 1 + 1 + 1 = n) = False) ∧ ((n + 1 + 1 + 1 + 1 + 1 + 1 + 1 + 1 + 1 + 1 + 1 + 1 + 1 + 1 + 1 + 1 + 1 + 1 = n) = False) ∧ ((n + 1 + 1 + 1 + 1 + 1 + 1 + 1 + 1 + 1 + 1 + 1 + 1 + 1 + 1 + 1 + 1 + 1 + 1 + 1 = n) = False) := by
  and_intros <;> (apply eq_false; omega)
end Go.Proofs.Ytmeekpinkfpnhab
