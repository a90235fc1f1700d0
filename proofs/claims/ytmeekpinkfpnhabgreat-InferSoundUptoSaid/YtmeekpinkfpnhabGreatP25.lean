/- Clauses checked: text. -/
import Derived.Test.YtmeekpinkfpnhabGreatP24
set_option linter.all false
namespace Go.Proofs.YtmeekpinkfpnhabGreat
open Go.RowKit
theorem litL_at {g : List Int} {c : List Lt} {i : Nat} (hi : i < c.length) : litL g (c.drop i) = if own g c[i].a ≠ 0 then own g c[i].a else if own g c[i].b ≠ 0 then own g c[i].b else litL g (c.drop (i + 1)) := by
 rw [List.drop_eq_getElem_cons hi, litL]
set_option maxRecDepth 20000 in
theorem right_tri (g : List Int) (c : List Lt) (hc : c.length ≤ 4000000) : Tri Tryz.prog 60 [.d (sgDV g), .d (clDV c)] (pure' (iA (clOk g c))) := by
 refine aE Tryz.func60 rfl Tryz.ntmps60 fun w0 h0 k hrd hwr => ?_
 unfold clOk
 cases h8 : decide ((c.length : Int) > 8) with
 | true =>
  have h8' : c.length > 8 := by simp at h8; omega
  rw [if_pos h8']
  repeat' (first | refine aQ fun K hK => ?_ | ((first | refine aK fun R hR => ?_ | refine aD mixed fun R hR => ?_); simp only [go_sem, h8]) | ((first | (refine hR _ ?_; clear hR R) | refine aZ rfl ?_); try refine aP ?_) | ((repeat (fail_if_success refine hK _ ?_); clear hK K); refine hK _ ?_; clear hK K) | refine aT ?_ | refine aF ?_ | refine aB ?_ | refine aN ?_ | fail)
  (first | refine ret_pure ?_ ?_ ?_ | refine ret_ro ?_ ?_ ?_); focus exact (okA Tryz.ntmps60 Tryz.results60)
  rotate_left; focus exact frA
  simp only [resA, resV, Tryz.results60, go_sem]
  all_goals try exact coA
  exact .dat rfl
 | false =>
  have h8' : ¬ c.length > 8 := by simp at h8; omega
  rw [if_neg h8']
  repeat' (first | refine aQ fun K hK => ?_ | ((first | refine aK fun R hR => ?_ | refine aD mixed fun R hR => ?_); simp only [go_sem, h8]) | ((first | (refine hR _ ?_; clear hR R) | refine aZ rfl ?_); try refine aP ?_) | ((repeat (fail_if_success refine hK _ ?_); clear hK K); refine hK _ ?_; clear hK K) | refine aT ?_ | refine aF ?_ | refine aB ?_ | refine aN ?_ | fail)
  refine awp_loop (fun σ => ∃ i : Nat, σ.t 2 = .ptr (k, 0) 0 ∧ σ.t 13 = .d (clDV c) ∧ σ.t 14 = iA c.length ∧ σ.t 15 = iA i ∧ σ.h (k, 0) = some (.cells 24 [.d (.sl (g.map iD))]) ∧ Fr k h0 σ.h ∧ k < σ.k ∧ i ≤ c.length ∧ litL g (c.drop i) = litL g c) (fun σ => c.length - (intOf' (σ.t 15)).toNat) ?_ ?_
  ·refine ⟨0, ?_⟩
   simp only [go_sem, List.drop_zero]
   and_intros; all_goals try (first | rfl | omega | assumption | exact anA)
  ·rintro σ ⟨i, s2, s13, s14, s15, sh, hF, hk, hi, hv⟩
   have hne := ltne hk
   rcases Nat.lt_or_ge i c.length with hlt | hge
   ·have hz : (i : Int) < (c.length : Int) := by omega
    have e1 : (c.map ltDV).getD i default = ltDV c[i] := nth_map ltDV hlt _
    rw [litL_at hlt] at hv
    repeat' (first | refine aQ fun K hK => ?_ | ((first | refine aK fun R hR => ?_ | refine aD mixed fun R hR => ?_); simp only [go_sem, s2, s13, s14, s15, sh, hz, e1, hne, Int.toNat_natCast]) | ((first | (refine hR _ ?_; clear hR R) | refine aZ rfl ?_); try refine aP ?_) | ((repeat (fail_if_success refine hK _ ?_); clear hK K); refine hK _ ?_; clear hK K) | refine aT ?_ | refine aF ?_ | refine aB ?_ | refine aN ?_ | fail)
    refine awp_loop (fun τ => ∃ j : Nat, τ.t 2 = .ptr (k, 0) 0 ∧ τ.t 13 = .d (clDV c) ∧ τ.t 14 = iA c.length ∧ τ.t 15 = iA i ∧ τ.t 23 = .own (σ.k + 1 + 1, 4) ([c[i].a, c[i].b].map tmDV) ∧ τ.t 24 = iA 2 ∧ τ.t 25 = iA j ∧ τ.h (k, 0) = some (.cells 24 [.d (.sl (g.map iD))]) ∧ Fr k h0 τ.h ∧ k < τ.k ∧ j ≤ 2 ∧ ownL g ([c[i].a, c[i].b].drop j) = ownL g [c[i].a, c[i].b]) (fun τ => 2 - (intOf' (τ.t 25)).toNat) ?_ ?_
    ·refine ⟨0, ?_⟩
     simp only [go_sem, List.drop_zero, s2, s13, s14, s15, sh, hne]
     and_intros; all_goals try (first | rfl | omega | assumption | exact anA)
    ·rintro τ ⟨j, u2, u13, u14, u15, u23, u24, u25, uh, uF, uk, uj, uv⟩
     have hne' := ltne uk
     rcases Nat.lt_or_ge j 2 with hlt' | hge'
     ·have hz' : (j : Int) < 2 := by omega
      have hj : j < [c[i].a, c[i].b].length := hlt'
      have e2 : ([c[i].a, c[i].b].map tmDV).getD j default = tmDV [c[i].a, c[i].b][j] := nth_map tmDV hj _
      have e3 : ([c[i].a, c[i].b].map tmDV).length = 2 := rfl
      rw [List.drop_eq_getElem_cons hj, ownL] at uv
      generalize hel : [c[i].a, c[i].b].map tmDV = el at *
      cases ha : own g [c[i].a, c[i].b][j] == 0 with
      | true =>
       have ha' : own g [c[i].a, c[i].b][j] = 0 := by simpa using ha
       rw [if_neg (by simp [ha'])] at uv
       repeat' (first | refine aQ fun K hK => ?_ | ((first | refine aK fun R hR => ?_ | refine aD mixed fun R hR => ?_); simp only [go_sem, u2, u23, u24, u25, uh, hz', e2, e3, hne', ha', bne_self_eq_false, Int.toNat_natCast]) | ((first | (refine hR _ ?_; clear hR R) | refine aZ rfl ?_); try refine aP ?_) | ((repeat (fail_if_success refine hK _ ?_); clear hK K); refine hK _ ?_; clear hK K) | refine aT ?_ | refine aF ?_ | refine aB ?_ | ((first | refine CallK.pure (enter81) (own_tri g [c[i].a, c[i].b][j]) ?_ ?_ | refine CallD.pure (enter81) (own_tri g [c[i].a, c[i].b][j]) ?_ ?_); (focus exact aC); simp only [go_sem, u2, u23, u24, u25, uh, hz', e2, e3, hne', ha', bne_self_eq_false, Int.toNat_natCast]) | refine aN ?_ | fail)
       refine ⟨⟨j + 1, ?_⟩, ?_⟩
       rotate_left
       ·simp only [go_sem, u2, u13, u14, u15, u23, u24, u25, uh, hne']; omega
       simp only [go_sem, u2, u13, u14, u15, u23, u24, u25, uh, hne']
       and_intros; all_goals try (first | rfl | omega | assumption | exact anA)
      | false =>
       have ha' : (own g [c[i].a, c[i].b][j] != 0) = true := by simpa using ha
       have ha2 : own g [c[i].a, c[i].b][j] ≠ 0 := by simpa using ha
       rw [if_pos ha2] at uv
       have hv' : own g [c[i].a, c[i].b][j] = litL g c := by
        rw [uv, ← hv, ownL, ownL, ownL]
        by_cases h1 : own g c[i].a = 0
        ·by_cases h2 : own g c[i].b = 0
         ·rw [ownL, ownL, ownL] at uv
          simp [h1, h2] at uv
          exact absurd uv ha2
         ·simp [h1, h2]
        ·simp [h1]
       repeat' (first | refine aQ fun K hK => ?_ | ((first | refine aK fun R hR => ?_ | refine aD mixed fun R hR => ?_); simp only [go_sem, u2, u23, u24, u25, uh, hz', e2, e3, hne', ha', Int.toNat_natCast]) | ((first | (refine hR _ ?_; clear hR R) | refine aZ rfl ?_); try refine aP ?_) | ((repeat (fail_if_success refine hK _ ?_); clear hK K); refine hK _ ?_; clear hK K) | refine aT ?_ | refine aF ?_ | refine aB ?_ | ((first | refine CallK.pure (enter81) (own_tri g [c[i].a, c[i].b][j]) ?_ ?_ | refine CallD.pure (enter81) (own_tri g [c[i].a, c[i].b][j]) ?_ ?_); (focus exact aC); simp only [go_sem, u2, u23, u24, u25, uh, hz', e2, e3, hne', ha', Int.toNat_natCast]) | refine aN ?_ | fail)
       (first | refine ret_pure ?_ ?_ ?_ | refine ret_ro ?_ ?_ ?_); focus exact (okA Tryz.ntmps60 Tryz.results60)
       rotate_left; focus exact frA
       simp only [resA, resV, Tryz.results60, go_sem]
       all_goals try exact coA
       exact co_i hv'
     ·have hz' : ¬ ((j : Int) < 2) := by omega
      obtain rfl : j = 2 := by omega
      have hv' : litL g (c.drop (i + 1)) = litL g c := by
       rw [← hv]
       simp only [ownL, List.drop] at uv
       by_cases h1 : own g c[i].a = 0
       ·by_cases h2 : own g c[i].b = 0
        ·simp [h1, h2]
        ·simp [h1, h2] at uv
         exact absurd uv.symm h2
       ·simp [h1] at uv
        exact absurd uv.symm h1
      repeat' (first | refine aQ fun K hK => ?_ | ((first | refine aK fun R hR => ?_ | refine aD mixed fun R hR => ?_); simp only [go_sem, u13, u14, u15, u24, u25, hz']) | ((first | (refine hR _ ?_; clear hR R) | refine aZ rfl ?_); try refine aP ?_) | ((repeat (fail_if_success refine hK _ ?_); clear hK K); refine hK _ ?_; clear hK K) | refine aT ?_ | refine aF ?_ | refine aB ?_ | refine aN ?_ | fail)
      refine ⟨⟨i + 1, ?_⟩, ?_⟩
      rotate_left
      ·simp only [go_sem, u2, u13, u14, u15, uh, s15]; omega
      simp only [go_sem, u2, u13, u14, u15, uh, s15]
      and_intros; all_goals try (first | rfl | omega | assumption | exact anA)
   ·have hz : ¬ ((i : Int) < (c.length : Int)) := by omega
    rw [List.drop_eq_nil_of_le hge, litL] at hv
    repeat' (first | refine aQ fun K hK => ?_ | ((first | refine aK fun R hR => ?_ | refine aD mixed fun R hR => ?_); simp only [go_sem, s13, s14, s15, hz]) | ((first | (refine hR _ ?_; clear hR R) | refine aZ rfl ?_); try refine aP ?_) | ((repeat (fail_if_success refine hK _ ?_); clear hK K); refine hK _ ?_; clear hK K) | refine aT ?_ | refine aF ?_ | refine aB ?_ | refine aN ?_ | fail)
    (first | refine ret_pure ?_ ?_ ?_ | refine ret_ro ?_ ?_ ?_); focus exact (okA Tryz.ntmps60 Tryz.results60)
    rotate_left; focus exact frA
    simp only [resA, resV, Tryz.results60, go_sem]
    all_goals try exact coA
    exact co_i hv
theorem clsL_at {g : List Int} {l : List (List Lt)} {i : Nat} (hi : i < l.length) : clsL g (l.drop i) = if clOk g l[i] ≠ 0 then clOk g l[i] else clsL g (l.drop (i + 1)) := by
 rw [List.drop_eq_getElem_cons hi, clsL]
set_option maxRecDepth 20000 in
theorem clCheck_tri (g : List Int) (l : List (List Lt)) (hl : l.length ≤ 4000000) (hc : ∀ c ∈ l, c.length ≤ 4000000) : Tri Tryz.prog 22 [.d (sgDV g), .d (.sl (l.map fun c => clDV c))] (pure' (iA (clsOk g l))) := by
 refine aE Tryz.func22 rfl Tryz.ntmps22 fun w0 h0 k hrd hwr => ?_
 unfold clsOk
 cases hs : sigOk g == 0 with
 | false =>
  have hs' : (sigOk g != 0) = true := by simpa using hs
  have hs2 : sigOk g ≠ 0 := by simpa using hs
  rw [if_pos hs2]
  repeat' (first | refine aQ fun K hK => ?_ | ((first | refine aK fun R hR => ?_ | refine aD mixed fun R hR => ?_); simp only [go_sem, hs']) | ((first | (refine hR _ ?_; clear hR R) | refine aZ rfl ?_); try refine aP ?_) | ((repeat (fail_if_success refine hK _ ?_); clear hK K); refine hK _ ?_; clear hK K) | refine aT ?_ | refine aF ?_ | refine aB ?_ | ((first | refine CallK.pure (enter59) (signature_tri g) ?_ ?_ | refine CallD.pure (enter59) (signature_tri g) ?_ ?_); (focus exact aC); simp only [go_sem, hs']) | refine aN ?_ | fail)
  (first | refine ret_pure ?_ ?_ ?_ | refine ret_ro ?_ ?_ ?_); focus exact (okA Tryz.ntmps22 Tryz.results22)
  rotate_left; focus exact frA
  simp only [resA, resV, Tryz.results22, go_sem]
  all_goals try exact coA
  exact .dat rfl
 | true =>
  have hs2 : sigOk g = 0 := by simpa using hs
  rw [if_neg (by simp [hs2])]
  cases h8 : decide ((l.length : Int) > 60) with
  | true =>
   have h8' : l.length > 60 := by simp at h8; omega
   rw [if_pos h8']
   repeat' (first | refine aQ fun K hK => ?_ | ((first | refine aK fun R hR => ?_ | refine aD mixed fun R hR => ?_); simp only [go_sem, hs2, h8, bne_self_eq_false]) | ((first | (refine hR _ ?_; clear hR R) | refine aZ rfl ?_); try refine aP ?_) | ((repeat (fail_if_success refine hK _ ?_); clear hK K); refine hK _ ?_; clear hK K) | refine aT ?_ | refine aF ?_ | refine aB ?_ | ((first | refine CallK.pure (enter59) (signature_tri g) ?_ ?_ | refine CallD.pure (enter59) (signature_tri g) ?_ ?_); (focus exact aC); simp only [go_sem, hs2, h8, bne_self_eq_false]) | refine aN ?_ | fail)
   (first | refine ret_pure ?_ ?_ ?_ | refine ret_ro ?_ ?_ ?_); focus exact (okA Tryz.ntmps22 Tryz.results22)
   rotate_left; focus exact frA
   simp only [resA, resV, Tryz.results22, go_sem]
   all_goals try exact coA
   exact .dat rfl
  | false =>
   have h8' : ¬ l.length > 60 := by simp at h8; omega
   rw [if_neg h8']
   repeat' (first | refine aQ fun K hK => ?_ | ((first | refine aK fun R hR => ?_ | refine aD mixed fun R hR => ?_); simp only [go_sem, hs2, h8, bne_self_eq_false]) | ((first | (refine hR _ ?_; clear hR R) | refine aZ rfl ?_); try refine aP ?_) | ((repeat (fail_if_success refine hK _ ?_); clear hK K); refine hK _ ?_; clear hK K) | refine aT ?_ | refine aF ?_ | refine aB ?_ | ((first | refine CallK.pure (enter59) (signature_tri g) ?_ ?_ | refine CallD.pure (enter59) (signature_tri g) ?_ ?_); (focus exact aC); simp only [go_sem, hs2, h8, bne_self_eq_false]) | refine aN ?_ | fail)
   refine awp_loop (fun σ => ∃ i : Nat, σ.t 2 = .ptr (k, 0) 0 ∧ σ.t 17 = .d (.sl (l.map fun c => clDV c)) ∧ σ.t 18 = iA l.length ∧ σ.t 19 = iA i ∧ σ.h (k, 0) = some (.cells 24 [.d (.sl (g.map iD))]) ∧ Fr k h0 σ.h ∧ k < σ.k ∧ i ≤ l.length ∧ clsL g (l.drop i) = clsL g l) (fun σ => l.length - (intOf' (σ.t 19)).toNat) ?_ ?_
   ·refine ⟨0, ?_⟩
    simp only [go_sem, List.drop_zero]
    and_intros; all_goals try (first | rfl | omega | assumption | exact anA)
   ·rintro σ ⟨i, s2, s17, s18, s19, sh, hF, hk, hi, hv⟩
    have hne := ltne hk
    rcases Nat.lt_or_ge i l.length with hlt | hge
    ·have hz : (i : Int) < (l.length : Int) := by omega
     have e1 : (l.map fun c => clDV c).getD i default = clDV l[i] := nth_map (fun c => clDV c) hlt _
     rw [clsL_at hlt] at hv
     cases ha : clOk g l[i] == 0 with
     | true =>
      have ha' : clOk g l[i] = 0 := by simpa using ha
      rw [if_neg (by simp [ha'])] at hv
      repeat' (first | refine aQ fun K hK => ?_ | ((first | refine aK fun R hR => ?_ | refine aD mixed fun R hR => ?_); simp only [go_sem, s2, s17, s18, s19, sh, hz, e1, hne, ha', bne_self_eq_false, Int.toNat_natCast]) | ((first | (refine hR _ ?_; clear hR R) | refine aZ rfl ?_); try refine aP ?_) | ((repeat (fail_if_success refine hK _ ?_); clear hK K); refine hK _ ?_; clear hK K) | refine aT ?_ | refine aF ?_ | refine aB ?_ | ((first | refine CallK.pure (enter60) (right_tri g l[i] (hc _ (List.getElem_mem hlt))) ?_ ?_ | refine CallD.pure (enter60) (right_tri g l[i] (hc _ (List.getElem_mem hlt))) ?_ ?_); (focus exact aC); simp only [go_sem, s2, s17, s18, s19, sh, hz, e1, hne, ha', bne_self_eq_false, Int.toNat_natCast]) | refine aN ?_ | fail)
      refine ⟨⟨i + 1, ?_⟩, ?_⟩
      rotate_left
      ·simp only [go_sem, s2, s17, s18, s19, sh]; omega
      simp only [go_sem, s2, s17, s18, s19, sh]
      and_intros; all_goals try (first | rfl | omega | assumption | exact anA)
     | false =>
      have ha' : (clOk g l[i] != 0) = true := by simpa using ha
      have ha2 : clOk g l[i] ≠ 0 := by simpa using ha
      rw [if_pos ha2] at hv
      repeat' (first | refine aQ fun K hK => ?_ | ((first | refine aK fun R hR => ?_ | refine aD mixed fun R hR => ?_); simp only [go_sem, s2, s17, s18, s19, sh, hz, e1, hne, ha', Int.toNat_natCast]) | ((first | (refine hR _ ?_; clear hR R) | refine aZ rfl ?_); try refine aP ?_) | ((repeat (fail_if_success refine hK _ ?_); clear hK K); refine hK _ ?_; clear hK K) | refine aT ?_ | refine aF ?_ | refine aB ?_ | ((first | refine CallK.pure (enter60) (right_tri g l[i] (hc _ (List.getElem_mem hlt))) ?_ ?_ | refine CallD.pure (enter60) (right_tri g l[i] (hc _ (List.getElem_mem hlt))) ?_ ?_); (focus exact aC); simp only [go_sem, s2, s17, s18, s19, sh, hz, e1, hne, ha', Int.toNat_natCast]) | refine aN ?_ | fail)
      (first | refine ret_pure ?_ ?_ ?_ | refine ret_ro ?_ ?_ ?_); focus exact (okA Tryz.ntmps22 Tryz.results22)
      rotate_left; focus exact frA
      simp only [resA, resV, Tryz.results22, go_sem]
      all_goals try exact coA
      exact co_i hv
    ·have hz : ¬ ((i : Int) < (l.length : Int)) := by omega
     rw [List.drop_eq_nil_of_le hge, clsL] at hv
     repeat' (first | refine aQ fun K hK => ?_ | ((first | refine aK fun R hR => ?_ | refine aD mixed fun R hR => ?_); simp only [go_sem, s17, s18, s19, hz]) | ((first | (refine hR _ ?_; clear hR R) | refine aZ rfl ?_); try refine aP ?_) | ((repeat (fail_if_success refine hK _ ?_); clear hK K); refine hK _ ?_; clear hK K) | refine aT ?_ | refine aF ?_ | refine aB ?_ | refine aN ?_ | fail)
     (first | refine ret_pure ?_ ?_ ?_ | refine ret_ro ?_ ?_ ?_); focus exact (okA Tryz.ntmps22 Tryz.results22)
     rotate_left; focus exact frA
     simp only [resA, resV, Tryz.results22, go_sem]
     all_goals try exact coA
     exact co_i hv
end Go.Proofs.YtmeekpinkfpnhabGreat
