/- Functions of Go's library: slices.Index, Contains, IndexFunc, ContainsFunc, Clone. -/
import Derived.Test.YtmeekpinkfpnhabP10
set_option linter.unusedSimpArgs false
set_option linter.unusedSectionVars false
set_option linter.unusedVariables false
set_option linter.unnecessarySimpa false
set_option linter.all false
namespace Go.Proofs.Ytmeekpinkfpnhab
open Go.RowKit
def idxI (v : Int) : List Int → Nat → Int
  | [], _ => -1
  | x :: l, i => if v == x then i else idxI v l (i + 1)
theorem idxI_go {v : Int} {l : List Int} {i : Nat} (hi : i < l.length) (h : (v == l[i]) = false) : idxI v (l.drop i) i = idxI v (l.drop (i + 1)) (i + 1) := by
  rw [List.drop_eq_getElem_cons hi, idxI, h]; rfl
theorem idxI_at {v : Int} {l : List Int} {i : Nat} (hi : i < l.length) (h : (v == l[i]) = true) : idxI v (l.drop i) i = i := by
  rw [List.drop_eq_getElem_cons hi, idxI, if_pos h]
theorem idxI_nn (v : Int) : ∀ (l : List Int) (i : Nat), decide (idxI v l i ≥ 0) = l.contains v
  | [], _ => rfl
  | x :: l, i => by
    rw [idxI, List.contains_cons]
    by_cases h : v == x
    · rw [if_pos h, h]; simp
    · rw [if_neg h, idxI_nn v l (i + 1)]; simp at h; simp [h]
set_option maxRecDepth 20000 in
theorem index_tri (l : List Int) (hl : l.length ≤ 16777216) (v : Int) : Tri Try.prog 123 [.d (.sl (l.map iD)), iA v] (pure' (iA (idxI v l 0))) := by
  refine tri_enter Try.func123 rfl Try.ntmps123 (by simp only [List.length_cons, List.length_nil]; omega) fun w0 h0 k hrd hwr => ?_
  repeat' (first | refine awp_seq_k fun K hK => ?_ | ((first | refine aK fun R hR => ?_ | refine aD mixed fun R hR => ?_); simp only [go_sem]) | ((first | (refine hR _ ?_; clear hR R) | refine awp_skip ?_ | refine awp_exit ?_ | refine awp_ret ?_); try refine aP ?_) | ((repeat (fail_if_success refine hK _ ?_); clear hK K); refine hK _ ?_; clear hK K) | refine aT ?_ | refine aF ?_ | refine awp_block ?_ | refine aN ?_ | fail)
  refine awp_loop (fun σ => ∃ i : Nat, σ.t 0 = .d (.sl (l.map iD)) ∧ σ.t 1 = iA v ∧ σ.t 7 = iA l.length ∧ σ.t 8 = iA i ∧ σ.h = h0 ∧ i ≤ l.length ∧ idxI v (l.drop i) i = idxI v l 0) (fun σ => l.length - (intOf' (σ.t 8)).toNat) ?_ ?_
  · refine ⟨0, ?_⟩
    simp only [go_sem]
    and_intros; all_goals try (first | rfl | omega | assumption | exact anA)
  · rintro σ ⟨i, s0, s1, s7, s8, sh, hi, hv⟩
    have hfr : Fr k h0 σ.h := by rw [sh]; exact Fr.rfl' _ _
    rcases Nat.lt_or_ge i l.length with hlt | hge
    · have hz : (i : Int) < (l.length : Int) := by omega
      have e1 : (l.map iD).getD i default = iD l[i] := nth_map iD hlt _
      cases hc : v == l[i] with
      | true =>
        rw [idxI_at hlt hc] at hv
        repeat' (first | refine awp_seq_k fun K hK => ?_ | ((first | refine aK fun R hR => ?_ | refine aD mixed fun R hR => ?_); simp only [go_sem, s0, s1, s7, s8, hz, e1, hc, Int.toNat_natCast]) | ((first | (refine hR _ ?_; clear hR R) | refine awp_skip ?_ | refine awp_exit ?_ | refine awp_ret ?_); try refine aP ?_) | ((repeat (fail_if_success refine hK _ ?_); clear hK K); refine hK _ ?_; clear hK K) | refine aT ?_ | refine aF ?_ | refine awp_block ?_ | refine aN ?_ | fail)
        (first | refine ret_pure ?_ ?_ ?_ | refine ret_ro ?_ ?_ ?_); focus exact (okA Try.ntmps123 Try.results123)
        rotate_left; focus exact frA
        simp only [resA, resV, Try.results123, go_sem]
        all_goals try exact coA
        exact co_i hv
      | false =>
        repeat' (first | refine awp_seq_k fun K hK => ?_ | ((first | refine aK fun R hR => ?_ | refine aD mixed fun R hR => ?_); simp only [go_sem, s0, s1, s7, s8, hz, e1, hc, Int.toNat_natCast]) | ((first | (refine hR _ ?_; clear hR R) | refine awp_skip ?_ | refine awp_exit ?_ | refine awp_ret ?_); try refine aP ?_) | ((repeat (fail_if_success refine hK _ ?_); clear hK K); refine hK _ ?_; clear hK K) | refine aT ?_ | refine aF ?_ | refine awp_block ?_ | refine aN ?_ | fail)
        refine ⟨⟨i + 1, ?_⟩, ?_⟩
        rotate_left
        · simp only [go_sem, s0, s1, s7, s8, sh]; omega
        simp only [go_sem, s0, s1, s7, s8, sh]
        and_intros; all_goals try (first | rfl | omega | assumption | exact anA)
        rw [← hv]; exact (idxI_go hlt hc).symm
    · have hz : ¬ ((i : Int) < (l.length : Int)) := by omega
      rw [List.drop_eq_nil_of_le hge, idxI] at hv
      repeat' (first | refine awp_seq_k fun K hK => ?_ | ((first | refine aK fun R hR => ?_ | refine aD mixed fun R hR => ?_); simp only [go_sem, s0, s1, s7, s8, hz]) | ((first | (refine hR _ ?_; clear hR R) | refine awp_skip ?_ | refine awp_exit ?_ | refine awp_ret ?_); try refine aP ?_) | ((repeat (fail_if_success refine hK _ ?_); clear hK K); refine hK _ ?_; clear hK K) | refine aT ?_ | refine aF ?_ | refine awp_block ?_ | refine aN ?_ | fail)
      (first | refine ret_pure ?_ ?_ ?_ | refine ret_ro ?_ ?_ ?_); focus exact (okA Try.ntmps123 Try.results123)
      rotate_left; focus exact frA
      simp only [resA, resV, Try.results123, go_sem]
      all_goals try exact coA
      exact co_i hv
set_option maxRecDepth 20000 in
theorem contains_tri (l : List Int) (hl : l.length ≤ 16777216) (v : Int) : Tri Try.prog 98 [.d (.sl (l.map iD)), iA v] (pure' (bA (l.contains v))) := by
  refine tri_enter Try.func98 rfl Try.ntmps98 (by simp only [List.length_cons, List.length_nil]; omega) fun w0 h0 k hrd hwr => ?_
  have e := idxI_nn v l 0
  repeat' (first | refine awp_seq_k fun K hK => ?_ | ((first | refine aK fun R hR => ?_ | refine aD mixed fun R hR => ?_); simp only [go_sem]) | ((first | (refine hR _ ?_; clear hR R) | refine awp_skip ?_ | refine awp_exit ?_ | refine awp_ret ?_); try refine aP ?_) | ((repeat (fail_if_success refine hK _ ?_); clear hK K); refine hK _ ?_; clear hK K) | refine aT ?_ | refine aF ?_ | refine awp_block ?_ | ((first | refine CallK.pure (enter123) (index_tri l hl v) ?_ ?_ | refine CallD.pure (enter123) (index_tri l hl v) ?_ ?_); (focus exact aC); simp only [go_sem]) | refine aN ?_ | fail)
  (first | refine ret_pure ?_ ?_ ?_ | refine ret_ro ?_ ?_ ?_); focus exact (okA Try.ntmps98 Try.results98)
  rotate_left; focus exact frA
  simp only [resA, resV, Try.results98, go_sem]
  all_goals try exact coA
  exact co_b e
def idxP {α : Type} (p : α → Bool) : List α → Nat → Int
  | [], _ => -1
  | x :: l, i => if p x = true then i else idxP p l (i + 1)
theorem idxP_go {α : Type} {p : α → Bool} {l : List α} {i : Nat} (hi : i < l.length) (h : p l[i] = false) : idxP p (l.drop i) i = idxP p (l.drop (i + 1)) (i + 1) := by
  rw [List.drop_eq_getElem_cons hi, idxP, h]; rfl
theorem idxP_at {α : Type} {p : α → Bool} {l : List α} {i : Nat} (hi : i < l.length) (h : p l[i] = true) : idxP p (l.drop i) i = i := by
  rw [List.drop_eq_getElem_cons hi, idxP, if_pos h]
theorem idxP_nn {α : Type} (p : α → Bool) : ∀ (l : List α) (i : Nat), decide (idxP p l i ≥ 0) = l.any p
  | [], _ => rfl
  | x :: l, i => by
    rw [idxP, List.any_cons]
    by_cases h : p x = true
    · rw [if_pos h, h]; simp
    · rw [if_neg h, idxP_nn p l (i + 1)]; simp at h; simp [h]
set_option maxRecDepth 20000 in
theorem indexF_ints (l : List (Int)) (hl : l.length ≤ 16777216) (g : FuncId) (hg : enterOk Try.prog g) (caps : List AV) (ro : List (Nm × Ob)) (p : Int → Bool) (hp : ∀ x ∈ l, Tri Try.prog g ([.d (iD x)] ++ caps) (rdE ro (bA (p x)))) :
    Tri Try.prog 102 [.d (.sl (l.map iD)), .fn (.func g) [] caps] (rdE ro (iA (idxP p l 0))) := by
  refine tri_enter_ro Try.func102 rfl Try.ntmps102 (by simp only [List.length_cons, List.length_nil]; omega) fun w0 h0 k hro => ?_
  repeat' (first | refine awp_seq_k fun K hK => ?_ | ((first | refine aK fun R hR => ?_ | refine aD mixed fun R hR => ?_); simp only [go_sem]) | ((first | (refine hR _ ?_; clear hR R) | refine awp_skip ?_ | refine awp_exit ?_ | refine awp_ret ?_); try refine aP ?_) | ((repeat (fail_if_success refine hK _ ?_); clear hK K); refine hK _ ?_; clear hK K) | refine aT ?_ | refine aF ?_ | refine awp_block ?_ | refine aN ?_ | fail)
  refine awp_loop (fun σ => ∃ i : Nat, σ.t 0 = .d (.sl (l.map iD)) ∧ σ.t 1 = .fn (.func g) [] caps ∧ σ.t 7 = iA l.length ∧ σ.t 8 = iA i ∧ σ.h = h0 ∧ i ≤ l.length ∧ idxP p (l.drop i) i = idxP p l 0) (fun σ => l.length - (intOf' (σ.t 8)).toNat) ?_ ?_
  · refine ⟨0, ?_⟩
    simp only [go_sem]
    and_intros; all_goals try (first | rfl | omega | assumption | exact anA)
  · rintro σ ⟨i, s0, s1, s7, s8, sh, hi, hv⟩
    have hfr : Fr k h0 σ.h := by rw [sh]; exact Fr.rfl' _ _
    rcases Nat.lt_or_ge i l.length with hlt | hge
    · have hz : (i : Int) < (l.length : Int) := by omega
      have e1 : (l.map iD).getD i default = iD l[i] := nth_map iD hlt _
      have hc1 := hp l[i] (List.getElem_mem hlt)
      cases hc : p l[i] with
      | true =>
        rw [idxP_at hlt hc] at hv
        rw [hc] at hc1
        repeat' (first | refine awp_seq_k fun K hK => ?_ | ((first | refine aK fun R hR => ?_ | refine aD mixed fun R hR => ?_); simp only [go_sem, s0, s1, s7, s8, hz, e1, hc, Int.toNat_natCast]) | ((first | (refine hR _ ?_; clear hR R) | refine awp_skip ?_ | refine awp_exit ?_ | refine awp_ret ?_); try refine aP ?_) | ((repeat (fail_if_success refine hK _ ?_); clear hK K); refine hK _ ?_; clear hK K) | refine aT ?_ | refine aF ?_ | refine awp_block ?_ | ((first | refine CallK.vlook rfl (hg) (hc1) ?_ (by assumption) frA ?_ | refine CallD.vlook rfl (hg) (hc1) ?_ (by assumption) frA (by first | assumption | exact List.cons_ne_nil _ _) ?_); (focus exact aC); simp only [go_sem, s0, s1, s7, s8, hz, e1, hc, Int.toNat_natCast]) | refine aN ?_ | fail)
        (first | refine ret_pure ?_ ?_ ?_ | refine ret_ro ?_ ?_ ?_); focus exact (okA Try.ntmps102 Try.results102)
        rotate_left; focus exact frA
        simp only [resA, resV, Try.results102, go_sem]
        all_goals try exact coA
        exact co_i hv
      | false =>
        rw [hc] at hc1
        repeat' (first | refine awp_seq_k fun K hK => ?_ | ((first | refine aK fun R hR => ?_ | refine aD mixed fun R hR => ?_); simp only [go_sem, s0, s1, s7, s8, hz, e1, hc, Int.toNat_natCast]) | ((first | (refine hR _ ?_; clear hR R) | refine awp_skip ?_ | refine awp_exit ?_ | refine awp_ret ?_); try refine aP ?_) | ((repeat (fail_if_success refine hK _ ?_); clear hK K); refine hK _ ?_; clear hK K) | refine aT ?_ | refine aF ?_ | refine awp_block ?_ | ((first | refine CallK.vlook rfl (hg) (hc1) ?_ (by assumption) frA ?_ | refine CallD.vlook rfl (hg) (hc1) ?_ (by assumption) frA (by first | assumption | exact List.cons_ne_nil _ _) ?_); (focus exact aC); simp only [go_sem, s0, s1, s7, s8, hz, e1, hc, Int.toNat_natCast]) | refine aN ?_ | fail)
        refine ⟨⟨i + 1, ?_⟩, ?_⟩
        rotate_left
        · simp only [go_sem, s0, s1, s7, s8, sh]; omega
        simp only [go_sem, s0, s1, s7, s8, sh]
        and_intros; all_goals try (first | rfl | omega | assumption | exact anA)
        rw [← hv]; exact (idxP_go hlt hc).symm
    · have hz : ¬ ((i : Int) < (l.length : Int)) := by omega
      rw [List.drop_eq_nil_of_le hge, idxP] at hv
      repeat' (first | refine awp_seq_k fun K hK => ?_ | ((first | refine aK fun R hR => ?_ | refine aD mixed fun R hR => ?_); simp only [go_sem, s0, s1, s7, s8, hz]) | ((first | (refine hR _ ?_; clear hR R) | refine awp_skip ?_ | refine awp_exit ?_ | refine awp_ret ?_); try refine aP ?_) | ((repeat (fail_if_success refine hK _ ?_); clear hK K); refine hK _ ?_; clear hK K) | refine aT ?_ | refine aF ?_ | refine awp_block ?_ | refine aN ?_ | fail)
      (first | refine ret_pure ?_ ?_ ?_ | refine ret_ro ?_ ?_ ?_); focus exact (okA Try.ntmps102 Try.results102)
      rotate_left; focus exact frA
      simp only [resA, resV, Try.results102, go_sem]
      all_goals try exact coA
      exact co_i hv
set_option maxRecDepth 20000 in
theorem containsF_ints (l : List (Int)) (hl : l.length ≤ 16777216) (g : FuncId) (hg : enterOk Try.prog g) (caps : List AV) (ro : List (Nm × Ob)) (p : Int → Bool) (hp : ∀ x ∈ l, Tri Try.prog g ([.d (iD x)] ++ caps) (rdE ro (bA (p x)))) :
    Tri Try.prog 67 [.d (.sl (l.map iD)), .fn (.func g) [] caps] (rdE ro (bA (l.any p))) := by
  refine tri_enter_ro Try.func67 rfl Try.ntmps67 (by simp only [List.length_cons, List.length_nil]; omega) fun w0 h0 k hro => ?_
  have e := idxP_nn p l 0
  repeat' (first | refine awp_seq_k fun K hK => ?_ | ((first | refine aK fun R hR => ?_ | refine aD mixed fun R hR => ?_); simp only [go_sem]) | ((first | (refine hR _ ?_; clear hR R) | refine awp_skip ?_ | refine awp_exit ?_ | refine awp_ret ?_); try refine aP ?_) | ((repeat (fail_if_success refine hK _ ?_); clear hK K); refine hK _ ?_; clear hK K) | refine aT ?_ | refine aF ?_ | refine awp_block ?_ | ((first | refine CallK.look (enter102) (indexF_ints l hl g hg caps ro p hp) ?_ (by assumption) frA ?_ | refine CallD.look (enter102) (indexF_ints l hl g hg caps ro p hp) ?_ (by assumption) frA (by first | assumption | exact List.cons_ne_nil _ _) ?_); (focus exact aC); simp only [go_sem]) | refine aN ?_ | fail)
  (first | refine ret_pure ?_ ?_ ?_ | refine ret_ro ?_ ?_ ?_); focus exact (okA Try.ntmps67 Try.results67)
  rotate_left; focus exact frA
  simp only [resA, resV, Try.results67, go_sem]
  all_goals try exact coA
  exact co_b e
set_option maxRecDepth 20000 in
theorem indexF_lits (l : List (Lt)) (hl : l.length ≤ 16777216) (g : FuncId) (hg : enterOk Try.prog g) (caps : List AV) (ro : List (Nm × Ob)) (p : Lt → Bool) (hp : ∀ x ∈ l, Tri Try.prog g ([.d (ltDV x)] ++ caps) (rdE ro (bA (p x)))) :
    Tri Try.prog 99 [.d (.sl (l.map ltDV)), .fn (.func g) [] caps] (rdE ro (iA (idxP p l 0))) := by
  refine tri_enter_ro Try.func99 rfl Try.ntmps99 (by simp only [List.length_cons, List.length_nil]; omega) fun w0 h0 k hro => ?_
  repeat' (first | refine awp_seq_k fun K hK => ?_ | ((first | refine aK fun R hR => ?_ | refine aD mixed fun R hR => ?_); simp only [go_sem]) | ((first | (refine hR _ ?_; clear hR R) | refine awp_skip ?_ | refine awp_exit ?_ | refine awp_ret ?_); try refine aP ?_) | ((repeat (fail_if_success refine hK _ ?_); clear hK K); refine hK _ ?_; clear hK K) | refine aT ?_ | refine aF ?_ | refine awp_block ?_ | refine aN ?_ | fail)
  refine awp_loop (fun σ => ∃ i : Nat, σ.t 0 = .d (.sl (l.map ltDV)) ∧ σ.t 1 = .fn (.func g) [] caps ∧ σ.t 7 = iA l.length ∧ σ.t 8 = iA i ∧ σ.h = h0 ∧ i ≤ l.length ∧ idxP p (l.drop i) i = idxP p l 0) (fun σ => l.length - (intOf' (σ.t 8)).toNat) ?_ ?_
  · refine ⟨0, ?_⟩
    simp only [go_sem]
    and_intros; all_goals try (first | rfl | omega | assumption | exact anA)
  · rintro σ ⟨i, s0, s1, s7, s8, sh, hi, hv⟩
    have hfr : Fr k h0 σ.h := by rw [sh]; exact Fr.rfl' _ _
    rcases Nat.lt_or_ge i l.length with hlt | hge
    · have hz : (i : Int) < (l.length : Int) := by omega
      have e1 : (l.map ltDV).getD i default = ltDV l[i] := nth_map ltDV hlt _
      have hc1 := hp l[i] (List.getElem_mem hlt)
      cases hc : p l[i] with
      | true =>
        rw [idxP_at hlt hc] at hv
        rw [hc] at hc1
        repeat' (first | refine awp_seq_k fun K hK => ?_ | ((first | refine aK fun R hR => ?_ | refine aD mixed fun R hR => ?_); simp only [go_sem, s0, s1, s7, s8, hz, e1, hc, Int.toNat_natCast]) | ((first | (refine hR _ ?_; clear hR R) | refine awp_skip ?_ | refine awp_exit ?_ | refine awp_ret ?_); try refine aP ?_) | ((repeat (fail_if_success refine hK _ ?_); clear hK K); refine hK _ ?_; clear hK K) | refine aT ?_ | refine aF ?_ | refine awp_block ?_ | ((first | refine CallK.vlook rfl (hg) (hc1) ?_ (by assumption) frA ?_ | refine CallD.vlook rfl (hg) (hc1) ?_ (by assumption) frA (by first | assumption | exact List.cons_ne_nil _ _) ?_); (focus exact aC); simp only [go_sem, s0, s1, s7, s8, hz, e1, hc, Int.toNat_natCast]) | refine aN ?_ | fail)
        (first | refine ret_pure ?_ ?_ ?_ | refine ret_ro ?_ ?_ ?_); focus exact (okA Try.ntmps99 Try.results99)
        rotate_left; focus exact frA
        simp only [resA, resV, Try.results99, go_sem]
        all_goals try exact coA
        exact co_i hv
      | false =>
        rw [hc] at hc1
        repeat' (first | refine awp_seq_k fun K hK => ?_ | ((first | refine aK fun R hR => ?_ | refine aD mixed fun R hR => ?_); simp only [go_sem, s0, s1, s7, s8, hz, e1, hc, Int.toNat_natCast]) | ((first | (refine hR _ ?_; clear hR R) | refine awp_skip ?_ | refine awp_exit ?_ | refine awp_ret ?_); try refine aP ?_) | ((repeat (fail_if_success refine hK _ ?_); clear hK K); refine hK _ ?_; clear hK K) | refine aT ?_ | refine aF ?_ | refine awp_block ?_ | ((first | refine CallK.vlook rfl (hg) (hc1) ?_ (by assumption) frA ?_ | refine CallD.vlook rfl (hg) (hc1) ?_ (by assumption) frA (by first | assumption | exact List.cons_ne_nil _ _) ?_); (focus exact aC); simp only [go_sem, s0, s1, s7, s8, hz, e1, hc, Int.toNat_natCast]) | refine aN ?_ | fail)
        refine ⟨⟨i + 1, ?_⟩, ?_⟩
        rotate_left
        · simp only [go_sem, s0, s1, s7, s8, sh]; omega
        simp only [go_sem, s0, s1, s7, s8, sh]
        and_intros; all_goals try (first | rfl | omega | assumption | exact anA)
        rw [← hv]; exact (idxP_go hlt hc).symm
    · have hz : ¬ ((i : Int) < (l.length : Int)) := by omega
      rw [List.drop_eq_nil_of_le hge, idxP] at hv
      repeat' (first | refine awp_seq_k fun K hK => ?_ | ((first | refine aK fun R hR => ?_ | refine aD mixed fun R hR => ?_); simp only [go_sem, s0, s1, s7, s8, hz]) | ((first | (refine hR _ ?_; clear hR R) | refine awp_skip ?_ | refine awp_exit ?_ | refine awp_ret ?_); try refine aP ?_) | ((repeat (fail_if_success refine hK _ ?_); clear hK K); refine hK _ ?_; clear hK K) | refine aT ?_ | refine aF ?_ | refine awp_block ?_ | refine aN ?_ | fail)
      (first | refine ret_pure ?_ ?_ ?_ | refine ret_ro ?_ ?_ ?_); focus exact (okA Try.ntmps99 Try.results99)
      rotate_left; focus exact frA
      simp only [resA, resV, Try.results99, go_sem]
      all_goals try exact coA
      exact co_i hv
set_option maxRecDepth 20000 in
theorem containsF_lits (l : List (Lt)) (hl : l.length ≤ 16777216) (g : FuncId) (hg : enterOk Try.prog g) (caps : List AV) (ro : List (Nm × Ob)) (p : Lt → Bool) (hp : ∀ x ∈ l, Tri Try.prog g ([.d (ltDV x)] ++ caps) (rdE ro (bA (p x)))) :
    Tri Try.prog 61 [.d (.sl (l.map ltDV)), .fn (.func g) [] caps] (rdE ro (bA (l.any p))) := by
  refine tri_enter_ro Try.func61 rfl Try.ntmps61 (by simp only [List.length_cons, List.length_nil]; omega) fun w0 h0 k hro => ?_
  have e := idxP_nn p l 0
  repeat' (first | refine awp_seq_k fun K hK => ?_ | ((first | refine aK fun R hR => ?_ | refine aD mixed fun R hR => ?_); simp only [go_sem]) | ((first | (refine hR _ ?_; clear hR R) | refine awp_skip ?_ | refine awp_exit ?_ | refine awp_ret ?_); try refine aP ?_) | ((repeat (fail_if_success refine hK _ ?_); clear hK K); refine hK _ ?_; clear hK K) | refine aT ?_ | refine aF ?_ | refine awp_block ?_ | ((first | refine CallK.look (enter99) (indexF_lits l hl g hg caps ro p hp) ?_ (by assumption) frA ?_ | refine CallD.look (enter99) (indexF_lits l hl g hg caps ro p hp) ?_ (by assumption) frA (by first | assumption | exact List.cons_ne_nil _ _) ?_); (focus exact aC); simp only [go_sem]) | refine aN ?_ | fail)
  (first | refine ret_pure ?_ ?_ ?_ | refine ret_ro ?_ ?_ ?_); focus exact (okA Try.ntmps61 Try.results61)
  rotate_left; focus exact frA
  simp only [resA, resV, Try.results61, go_sem]
  all_goals try exact coA
  exact co_b e
set_option maxRecDepth 20000 in
theorem indexF_rows (l : List (List Int)) (hl : l.length ≤ 16777216) (g : FuncId) (hg : enterOk Try.prog g) (caps : List AV) (ro : List (Nm × Ob)) (p : List Int → Bool) (hp : ∀ x ∈ l, Tri Try.prog g ([.d (gI x)] ++ caps) (rdE ro (bA (p x)))) :
    Tri Try.prog 110 [.d (.sl (l.map gI)), .fn (.func g) [] caps] (rdE ro (iA (idxP p l 0))) := by
  refine tri_enter_ro Try.func110 rfl Try.ntmps110 (by simp only [List.length_cons, List.length_nil]; omega) fun w0 h0 k hro => ?_
  repeat' (first | refine awp_seq_k fun K hK => ?_ | ((first | refine aK fun R hR => ?_ | refine aD mixed fun R hR => ?_); simp only [go_sem]) | ((first | (refine hR _ ?_; clear hR R) | refine awp_skip ?_ | refine awp_exit ?_ | refine awp_ret ?_); try refine aP ?_) | ((repeat (fail_if_success refine hK _ ?_); clear hK K); refine hK _ ?_; clear hK K) | refine aT ?_ | refine aF ?_ | refine awp_block ?_ | refine aN ?_ | fail)
  refine awp_loop (fun σ => ∃ i : Nat, σ.t 0 = .d (.sl (l.map gI)) ∧ σ.t 1 = .fn (.func g) [] caps ∧ σ.t 7 = iA l.length ∧ σ.t 8 = iA i ∧ σ.h = h0 ∧ i ≤ l.length ∧ idxP p (l.drop i) i = idxP p l 0) (fun σ => l.length - (intOf' (σ.t 8)).toNat) ?_ ?_
  · refine ⟨0, ?_⟩
    simp only [go_sem]
    and_intros; all_goals try (first | rfl | omega | assumption | exact anA)
  · rintro σ ⟨i, s0, s1, s7, s8, sh, hi, hv⟩
    have hfr : Fr k h0 σ.h := by rw [sh]; exact Fr.rfl' _ _
    rcases Nat.lt_or_ge i l.length with hlt | hge
    · have hz : (i : Int) < (l.length : Int) := by omega
      have e1 : (l.map gI).getD i default = gI l[i] := nth_map gI hlt _
      have hc1 := hp l[i] (List.getElem_mem hlt)
      cases hc : p l[i] with
      | true =>
        rw [idxP_at hlt hc] at hv
        rw [hc] at hc1
        repeat' (first | refine awp_seq_k fun K hK => ?_ | ((first | refine aK fun R hR => ?_ | refine aD mixed fun R hR => ?_); simp only [go_sem, s0, s1, s7, s8, hz, e1, hc, Int.toNat_natCast]) | ((first | (refine hR _ ?_; clear hR R) | refine awp_skip ?_ | refine awp_exit ?_ | refine awp_ret ?_); try refine aP ?_) | ((repeat (fail_if_success refine hK _ ?_); clear hK K); refine hK _ ?_; clear hK K) | refine aT ?_ | refine aF ?_ | refine awp_block ?_ | ((first | refine CallK.vlook rfl (hg) (hc1) ?_ (by assumption) frA ?_ | refine CallD.vlook rfl (hg) (hc1) ?_ (by assumption) frA (by first | assumption | exact List.cons_ne_nil _ _) ?_); (focus exact aC); simp only [go_sem, s0, s1, s7, s8, hz, e1, hc, Int.toNat_natCast]) | refine aN ?_ | fail)
        (first | refine ret_pure ?_ ?_ ?_ | refine ret_ro ?_ ?_ ?_); focus exact (okA Try.ntmps110 Try.results110)
        rotate_left; focus exact frA
        simp only [resA, resV, Try.results110, go_sem]
        all_goals try exact coA
        exact co_i hv
      | false =>
        rw [hc] at hc1
        repeat' (first | refine awp_seq_k fun K hK => ?_ | ((first | refine aK fun R hR => ?_ | refine aD mixed fun R hR => ?_); simp only [go_sem, s0, s1, s7, s8, hz, e1, hc, Int.toNat_natCast]) | ((first | (refine hR _ ?_; clear hR R) | refine awp_skip ?_ | refine awp_exit ?_ | refine awp_ret ?_); try refine aP ?_) | ((repeat (fail_if_success refine hK _ ?_); clear hK K); refine hK _ ?_; clear hK K) | refine aT ?_ | refine aF ?_ | refine awp_block ?_ | ((first | refine CallK.vlook rfl (hg) (hc1) ?_ (by assumption) frA ?_ | refine CallD.vlook rfl (hg) (hc1) ?_ (by assumption) frA (by first | assumption | exact List.cons_ne_nil _ _) ?_); (focus exact aC); simp only [go_sem, s0, s1, s7, s8, hz, e1, hc, Int.toNat_natCast]) | refine aN ?_ | fail)
        refine ⟨⟨i + 1, ?_⟩, ?_⟩
        rotate_left
        · simp only [go_sem, s0, s1, s7, s8, sh]; omega
        simp only [go_sem, s0, s1, s7, s8, sh]
        and_intros; all_goals try (first | rfl | omega | assumption | exact anA)
        rw [← hv]; exact (idxP_go hlt hc).symm
    · have hz : ¬ ((i : Int) < (l.length : Int)) := by omega
      rw [List.drop_eq_nil_of_le hge, idxP] at hv
      repeat' (first | refine awp_seq_k fun K hK => ?_ | ((first | refine aK fun R hR => ?_ | refine aD mixed fun R hR => ?_); simp only [go_sem, s0, s1, s7, s8, hz]) | ((first | (refine hR _ ?_; clear hR R) | refine awp_skip ?_ | refine awp_exit ?_ | refine awp_ret ?_); try refine aP ?_) | ((repeat (fail_if_success refine hK _ ?_); clear hK K); refine hK _ ?_; clear hK K) | refine aT ?_ | refine aF ?_ | refine awp_block ?_ | refine aN ?_ | fail)
      (first | refine ret_pure ?_ ?_ ?_ | refine ret_ro ?_ ?_ ?_); focus exact (okA Try.ntmps110 Try.results110)
      rotate_left; focus exact frA
      simp only [resA, resV, Try.results110, go_sem]
      all_goals try exact coA
      exact co_i hv
set_option maxRecDepth 20000 in
theorem containsF_rows (l : List (List Int)) (hl : l.length ≤ 16777216) (g : FuncId) (hg : enterOk Try.prog g) (caps : List AV) (ro : List (Nm × Ob)) (p : List Int → Bool) (hp : ∀ x ∈ l, Tri Try.prog g ([.d (gI x)] ++ caps) (rdE ro (bA (p x)))) :
    Tri Try.prog 85 [.d (.sl (l.map gI)), .fn (.func g) [] caps] (rdE ro (bA (l.any p))) := by
  refine tri_enter_ro Try.func85 rfl Try.ntmps85 (by simp only [List.length_cons, List.length_nil]; omega) fun w0 h0 k hro => ?_
  have e := idxP_nn p l 0
  repeat' (first | refine awp_seq_k fun K hK => ?_ | ((first | refine aK fun R hR => ?_ | refine aD mixed fun R hR => ?_); simp only [go_sem]) | ((first | (refine hR _ ?_; clear hR R) | refine awp_skip ?_ | refine awp_exit ?_ | refine awp_ret ?_); try refine aP ?_) | ((repeat (fail_if_success refine hK _ ?_); clear hK K); refine hK _ ?_; clear hK K) | refine aT ?_ | refine aF ?_ | refine awp_block ?_ | ((first | refine CallK.look (enter110) (indexF_rows l hl g hg caps ro p hp) ?_ (by assumption) frA ?_ | refine CallD.look (enter110) (indexF_rows l hl g hg caps ro p hp) ?_ (by assumption) frA (by first | assumption | exact List.cons_ne_nil _ _) ?_); (focus exact aC); simp only [go_sem]) | refine aN ?_ | fail)
  (first | refine ret_pure ?_ ?_ ?_ | refine ret_ro ?_ ?_ ?_); focus exact (okA Try.ntmps85 Try.results85)
  rotate_left; focus exact frA
  simp only [resA, resV, Try.results85, go_sem]
  all_goals try exact coA
  exact co_b e
set_option maxRecDepth 20000 in
theorem clone_ints (l : List (Int)) (hl : l.length ≤ 4000000) (n' : Nm) : Tri Try.prog 144 [.d (.sl (l.map iD))] (newEff 3 n' (l.map iD)) := by
  refine Tri.nils (fun h => ?_) ?_
  · obtain rfl : l = [] := by simpa using h
    refine tri_enter Try.func144 rfl Try.ntmps144 (by simp only [List.length_cons, List.length_nil]; omega) fun w0 h0 k hrd hwr => ?_
    have hn' : n'.1 < k := hwr _ (List.mem_cons_self ..)
    have h0' : h0 n' = none := hrd _ (List.mem_cons_self ..)
    repeat' (first | refine awp_ghost (ghost_nil (i := 2) (e := 3) rfl) ?_ | refine awp_seq_k fun K hK => ?_ | ((first | refine aK fun R hR => ?_ | refine aD mixed fun R hR => ?_); simp only [go_sem]) | ((first | (refine hR _ ?_; clear hR R) | refine awp_skip ?_ | refine awp_exit ?_ | refine awp_ret ?_); try refine aP ?_) | ((repeat (fail_if_success refine hK _ ?_); clear hK K); refine hK _ ?_; clear hK K) | refine aT ?_ | refine aF ?_ | refine awp_block ?_ | refine aN ?_ | fail)
    refine ret_new (okA Try.ntmps144 Try.results144) (by simp only [resA, resV, Try.results144, go_sem]; try rfl) ?_ hn' h0' ?_ frA <;> simp only [go_sem, List.length_map] <;> first | rfl | omega
  · refine tri_enter Try.func144 rfl Try.ntmps144 (by simp only [List.length_cons, List.length_nil]; omega) fun w0 h0 k hrd hwr => ?_
    have hn' : n'.1 < k := hwr _ (List.mem_cons_self ..)
    have h0' : h0 n' = none := hrd _ (List.mem_cons_self ..)
    repeat' (first | refine awp_nn (i := 0) 4 rfl rfl ?_ | refine awp_seq_k fun K hK => ?_ | ((first | refine aK fun R hR => ?_ | refine aD mixed fun R hR => ?_); simp only [go_sem]) | ((first | (refine hR _ ?_; clear hR R) | refine awp_skip ?_ | refine awp_exit ?_ | refine awp_ret ?_); try refine aP ?_) | ((repeat (fail_if_success refine hK _ ?_); clear hK K); refine hK _ ?_; clear hK K) | refine aT ?_ | refine aF ?_ | refine awp_block ?_ | refine aN ?_ | fail)
    refine ret_new (okA Try.ntmps144 Try.results144) (by simp only [resA, resV, Try.results144, go_sem]; try rfl) ?_ hn' h0' ?_ frA <;> simp only [go_sem, List.length_map] <;> first | rfl | omega
end Go.Proofs.Ytmeekpinkfpnhab
