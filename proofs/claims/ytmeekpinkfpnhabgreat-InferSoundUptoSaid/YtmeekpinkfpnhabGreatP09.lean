/- Functions of Go's library: slices. -/
import Derived.Test.YtmeekpinkfpnhabGreatP08
set_option linter.all false
namespace Go.Proofs.YtmeekpinkfpnhabGreat
open Go.RowKit
def idxI (v : Int) : List Int → Nat → Int
 | [], _ => -1
 | x :: l, i => if v == x then i else idxI v l (i + 1)
theorem idxI_go {v : Int} {l : List Int} {i : Nat} (hi : i < l.length) (h : (v == l[i]) = false) : idxI v (l.drop i) i = idxI v (l.drop (i + 1)) (i + 1) := by
 rw [List.drop_eq_getElem_cons hi, idxI, h]; rfl
theorem idxI_at {v : Int} {l : List Int} {i : Nat} (hi : i < l.length) (h : (v == l[i]) = true) : idxI v (l.drop i) i = i := by
 rw [List.drop_eq_getElem_cons hi, idxI, if_pos h]
theorem idxI_nn (v : Int) : ∀ (l : List Int) (i : Nat), decide (idxI v l i ≥ 0) = l.contains v
 | [], _ => rfl
 | x :: l, i => by
  rw [idxI, List.contains_cons]
  by_cases h : v == x
  ·rw [if_pos h, h]; simp
  ·rw [if_neg h, idxI_nn v l (i + 1)]; simp at h; simp [h]
set_option maxRecDepth 20000 in
theorem index_tri (l : List Int) (hl : l.length ≤ 16777216) (v : Int) : Tri Tryz.prog 117 [.d (.sl (l.map iD)), iA v] (pure' (iA (idxI v l 0))) := by
 refine aE Tryz.func117 rfl Tryz.ntmps117 fun w0 h0 k hrd hwr => ?_
 repeat' (first | refine aQ fun K hK => ?_ | ((first | refine aK fun R hR => ?_ | refine aD mixed fun R hR => ?_); simp only [go_sem]) | ((first | (refine hR _ ?_; clear hR R) | refine aZ rfl ?_); try refine aP ?_) | ((repeat (fail_if_success refine hK _ ?_); clear hK K); refine hK _ ?_; clear hK K) | refine aT ?_ | refine aF ?_ | refine aB ?_ | refine aN ?_ | fail)
 refine awp_loop (fun σ => ∃ i : Nat, σ.t 0 = .d (.sl (l.map iD)) ∧ σ.t 1 = iA v ∧ σ.t 7 = iA l.length ∧ σ.t 8 = iA i ∧ σ.h = h0 ∧ i ≤ l.length ∧ idxI v (l.drop i) i = idxI v l 0) (fun σ => l.length - (intOf' (σ.t 8)).toNat) ?_ ?_
 ·refine ⟨0, ?_⟩
  simp only [go_sem]
  and_intros; all_goals try (first | rfl | omega | assumption | exact anA)
 ·rintro σ ⟨i, s0, s1, s7, s8, sh, hi, hv⟩
  have hfr : Fr k h0 σ.h := by rw [sh]; exact Fr.rfl' _ _
  rcases Nat.lt_or_ge i l.length with hlt | hge
  ·have hz : (i : Int) < (l.length : Int) := by omega
   have e1 : (l.map iD).getD i default = iD l[i] := nth_map iD hlt _
   cases hc : v == l[i] with
   | true =>
    rw [idxI_at hlt hc] at hv
    repeat' (first | refine aQ fun K hK => ?_ | ((first | refine aK fun R hR => ?_ | refine aD mixed fun R hR => ?_); simp only [go_sem, s0, s1, s7, s8, hz, e1, hc, Int.toNat_natCast]) | ((first | (refine hR _ ?_; clear hR R) | refine aZ rfl ?_); try refine aP ?_) | ((repeat (fail_if_success refine hK _ ?_); clear hK K); refine hK _ ?_; clear hK K) | refine aT ?_ | refine aF ?_ | refine aB ?_ | refine aN ?_ | fail)
    (first | refine ret_pure ?_ ?_ ?_ | refine ret_ro ?_ ?_ ?_); focus exact (okA Tryz.ntmps117 Tryz.results117)
    rotate_left; focus exact frA
    simp only [resA, resV, Tryz.results117, go_sem]
    all_goals try exact coA
    exact co_i hv
   | false =>
    repeat' (first | refine aQ fun K hK => ?_ | ((first | refine aK fun R hR => ?_ | refine aD mixed fun R hR => ?_); simp only [go_sem, s0, s1, s7, s8, hz, e1, hc, Int.toNat_natCast]) | ((first | (refine hR _ ?_; clear hR R) | refine aZ rfl ?_); try refine aP ?_) | ((repeat (fail_if_success refine hK _ ?_); clear hK K); refine hK _ ?_; clear hK K) | refine aT ?_ | refine aF ?_ | refine aB ?_ | refine aN ?_ | fail)
    refine ⟨⟨i + 1, ?_⟩, ?_⟩
    rotate_left
    ·simp only [go_sem, s0, s1, s7, s8, sh]; omega
    simp only [go_sem, s0, s1, s7, s8, sh]
    and_intros; all_goals try (first | rfl | omega | assumption | exact anA)
    rw [← hv]; exact (idxI_go hlt hc).symm
  ·have hz : ¬ ((i : Int) < (l.length : Int)) := by omega
   rw [List.drop_eq_nil_of_le hge, idxI] at hv
   repeat' (first | refine aQ fun K hK => ?_ | ((first | refine aK fun R hR => ?_ | refine aD mixed fun R hR => ?_); simp only [go_sem, s0, s1, s7, s8, hz]) | ((first | (refine hR _ ?_; clear hR R) | refine aZ rfl ?_); try refine aP ?_) | ((repeat (fail_if_success refine hK _ ?_); clear hK K); refine hK _ ?_; clear hK K) | refine aT ?_ | refine aF ?_ | refine aB ?_ | refine aN ?_ | fail)
   (first | refine ret_pure ?_ ?_ ?_ | refine ret_ro ?_ ?_ ?_); focus exact (okA Tryz.ntmps117 Tryz.results117)
   rotate_left; focus exact frA
   simp only [resA, resV, Tryz.results117, go_sem]
   all_goals try exact coA
   exact co_i hv
set_option maxRecDepth 20000 in
theorem contains_tri (l : List Int) (hl : l.length ≤ 16777216) (v : Int) : Tri Tryz.prog 91 [.d (.sl (l.map iD)), iA v] (pure' (bA (l.contains v))) := by
 refine aE Tryz.func91 rfl Tryz.ntmps91 fun w0 h0 k hrd hwr => ?_
 have e := idxI_nn v l 0
 repeat' (first | refine aQ fun K hK => ?_ | ((first | refine aK fun R hR => ?_ | refine aD mixed fun R hR => ?_); simp only [go_sem]) | ((first | (refine hR _ ?_; clear hR R) | refine aZ rfl ?_); try refine aP ?_) | ((repeat (fail_if_success refine hK _ ?_); clear hK K); refine hK _ ?_; clear hK K) | refine aT ?_ | refine aF ?_ | refine aB ?_ | ((first | refine CallK.pure (enter117) (index_tri l hl v) ?_ ?_ | refine CallD.pure (enter117) (index_tri l hl v) ?_ ?_); (focus exact aC); simp only [go_sem]) | refine aN ?_ | fail)
 (first | refine ret_pure ?_ ?_ ?_ | refine ret_ro ?_ ?_ ?_); focus exact (okA Tryz.ntmps91 Tryz.results91)
 rotate_left; focus exact frA
 simp only [resA, resV, Tryz.results91, go_sem]
 all_goals try exact coA
 exact co_b e
def idxP {α : Type} (p : α → Bool) : List α → Nat → Int
 | [], _ => -1
 | x :: l, i => if p x = true then i else idxP p l (i + 1)
theorem idxP_go {α : Type} {p : α → Bool} {l : List α} {i : Nat} (hi : i < l.length) (h : p l[i] = false) : idxP p (l.drop i) i = idxP p (l.drop (i + 1)) (i + 1) := by
 rw [List.drop_eq_getElem_cons hi, idxP, h]; rfl
theorem idxP_at {α : Type} {p : α → Bool} {l : List α} {i : Nat} (hi : i < l.length) (h : p l[i] = true) : idxP p (l.drop i) i = i := by
 rw [List.drop_eq_getElem_cons hi, idxP, if_pos h]
theorem idxP_nn {α : Type} (p : α → Bool) : ∀ (l : List α) (i : Nat), decide (idxP p l i ≥ 0) = l.any p
 | [], _ => rfl
 | x :: l, i => by
  rw [idxP, List.any_cons]
  by_cases h : p x = true
  ·rw [if_pos h, h]; simp
  ·rw [if_neg h, idxP_nn p l (i + 1)]; simp at h; simp [h]
set_option maxRecDepth 20000 in
theorem indexF_ints (l : List (Int)) (hl : l.length ≤ 16777216) (g : FuncId) (hg : enterOk Tryz.prog g) (caps : List AV) (ro : List (Nm × Ob)) (p : Int → Bool) (hp : ∀ x ∈ l, Tri Tryz.prog g ([.d (iD x)] ++ caps) (rdE ro (bA (p x)))) :
  Tri Tryz.prog 114 [.d (.sl (l.map iD)), .fn (.func g) [] caps] (rdE ro (iA (idxP p l 0))) := by
 refine aER Tryz.func114 rfl Tryz.ntmps114 fun w0 h0 k hro => ?_
 repeat' (first | refine aQ fun K hK => ?_ | ((first | refine aK fun R hR => ?_ | refine aD mixed fun R hR => ?_); simp only [go_sem]) | ((first | (refine hR _ ?_; clear hR R) | refine aZ rfl ?_); try refine aP ?_) | ((repeat (fail_if_success refine hK _ ?_); clear hK K); refine hK _ ?_; clear hK K) | refine aT ?_ | refine aF ?_ | refine aB ?_ | refine aN ?_ | fail)
 refine awp_loop (fun σ => ∃ i : Nat, σ.t 0 = .d (.sl (l.map iD)) ∧ σ.t 1 = .fn (.func g) [] caps ∧ σ.t 7 = iA l.length ∧ σ.t 8 = iA i ∧ σ.h = h0 ∧ i ≤ l.length ∧ idxP p (l.drop i) i = idxP p l 0) (fun σ => l.length - (intOf' (σ.t 8)).toNat) ?_ ?_
 ·refine ⟨0, ?_⟩
  simp only [go_sem]
  and_intros; all_goals try (first | rfl | omega | assumption | exact anA)
 ·rintro σ ⟨i, s0, s1, s7, s8, sh, hi, hv⟩
  have hfr : Fr k h0 σ.h := by rw [sh]; exact Fr.rfl' _ _
  rcases Nat.lt_or_ge i l.length with hlt | hge
  ·have hz : (i : Int) < (l.length : Int) := by omega
   have e1 : (l.map iD).getD i default = iD l[i] := nth_map iD hlt _
   have hc1 := hp l[i] (List.getElem_mem hlt)
   cases hc : p l[i] with
   | true =>
    rw [idxP_at hlt hc] at hv
    rw [hc] at hc1
    repeat' (first | refine aQ fun K hK => ?_ | ((first | refine aK fun R hR => ?_ | refine aD mixed fun R hR => ?_); simp only [go_sem, s0, s1, s7, s8, hz, e1, hc, Int.toNat_natCast]) | ((first | (refine hR _ ?_; clear hR R) | refine aZ rfl ?_); try refine aP ?_) | ((repeat (fail_if_success refine hK _ ?_); clear hK K); refine hK _ ?_; clear hK K) | refine aT ?_ | refine aF ?_ | refine aB ?_ | ((first | refine CallK.vlook rfl (hg) (hc1) ?_ (by assumption) frA ?_ | refine CallD.vlook rfl (hg) (hc1) ?_ (by assumption) frA (by first | assumption | exact List.cons_ne_nil _ _) ?_); (focus exact aC); simp only [go_sem, s0, s1, s7, s8, hz, e1, hc, Int.toNat_natCast]) | refine aN ?_ | fail)
    (first | refine ret_pure ?_ ?_ ?_ | refine ret_ro ?_ ?_ ?_); focus exact (okA Tryz.ntmps114 Tryz.results114)
    rotate_left; focus exact frA
    simp only [resA, resV, Tryz.results114, go_sem]
    all_goals try exact coA
    exact co_i hv
   | false =>
    rw [hc] at hc1
    repeat' (first | refine aQ fun K hK => ?_ | ((first | refine aK fun R hR => ?_ | refine aD mixed fun R hR => ?_); simp only [go_sem, s0, s1, s7, s8, hz, e1, hc, Int.toNat_natCast]) | ((first | (refine hR _ ?_; clear hR R) | refine aZ rfl ?_); try refine aP ?_) | ((repeat (fail_if_success refine hK _ ?_); clear hK K); refine hK _ ?_; clear hK K) | refine aT ?_ | refine aF ?_ | refine aB ?_ | ((first | refine CallK.vlook rfl (hg) (hc1) ?_ (by assumption) frA ?_ | refine CallD.vlook rfl (hg) (hc1) ?_ (by assumption) frA (by first | assumption | exact List.cons_ne_nil _ _) ?_); (focus exact aC); simp only [go_sem, s0, s1, s7, s8, hz, e1, hc, Int.toNat_natCast]) | refine aN ?_ | fail)
    refine ⟨⟨i + 1, ?_⟩, ?_⟩
    rotate_left
    ·simp only [go_sem, s0, s1, s7, s8, sh]; omega
    simp only [go_sem, s0, s1, s7, s8, sh]
    and_intros; all_goals try (first | rfl | omega | assumption | exact anA)
    rw [← hv]; exact (idxP_go hlt hc).symm
  ·have hz : ¬ ((i : Int) < (l.length : Int)) := by omega
   rw [List.drop_eq_nil_of_le hge, idxP] at hv
   repeat' (first | refine aQ fun K hK => ?_ | ((first | refine aK fun R hR => ?_ | refine aD mixed fun R hR => ?_); simp only [go_sem, s0, s1, s7, s8, hz]) | ((first | (refine hR _ ?_; clear hR R) | refine aZ rfl ?_); try refine aP ?_) | ((repeat (fail_if_success refine hK _ ?_); clear hK K); refine hK _ ?_; clear hK K) | refine aT ?_ | refine aF ?_ | refine aB ?_ | refine aN ?_ | fail)
   (first | refine ret_pure ?_ ?_ ?_ | refine ret_ro ?_ ?_ ?_); focus exact (okA Tryz.ntmps114 Tryz.results114)
   rotate_left; focus exact frA
   simp only [resA, resV, Tryz.results114, go_sem]
   all_goals try exact coA
   exact co_i hv
set_option maxRecDepth 20000 in
theorem containsF_ints (l : List (Int)) (hl : l.length ≤ 16777216) (g : FuncId) (hg : enterOk Tryz.prog g) (caps : List AV) (ro : List (Nm × Ob)) (p : Int → Bool) (hp : ∀ x ∈ l, Tri Tryz.prog g ([.d (iD x)] ++ caps) (rdE ro (bA (p x)))) :
  Tri Tryz.prog 82 [.d (.sl (l.map iD)), .fn (.func g) [] caps] (rdE ro (bA (l.any p))) := by
 refine aER Tryz.func82 rfl Tryz.ntmps82 fun w0 h0 k hro => ?_
 have e := idxP_nn p l 0
 repeat' (first | refine aQ fun K hK => ?_ | ((first | refine aK fun R hR => ?_ | refine aD mixed fun R hR => ?_); simp only [go_sem]) | ((first | (refine hR _ ?_; clear hR R) | refine aZ rfl ?_); try refine aP ?_) | ((repeat (fail_if_success refine hK _ ?_); clear hK K); refine hK _ ?_; clear hK K) | refine aT ?_ | refine aF ?_ | refine aB ?_ | ((first | refine CallK.look (enter114) (indexF_ints l hl g hg caps ro p hp) ?_ (by assumption) frA ?_ | refine CallD.look (enter114) (indexF_ints l hl g hg caps ro p hp) ?_ (by assumption) frA (by first | assumption | exact List.cons_ne_nil _ _) ?_); (focus exact aC); simp only [go_sem]) | refine aN ?_ | fail)
 (first | refine ret_pure ?_ ?_ ?_ | refine ret_ro ?_ ?_ ?_); focus exact (okA Tryz.ntmps82 Tryz.results82)
 rotate_left; focus exact frA
 simp only [resA, resV, Tryz.results82, go_sem]
 all_goals try exact coA
 exact co_b e
set_option maxRecDepth 20000 in
theorem indexF_lits (l : List (Lt)) (hl : l.length ≤ 16777216) (g : FuncId) (hg : enterOk Tryz.prog g) (caps : List AV) (ro : List (Nm × Ob)) (p : Lt → Bool) (hp : ∀ x ∈ l, Tri Tryz.prog g ([.d (ltDV x)] ++ caps) (rdE ro (bA (p x)))) :
  Tri Tryz.prog 92 [.d (.sl (l.map ltDV)), .fn (.func g) [] caps] (rdE ro (iA (idxP p l 0))) := by
 refine aER Tryz.func92 rfl Tryz.ntmps92 fun w0 h0 k hro => ?_
 repeat' (first | refine aQ fun K hK => ?_ | ((first | refine aK fun R hR => ?_ | refine aD mixed fun R hR => ?_); simp only [go_sem]) | ((first | (refine hR _ ?_; clear hR R) | refine aZ rfl ?_); try refine aP ?_) | ((repeat (fail_if_success refine hK _ ?_); clear hK K); refine hK _ ?_; clear hK K) | refine aT ?_ | refine aF ?_ | refine aB ?_ | refine aN ?_ | fail)
 refine awp_loop (fun σ => ∃ i : Nat, σ.t 0 = .d (.sl (l.map ltDV)) ∧ σ.t 1 = .fn (.func g) [] caps ∧ σ.t 7 = iA l.length ∧ σ.t 8 = iA i ∧ σ.h = h0 ∧ i ≤ l.length ∧ idxP p (l.drop i) i = idxP p l 0) (fun σ => l.length - (intOf' (σ.t 8)).toNat) ?_ ?_
 ·refine ⟨0, ?_⟩
  simp only [go_sem]
  and_intros; all_goals try (first | rfl | omega | assumption | exact anA)
 ·rintro σ ⟨i, s0, s1, s7, s8, sh, hi, hv⟩
  have hfr : Fr k h0 σ.h := by rw [sh]; exact Fr.rfl' _ _
  rcases Nat.lt_or_ge i l.length with hlt | hge
  ·have hz : (i : Int) < (l.length : Int) := by omega
   have e1 : (l.map ltDV).getD i default = ltDV l[i] := nth_map ltDV hlt _
   have hc1 := hp l[i] (List.getElem_mem hlt)
   cases hc : p l[i] with
   | true =>
    rw [idxP_at hlt hc] at hv
    rw [hc] at hc1
    repeat' (first | refine aQ fun K hK => ?_ | ((first | refine aK fun R hR => ?_ | refine aD mixed fun R hR => ?_); simp only [go_sem, s0, s1, s7, s8, hz, e1, hc, Int.toNat_natCast]) | ((first | (refine hR _ ?_; clear hR R) | refine aZ rfl ?_); try refine aP ?_) | ((repeat (fail_if_success refine hK _ ?_); clear hK K); refine hK _ ?_; clear hK K) | refine aT ?_ | refine aF ?_ | refine aB ?_ | ((first | refine CallK.vlook rfl (hg) (hc1) ?_ (by assumption) frA ?_ | refine CallD.vlook rfl (hg) (hc1) ?_ (by assumption) frA (by first | assumption | exact List.cons_ne_nil _ _) ?_); (focus exact aC); simp only [go_sem, s0, s1, s7, s8, hz, e1, hc, Int.toNat_natCast]) | refine aN ?_ | fail)
    (first | refine ret_pure ?_ ?_ ?_ | refine ret_ro ?_ ?_ ?_); focus exact (okA Tryz.ntmps92 Tryz.results92)
    rotate_left; focus exact frA
    simp only [resA, resV, Tryz.results92, go_sem]
    all_goals try exact coA
    exact co_i hv
   | false =>
    rw [hc] at hc1
    repeat' (first | refine aQ fun K hK => ?_ | ((first | refine aK fun R hR => ?_ | refine aD mixed fun R hR => ?_); simp only [go_sem, s0, s1, s7, s8, hz, e1, hc, Int.toNat_natCast]) | ((first | (refine hR _ ?_; clear hR R) | refine aZ rfl ?_); try refine aP ?_) | ((repeat (fail_if_success refine hK _ ?_); clear hK K); refine hK _ ?_; clear hK K) | refine aT ?_ | refine aF ?_ | refine aB ?_ | ((first | refine CallK.vlook rfl (hg) (hc1) ?_ (by assumption) frA ?_ | refine CallD.vlook rfl (hg) (hc1) ?_ (by assumption) frA (by first | assumption | exact List.cons_ne_nil _ _) ?_); (focus exact aC); simp only [go_sem, s0, s1, s7, s8, hz, e1, hc, Int.toNat_natCast]) | refine aN ?_ | fail)
    refine ⟨⟨i + 1, ?_⟩, ?_⟩
    rotate_left
    ·simp only [go_sem, s0, s1, s7, s8, sh]; omega
    simp only [go_sem, s0, s1, s7, s8, sh]
    and_intros; all_goals try (first | rfl | omega | assumption | exact anA)
    rw [← hv]; exact (idxP_go hlt hc).symm
  ·have hz : ¬ ((i : Int) < (l.length : Int)) := by omega
   rw [List.drop_eq_nil_of_le hge, idxP] at hv
   repeat' (first | refine aQ fun K hK => ?_ | ((first | refine aK fun R hR => ?_ | refine aD mixed fun R hR => ?_); simp only [go_sem, s0, s1, s7, s8, hz]) | ((first | (refine hR _ ?_; clear hR R) | refine aZ rfl ?_); try refine aP ?_) | ((repeat (fail_if_success refine hK _ ?_); clear hK K); refine hK _ ?_; clear hK K) | refine aT ?_ | refine aF ?_ | refine aB ?_ | refine aN ?_ | fail)
   (first | refine ret_pure ?_ ?_ ?_ | refine ret_ro ?_ ?_ ?_); focus exact (okA Tryz.ntmps92 Tryz.results92)
   rotate_left; focus exact frA
   simp only [resA, resV, Tryz.results92, go_sem]
   all_goals try exact coA
   exact co_i hv
set_option maxRecDepth 20000 in
theorem containsF_lits (l : List (Lt)) (hl : l.length ≤ 16777216) (g : FuncId) (hg : enterOk Tryz.prog g) (caps : List AV) (ro : List (Nm × Ob)) (p : Lt → Bool) (hp : ∀ x ∈ l, Tri Tryz.prog g ([.d (ltDV x)] ++ caps) (rdE ro (bA (p x)))) :
  Tri Tryz.prog 56 [.d (.sl (l.map ltDV)), .fn (.func g) [] caps] (rdE ro (bA (l.any p))) := by
 refine aER Tryz.func56 rfl Tryz.ntmps56 fun w0 h0 k hro => ?_
 have e := idxP_nn p l 0
 repeat' (first | refine aQ fun K hK => ?_ | ((first | refine aK fun R hR => ?_ | refine aD mixed fun R hR => ?_); simp only [go_sem]) | ((first | (refine hR _ ?_; clear hR R) | refine aZ rfl ?_); try refine aP ?_) | ((repeat (fail_if_success refine hK _ ?_); clear hK K); refine hK _ ?_; clear hK K) | refine aT ?_ | refine aF ?_ | refine aB ?_ | ((first | refine CallK.look (enter92) (indexF_lits l hl g hg caps ro p hp) ?_ (by assumption) frA ?_ | refine CallD.look (enter92) (indexF_lits l hl g hg caps ro p hp) ?_ (by assumption) frA (by first | assumption | exact List.cons_ne_nil _ _) ?_); (focus exact aC); simp only [go_sem]) | refine aN ?_ | fail)
 (first | refine ret_pure ?_ ?_ ?_ | refine ret_ro ?_ ?_ ?_); focus exact (okA Tryz.ntmps56 Tryz.results56)
 rotate_left; focus exact frA
 simp only [resA, resV, Tryz.results56, go_sem]
 all_goals try exact coA
 exact co_b e
set_option maxRecDepth 20000 in
theorem indexF_rows (l : List (List Int)) (hl : l.length ≤ 16777216) (g : FuncId) (hg : enterOk Tryz.prog g) (caps : List AV) (ro : List (Nm × Ob)) (p : List Int → Bool) (hp : ∀ x ∈ l, Tri Tryz.prog g ([.d (gI x)] ++ caps) (rdE ro (bA (p x)))) :
  Tri Tryz.prog 115 [.d (.sl (l.map gI)), .fn (.func g) [] caps] (rdE ro (iA (idxP p l 0))) := by
 refine aER Tryz.func115 rfl Tryz.ntmps115 fun w0 h0 k hro => ?_
 repeat' (first | refine aQ fun K hK => ?_ | ((first | refine aK fun R hR => ?_ | refine aD mixed fun R hR => ?_); simp only [go_sem]) | ((first | (refine hR _ ?_; clear hR R) | refine aZ rfl ?_); try refine aP ?_) | ((repeat (fail_if_success refine hK _ ?_); clear hK K); refine hK _ ?_; clear hK K) | refine aT ?_ | refine aF ?_ | refine aB ?_ | refine aN ?_ | fail)
 refine awp_loop (fun σ => ∃ i : Nat, σ.t 0 = .d (.sl (l.map gI)) ∧ σ.t 1 = .fn (.func g) [] caps ∧ σ.t 7 = iA l.length ∧ σ.t 8 = iA i ∧ σ.h = h0 ∧ i ≤ l.length ∧ idxP p (l.drop i) i = idxP p l 0) (fun σ => l.length - (intOf' (σ.t 8)).toNat) ?_ ?_
 ·refine ⟨0, ?_⟩
  simp only [go_sem]
  and_intros; all_goals try (first | rfl | omega | assumption | exact anA)
 ·rintro σ ⟨i, s0, s1, s7, s8, sh, hi, hv⟩
  have hfr : Fr k h0 σ.h := by rw [sh]; exact Fr.rfl' _ _
  rcases Nat.lt_or_ge i l.length with hlt | hge
  ·have hz : (i : Int) < (l.length : Int) := by omega
   have e1 : (l.map gI).getD i default = gI l[i] := nth_map gI hlt _
   have hc1 := hp l[i] (List.getElem_mem hlt)
   cases hc : p l[i] with
   | true =>
    rw [idxP_at hlt hc] at hv
    rw [hc] at hc1
    repeat' (first | refine aQ fun K hK => ?_ | ((first | refine aK fun R hR => ?_ | refine aD mixed fun R hR => ?_); simp only [go_sem, s0, s1, s7, s8, hz, e1, hc, Int.toNat_natCast]) | ((first | (refine hR _ ?_; clear hR R) | refine aZ rfl ?_); try refine aP ?_) | ((repeat (fail_if_success refine hK _ ?_); clear hK K); refine hK _ ?_; clear hK K) | refine aT ?_ | refine aF ?_ | refine aB ?_ | ((first | refine CallK.vlook rfl (hg) (hc1) ?_ (by assumption) frA ?_ | refine CallD.vlook rfl (hg) (hc1) ?_ (by assumption) frA (by first | assumption | exact List.cons_ne_nil _ _) ?_); (focus exact aC); simp only [go_sem, s0, s1, s7, s8, hz, e1, hc, Int.toNat_natCast]) | refine aN ?_ | fail)
    (first | refine ret_pure ?_ ?_ ?_ | refine ret_ro ?_ ?_ ?_); focus exact (okA Tryz.ntmps115 Tryz.results115)
    rotate_left; focus exact frA
    simp only [resA, resV, Tryz.results115, go_sem]
    all_goals try exact coA
    exact co_i hv
   | false =>
    rw [hc] at hc1
    repeat' (first | refine aQ fun K hK => ?_ | ((first | refine aK fun R hR => ?_ | refine aD mixed fun R hR => ?_); simp only [go_sem, s0, s1, s7, s8, hz, e1, hc, Int.toNat_natCast]) | ((first | (refine hR _ ?_; clear hR R) | refine aZ rfl ?_); try refine aP ?_) | ((repeat (fail_if_success refine hK _ ?_); clear hK K); refine hK _ ?_; clear hK K) | refine aT ?_ | refine aF ?_ | refine aB ?_ | ((first | refine CallK.vlook rfl (hg) (hc1) ?_ (by assumption) frA ?_ | refine CallD.vlook rfl (hg) (hc1) ?_ (by assumption) frA (by first | assumption | exact List.cons_ne_nil _ _) ?_); (focus exact aC); simp only [go_sem, s0, s1, s7, s8, hz, e1, hc, Int.toNat_natCast]) | refine aN ?_ | fail)
    refine ⟨⟨i + 1, ?_⟩, ?_⟩
    rotate_left
    ·simp only [go_sem, s0, s1, s7, s8, sh]; omega
    simp only [go_sem, s0, s1, s7, s8, sh]
    and_intros; all_goals try (first | rfl | omega | assumption | exact anA)
    rw [← hv]; exact (idxP_go hlt hc).symm
  ·have hz : ¬ ((i : Int) < (l.length : Int)) := by omega
   rw [List.drop_eq_nil_of_le hge, idxP] at hv
   repeat' (first | refine aQ fun K hK => ?_ | ((first | refine aK fun R hR => ?_ | refine aD mixed fun R hR => ?_); simp only [go_sem, s0, s1, s7, s8, hz]) | ((first | (refine hR _ ?_; clear hR R) | refine aZ rfl ?_); try refine aP ?_) | ((repeat (fail_if_success refine hK _ ?_); clear hK K); refine hK _ ?_; clear hK K) | refine aT ?_ | refine aF ?_ | refine aB ?_ | refine aN ?_ | fail)
   (first | refine ret_pure ?_ ?_ ?_ | refine ret_ro ?_ ?_ ?_); focus exact (okA Tryz.ntmps115 Tryz.results115)
   rotate_left; focus exact frA
   simp only [resA, resV, Tryz.results115, go_sem]
   all_goals try exact coA
   exact co_i hv
set_option maxRecDepth 20000 in
theorem containsF_rows (l : List (List Int)) (hl : l.length ≤ 16777216) (g : FuncId) (hg : enterOk Tryz.prog g) (caps : List AV) (ro : List (Nm × Ob)) (p : List Int → Bool) (hp : ∀ x ∈ l, Tri Tryz.prog g ([.d (gI x)] ++ caps) (rdE ro (bA (p x)))) :
  Tri Tryz.prog 86 [.d (.sl (l.map gI)), .fn (.func g) [] caps] (rdE ro (bA (l.any p))) := by
 refine aER Tryz.func86 rfl Tryz.ntmps86 fun w0 h0 k hro => ?_
 have e := idxP_nn p l 0
 repeat' (first | refine aQ fun K hK => ?_ | ((first | refine aK fun R hR => ?_ | refine aD mixed fun R hR => ?_); simp only [go_sem]) | ((first | (refine hR _ ?_; clear hR R) | refine aZ rfl ?_); try refine aP ?_) | ((repeat (fail_if_success refine hK _ ?_); clear hK K); refine hK _ ?_; clear hK K) | refine aT ?_ | refine aF ?_ | refine aB ?_ | ((first | refine CallK.look (enter115) (indexF_rows l hl g hg caps ro p hp) ?_ (by assumption) frA ?_ | refine CallD.look (enter115) (indexF_rows l hl g hg caps ro p hp) ?_ (by assumption) frA (by first | assumption | exact List.cons_ne_nil _ _) ?_); (focus exact aC); simp only [go_sem]) | refine aN ?_ | fail)
 (first | refine ret_pure ?_ ?_ ?_ | refine ret_ro ?_ ?_ ?_); focus exact (okA Tryz.ntmps86 Tryz.results86)
 rotate_left; focus exact frA
 simp only [resA, resV, Tryz.results86, go_sem]
 all_goals try exact coA
 exact co_b e
set_option maxRecDepth 20000 in
theorem clone_ints (l : List (Int)) (hl : l.length ≤ 4000000) (n' : Nm) : Tri Tryz.prog 127 [.d (.sl (l.map iD))] (newEff 3 n' (l.map iD)) := by
 refine Tri.nils (fun h => ?_) ?_
 ·obtain rfl : l = [] := by simpa using h
  refine aE Tryz.func127 rfl Tryz.ntmps127 fun w0 h0 k hrd hwr => ?_
  have hn' : n'.1 < k := hwr _ (List.mem_cons_self ..)
  have h0' : h0 n' = none := hrd _ (List.mem_cons_self ..)
  repeat' (first | refine awp_ghost (ghost_nil (i := 2) (e := 3) rfl) ?_ | refine aQ fun K hK => ?_ | ((first | refine aK fun R hR => ?_ | refine aD mixed fun R hR => ?_); simp only [go_sem]) | ((first | (refine hR _ ?_; clear hR R) | refine aZ rfl ?_); try refine aP ?_) | ((repeat (fail_if_success refine hK _ ?_); clear hK K); refine hK _ ?_; clear hK K) | refine aT ?_ | refine aF ?_ | refine aB ?_ | refine aN ?_ | fail)
  refine ret_new (okA Tryz.ntmps127 Tryz.results127) (by simp only [resA, resV, Tryz.results127, go_sem]; try rfl) ?_ hn' h0' ?_ frA <;> simp only [go_sem, List.length_map] <;> first | rfl | omega
 ·refine aE Tryz.func127 rfl Tryz.ntmps127 fun w0 h0 k hrd hwr => ?_
  have hn' : n'.1 < k := hwr _ (List.mem_cons_self ..)
  have h0' : h0 n' = none := hrd _ (List.mem_cons_self ..)
  repeat' (first | refine awp_nn (i := 0) 4 rfl rfl ?_ | refine aQ fun K hK => ?_ | ((first | refine aK fun R hR => ?_ | refine aD mixed fun R hR => ?_); simp only [go_sem]) | ((first | (refine hR _ ?_; clear hR R) | refine aZ rfl ?_); try refine aP ?_) | ((repeat (fail_if_success refine hK _ ?_); clear hK K); refine hK _ ?_; clear hK K) | refine aT ?_ | refine aF ?_ | refine aB ?_ | refine aN ?_ | fail)
  refine ret_new (okA Tryz.ntmps127 Tryz.results127) (by simp only [resA, resV, Tryz.results127, go_sem]; try rfl) ?_ hn' h0' ?_ frA <;> simp only [go_sem, List.length_map] <;> first | rfl | omega
end Go.Proofs.YtmeekpinkfpnhabGreat
