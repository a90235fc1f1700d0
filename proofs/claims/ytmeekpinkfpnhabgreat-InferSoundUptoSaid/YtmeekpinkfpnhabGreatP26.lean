/- clause. -/
import Derived.Test.YtmeekpinkfpnhabGreatP08
import Derived.Test.YtmeekpinkfpnhabGreatP10
import Derived.Test.YtmeekpinkfpnhabGreatP12
import Derived.Test.YtmeekpinkfpnhabGreatP25
set_option linter.all false
namespace Go.Proofs.YtmeekpinkfpnhabGreat
open Go.RowKit
set_option maxHeartbeats 2000000 in
set_option maxRecDepth 20000 in
theorem sides_tri (a b : Lt) : Tri Tryz.prog 134 [.d (ltDV a), .d (ltDV b)] (pure' (bA (sidesB a b))) := by
 refine aE Tryz.func134 rfl Tryz.ntmps134 fun w0 h0 k hrd hwr => ?_
 unfold sidesB
 cases h1 : same a.a b.a with
 | true =>
  cases h2 : same a.b b.b with
  | true =>
   repeat' (first | refine aQ fun K hK => ?_ | ((first | refine aK fun R hR => ?_ | refine aD mixed fun R hR => ?_); simp only [go_sem, h1, h2]) | ((first | (refine hR _ ?_; clear hR R) | refine aZ rfl ?_); try refine aP ?_) | ((repeat (fail_if_success refine hK _ ?_); clear hK K); refine hK _ ?_; clear hK K) | refine aT ?_ | refine aF ?_ | refine aB ?_ | ((first | refine CallK.pure (enter132) (same_tri a.a b.a) ?_ ?_ | refine CallD.pure (enter132) (same_tri a.a b.a) ?_ ?_); (focus exact aC); simp only [go_sem, h1, h2]) | ((first | refine CallK.pure (enter132) (same_tri a.b b.b) ?_ ?_ | refine CallD.pure (enter132) (same_tri a.b b.b) ?_ ?_); (focus exact aC); simp only [go_sem, h1, h2]) | refine aN ?_ | fail)
   (first | refine ret_pure ?_ ?_ ?_ | refine ret_ro ?_ ?_ ?_); focus exact (okA Tryz.ntmps134 Tryz.results134)
   rotate_left; focus exact frA
   simp only [resA, resV, Tryz.results134, go_sem]
   all_goals try exact coA
   exact .dat rfl
  | false =>
   cases h3 : same a.a b.b with
   | true =>
    repeat' (first | refine aQ fun K hK => ?_ | ((first | refine aK fun R hR => ?_ | refine aD mixed fun R hR => ?_); simp only [go_sem, h1, h2, h3]) | ((first | (refine hR _ ?_; clear hR R) | refine aZ rfl ?_); try refine aP ?_) | ((repeat (fail_if_success refine hK _ ?_); clear hK K); refine hK _ ?_; clear hK K) | refine aT ?_ | refine aF ?_ | refine aB ?_ | ((first | refine CallK.pure (enter132) (same_tri a.a b.a) ?_ ?_ | refine CallD.pure (enter132) (same_tri a.a b.a) ?_ ?_); (focus exact aC); simp only [go_sem, h1, h2, h3]) | ((first | refine CallK.pure (enter132) (same_tri a.b b.b) ?_ ?_ | refine CallD.pure (enter132) (same_tri a.b b.b) ?_ ?_); (focus exact aC); simp only [go_sem, h1, h2, h3]) | ((first | refine CallK.pure (enter132) (same_tri a.a b.b) ?_ ?_ | refine CallD.pure (enter132) (same_tri a.a b.b) ?_ ?_); (focus exact aC); simp only [go_sem, h1, h2, h3]) | ((first | refine CallK.pure (enter132) (same_tri a.b b.a) ?_ ?_ | refine CallD.pure (enter132) (same_tri a.b b.a) ?_ ?_); (focus exact aC); simp only [go_sem, h1, h2, h3]) | refine aN ?_ | fail)
    (first | refine ret_pure ?_ ?_ ?_ | refine ret_ro ?_ ?_ ?_); focus exact (okA Tryz.ntmps134 Tryz.results134)
    rotate_left; focus exact frA
    simp only [resA, resV, Tryz.results134, go_sem]
    all_goals try exact coA
    exact .dat rfl
   | false =>
    repeat' (first | refine aQ fun K hK => ?_ | ((first | refine aK fun R hR => ?_ | refine aD mixed fun R hR => ?_); simp only [go_sem, h1, h2, h3]) | ((first | (refine hR _ ?_; clear hR R) | refine aZ rfl ?_); try refine aP ?_) | ((repeat (fail_if_success refine hK _ ?_); clear hK K); refine hK _ ?_; clear hK K) | refine aT ?_ | refine aF ?_ | refine aB ?_ | ((first | refine CallK.pure (enter132) (same_tri a.a b.a) ?_ ?_ | refine CallD.pure (enter132) (same_tri a.a b.a) ?_ ?_); (focus exact aC); simp only [go_sem, h1, h2, h3]) | ((first | refine CallK.pure (enter132) (same_tri a.b b.b) ?_ ?_ | refine CallD.pure (enter132) (same_tri a.b b.b) ?_ ?_); (focus exact aC); simp only [go_sem, h1, h2, h3]) | ((first | refine CallK.pure (enter132) (same_tri a.a b.b) ?_ ?_ | refine CallD.pure (enter132) (same_tri a.a b.b) ?_ ?_); (focus exact aC); simp only [go_sem, h1, h2, h3]) | ((first | refine CallK.pure (enter132) (same_tri a.b b.a) ?_ ?_ | refine CallD.pure (enter132) (same_tri a.b b.a) ?_ ?_); (focus exact aC); simp only [go_sem, h1, h2, h3]) | refine aN ?_ | fail)
    (first | refine ret_pure ?_ ?_ ?_ | refine ret_ro ?_ ?_ ?_); focus exact (okA Tryz.ntmps134 Tryz.results134)
    rotate_left; focus exact frA
    simp only [resA, resV, Tryz.results134, go_sem]
    all_goals try exact coA
    exact .dat rfl
 | false =>
  cases h3 : same a.a b.b with
  | true =>
   repeat' (first | refine aQ fun K hK => ?_ | ((first | refine aK fun R hR => ?_ | refine aD mixed fun R hR => ?_); simp only [go_sem, h1, h3]) | ((first | (refine hR _ ?_; clear hR R) | refine aZ rfl ?_); try refine aP ?_) | ((repeat (fail_if_success refine hK _ ?_); clear hK K); refine hK _ ?_; clear hK K) | refine aT ?_ | refine aF ?_ | refine aB ?_ | ((first | refine CallK.pure (enter132) (same_tri a.a b.a) ?_ ?_ | refine CallD.pure (enter132) (same_tri a.a b.a) ?_ ?_); (focus exact aC); simp only [go_sem, h1, h3]) | ((first | refine CallK.pure (enter132) (same_tri a.a b.b) ?_ ?_ | refine CallD.pure (enter132) (same_tri a.a b.b) ?_ ?_); (focus exact aC); simp only [go_sem, h1, h3]) | ((first | refine CallK.pure (enter132) (same_tri a.b b.a) ?_ ?_ | refine CallD.pure (enter132) (same_tri a.b b.a) ?_ ?_); (focus exact aC); simp only [go_sem, h1, h3]) | refine aN ?_ | fail)
   (first | refine ret_pure ?_ ?_ ?_ | refine ret_ro ?_ ?_ ?_); focus exact (okA Tryz.ntmps134 Tryz.results134)
   rotate_left; focus exact frA
   simp only [resA, resV, Tryz.results134, go_sem]
   all_goals try exact coA
   exact .dat rfl
  | false =>
   repeat' (first | refine aQ fun K hK => ?_ | ((first | refine aK fun R hR => ?_ | refine aD mixed fun R hR => ?_); simp only [go_sem, h1, h3]) | ((first | (refine hR _ ?_; clear hR R) | refine aZ rfl ?_); try refine aP ?_) | ((repeat (fail_if_success refine hK _ ?_); clear hK K); refine hK _ ?_; clear hK K) | refine aT ?_ | refine aF ?_ | refine aB ?_ | ((first | refine CallK.pure (enter132) (same_tri a.a b.a) ?_ ?_ | refine CallD.pure (enter132) (same_tri a.a b.a) ?_ ?_); (focus exact aC); simp only [go_sem, h1, h3]) | ((first | refine CallK.pure (enter132) (same_tri a.a b.b) ?_ ?_ | refine CallD.pure (enter132) (same_tri a.a b.b) ?_ ?_); (focus exact aC); simp only [go_sem, h1, h3]) | ((first | refine CallK.pure (enter132) (same_tri a.b b.a) ?_ ?_ | refine CallD.pure (enter132) (same_tri a.b b.a) ?_ ?_); (focus exact aC); simp only [go_sem, h1, h3]) | refine aN ?_ | fail)
   (first | refine ret_pure ?_ ?_ ?_ | refine ret_ro ?_ ?_ ?_); focus exact (okA Tryz.ntmps134 Tryz.results134)
   rotate_left; focus exact frA
   simp only [resA, resV, Tryz.results134, go_sem]
   all_goals try exact coA
   exact .dat rfl
abbrev ltC (l : Lt) : List AV := [bA l.y, iA l.a.v, iA l.a.f, .d (.sl (l.a.us.map tmDV)), iA l.b.v, iA l.b.f, .d (.sl (l.b.us.map tmDV))]
abbrev ltO (b : Nm) (l : Lt) : List (Nm × Ob) := [(b, .cells 66 (ltC l))]
theorem roLt {b : Nm} {l : Lt} {k : Nat} {h : Heap} (h1 : b.1 < k) (e : h b = some (.cells 66 (ltC l))) : RoOK k (ltO b l) h := ⟨fun x hx => by
 simp only [ltO, List.mem_cons, List.not_mem_nil, or_false] at hx; subst hx; exact ⟨h1, e⟩⟩
theorem mapLt_take {f : Tm → Tm} {c : List Lt} {i : Nat} (hi : i < c.length) : (c.take (i + 1)).map (mapLt f) = (c.take i).map (mapLt f) ++ [mapLt f c[i]] := by
 rw [List.take_succ_eq_append_getElem hi, List.map_append]; rfl
@[go_sem] theorem mapLt_DV (f : Tm → Tm) (l : Lt) : DV.st [bD l.y, iD (f l.a).v, iD (f l.a).f, .sl ((f l.a).us.map tmDV), iD (f l.b).v, iD (f l.b).f, .sl ((f l.b).us.map tmDV)] = ltDV (mapLt f l) := (Eq.trans rfl (Eq.refl _))
section
variable (g : FuncId) (caps : List AV) (ro : List (Nm × Ob)) (f : Tm → Tm) (hg : enterOk Tryz.prog g)
include hg
set_option maxHeartbeats 1000000 in
set_option maxRecDepth 20000 in
theorem each_tri (hne : ro ≠ []) (c : List Lt) (hc : c.length ≤ 4000000) (hdo : ∀ l ∈ c, Tri Tryz.prog g ([.d (tmDV l.a)] ++ caps) (rdE ro (.d (tmDV (f l.a)))) ∧ Tri Tryz.prog g ([.d (tmDV l.b)] ++ caps) (rdE ro (.d (tmDV (f l.b))))) :
  Tri Tryz.prog 25 [.d (clDV c), .fn (.func g) [] caps] (rdE ro (.d (clDV (c.map (mapLt f))))) := by
 refine aER Tryz.func25 rfl Tryz.ntmps25 fun w0 h0 k hro => ?_
 repeat' (first | refine awp_ghost (ghost_nil (i := 5) (e := 66) rfl) ?_ | refine aQ fun K hK => ?_ | ((first | refine aK fun R hR => ?_ | refine aD mixed fun R hR => ?_); simp only [go_sem]) | ((first | (refine hR _ ?_; clear hR R) | refine aZ rfl ?_); try refine aP ?_) | ((repeat (fail_if_success refine hK _ ?_); clear hK K); refine hK _ ?_; clear hK K) | refine aT ?_ | refine aF ?_ | refine aB ?_ | refine aN ?_ | fail)
 refine awp_loop (fun σ => ∃ i : Nat, σ.t 1 = .fn (.func g) [] caps ∧ σ.t 5 = .own (k + 1 + 1, 0) (((c.take i).map (mapLt f)).map ltDV) ∧ σ.t 8 = .d (clDV c) ∧ σ.t 9 = iA c.length ∧ σ.t 10 = iA i ∧
  σ.h (k + 1 + 1, 0) = some (.perm 66 ((c.take i).map (mapLt f)).length) ∧ Fr k h0 σ.h ∧ k + 1 + 1 < σ.k ∧ i ≤ c.length) (fun σ => c.length - (intOf' (σ.t 10)).toNat) ?_ ?_
 ·refine ⟨0, ?_⟩
  simp only [go_sem, List.take_zero, List.map_nil]
  and_intros; all_goals try (first | rfl | omega | assumption | exact anA)
 ·rintro σ ⟨i, s1, s5, s8, s9, s10, sh, hF, hk, hi⟩
  have hne2 := ltne hk
  have hml : ((c.take i).map (mapLt f)).length = i := by rw [List.length_map, List.length_take]; omega
  rcases Nat.lt_or_ge i c.length with hlt | hge
  ·have hz : (i : Int) < (c.length : Int) := by omega
   have e1 : (c.map ltDV).getD i default = ltDV c[i] := nth_map ltDV hlt _
   obtain ⟨d1, d2⟩ := hdo _ (List.getElem_mem hlt)
   have etk : ((c.take i).map (mapLt f)).map ltDV ++ [ltDV (mapLt f c[i])] = ((c.take (i + 1)).map (mapLt f)).map ltDV := by rw [mapLt_take hlt]; simp
   repeat' (first | refine aQ fun K hK => ?_ | ((first | refine aK fun R hR => ?_ | refine aD mixed fun R hR => ?_); simp only [go_sem, s1, s5, s8, s9, s10, sh, hz, e1, hne2, hml, List.length_map, Int.toNat_natCast]) | ((first | (refine hR _ ?_; clear hR R) | refine aZ rfl ?_); try refine aP ?_) | ((repeat (fail_if_success refine hK _ ?_); clear hK K); refine hK _ ?_; clear hK K) | refine aT ?_ | refine aF ?_ | refine aB ?_ | ((first | refine CallK.vlook rfl (hg) (d1) ?_ (by assumption) frA ?_ | refine CallD.vlook rfl (hg) (d1) ?_ (by assumption) frA (by first | assumption | exact List.cons_ne_nil _ _) ?_); (focus exact aC); simp only [go_sem, s1, s5, s8, s9, s10, sh, hz, e1, hne2, hml, List.length_map, Int.toNat_natCast]) | ((first | refine CallK.vlook rfl (hg) (d2) ?_ (by assumption) frA ?_ | refine CallD.vlook rfl (hg) (d2) ?_ (by assumption) frA (by first | assumption | exact List.cons_ne_nil _ _) ?_); (focus exact aC); simp only [go_sem, s1, s5, s8, s9, s10, sh, hz, e1, hne2, hml, List.length_map, Int.toNat_natCast]) | refine aN ?_ | fail)
   refine ⟨⟨i + 1, ?_⟩, ?_⟩
   rotate_left
   ·simp only [go_sem, s1, s5, s8, s9, s10, sh, hne2, etk, hml, List.length_map]; omega
   simp only [go_sem, s1, s5, s8, s9, s10, sh, hne2, etk, hml, List.length_map]
   and_intros; all_goals try (first | rfl | omega | assumption | exact anA)
  ·have hz : ¬ ((i : Int) < (c.length : Int)) := by omega
   obtain rfl : i = c.length := by omega
   rw [List.take_length] at s5 sh
   repeat' (first | refine aQ fun K hK => ?_ | ((first | refine aK fun R hR => ?_ | refine aD mixed fun R hR => ?_); simp only [go_sem, s5, s9, s10, sh, hz]) | ((first | (refine hR _ ?_; clear hR R) | refine aZ rfl ?_); try refine aP ?_) | ((repeat (fail_if_success refine hK _ ?_); clear hK K); refine hK _ ?_; clear hK K) | refine aT ?_ | refine aF ?_ | refine aB ?_ | refine aN ?_ | fail)
   (first | refine ret_pure ?_ ?_ ?_ | refine ret_ro ?_ ?_ ?_); focus exact (by simp only [Tryz.results25, resOkL, resOk, Tryz.ntmps25, List.toList_toArray]; first | decide | (simp only [go_sem, s5]; done) | (simp only [go_sem, s5]; and_intros <;> first | omega | rfl | decide))
   rotate_left; focus exact frA
   simp only [resA, resV, Tryz.results25, go_sem, s5]
   all_goals try exact coA
   all_goals exact .dat rfl
end
set_option maxRecDepth 20000 in
theorem neat1_tri (b : Nm) (l x : Lt) : Tri Tryz.prog 133 [.d (ltDV x), .ptr b 0] (rdE (ltO b l) (bA (x.y == l.y && sidesB x l))) := by
 refine aER Tryz.func133 rfl Tryz.ntmps133 fun w0 h0 k hro => ?_
 obtain ⟨n1, eb⟩ := hro.get _ (List.mem_cons_self ..)
 have q1 := nmne n1
 cases hy : (x.y == l.y) with
 | false =>
  repeat' (first | refine aQ fun K hK => ?_ | ((first | refine aK fun R hR => ?_ | refine aD mixed fun R hR => ?_); simp only [go_sem, eb, q1, hy]) | ((first | (refine hR _ ?_; clear hR R) | refine aZ rfl ?_); try refine aP ?_) | ((repeat (fail_if_success refine hK _ ?_); clear hK K); refine hK _ ?_; clear hK K) | refine aT ?_ | refine aF ?_ | refine aB ?_ | refine aN ?_ | fail)
  (first | refine ret_pure ?_ ?_ ?_ | refine ret_ro ?_ ?_ ?_); focus exact (okA Tryz.ntmps133 Tryz.results133)
  rotate_left; focus exact frA
  simp only [resA, resV, Tryz.results133, go_sem]
  all_goals try exact coA
  exact .dat rfl
 | true =>
  repeat' (first | refine aQ fun K hK => ?_ | ((first | refine aK fun R hR => ?_ | refine aD mixed fun R hR => ?_); simp only [go_sem, eb, q1, hy]) | ((first | (refine hR _ ?_; clear hR R) | refine aZ rfl ?_); try refine aP ?_) | ((repeat (fail_if_success refine hK _ ?_); clear hK K); refine hK _ ?_; clear hK K) | refine aT ?_ | refine aF ?_ | refine aB ?_ | ((first | refine CallK.pure (enter134) (sides_tri x l) ?_ ?_ | refine CallD.pure (enter134) (sides_tri x l) ?_ ?_); (focus exact aC); simp only [go_sem, eb, q1, hy]) | refine aN ?_ | fail)
  (first | refine ret_pure ?_ ?_ ?_ | refine ret_ro ?_ ?_ ?_); focus exact (okA Tryz.ntmps133 Tryz.results133)
  rotate_left; focus exact frA
  simp only [resA, resV, Tryz.results133, go_sem]
  all_goals try exact coA
  exact .dat rfl
set_option maxRecDepth 20000 in
theorem neat2_tri (b mm : Nm) (bs : Bs) (hbs : ∀ p ∈ bs, p.2.size ≤ 4000000) (t : Tm) (ht : t.size ≤ 4000000) : Tri Tryz.prog 135 [.d (tmDV t), .ptr b 0] (rdE (bsO b mm bs) (.d (tmDV (mapM (madeS bs) t)))) := by
 refine aER Tryz.func135 rfl Tryz.ntmps135 fun w0 h0 k hro => ?_
 obtain ⟨n1, eb⟩ := hro.get _ (List.mem_cons_self ..)
 obtain ⟨n2, em⟩ := hro.get _ (List.mem_cons_of_mem _ (List.mem_cons_self ..))
 have q1 := nmne n1
 have q2 := nmne n2
 have h := made_tri mm bs hbs t ht
 repeat' (first | refine aQ fun K hK => ?_ | ((first | refine aK fun R hR => ?_ | refine aD mixed fun R hR => ?_); simp only [go_sem, eb, em, q1, q2]) | ((first | (refine hR _ ?_; clear hR R) | refine aZ rfl ?_); try refine aP ?_) | ((repeat (fail_if_success refine hK _ ?_); clear hK K); refine hK _ ?_; clear hK K) | refine aT ?_ | refine aF ?_ | refine aB ?_ | ((first | refine CallK.look (enter122) (h) ?_ (⟨fun x hx => by simp only [List.mem_cons, List.not_mem_nil, or_false] at hx; subst hx; exact ⟨Nat.lt_succ_of_lt n2, by simp only [go_sem, em, q2]⟩⟩) (Fr.rfl' _ _) ?_ | refine CallD.look (enter122) (h) ?_ (⟨fun x hx => by simp only [List.mem_cons, List.not_mem_nil, or_false] at hx; subst hx; exact ⟨Nat.lt_succ_of_lt n2, by simp only [go_sem, em, q2]⟩⟩) (Fr.rfl' _ _) (by first | assumption | exact List.cons_ne_nil _ _) ?_); (focus exact aC); simp only [go_sem, eb, em, q1, q2]) | refine aN ?_ | fail)
 (first | refine ret_pure ?_ ?_ ?_ | refine ret_ro ?_ ?_ ?_); focus exact (okA Tryz.ntmps135 Tryz.results135)
 rotate_left; focus exact frA
 simp only [resA, resV, Tryz.results135, go_sem]
 all_goals try exact coA
 all_goals exact co_tm' rfl
end Go.Proofs.YtmeekpinkfpnhabGreat
