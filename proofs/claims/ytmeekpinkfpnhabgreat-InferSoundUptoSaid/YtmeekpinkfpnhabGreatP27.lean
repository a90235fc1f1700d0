/- Package infer: made. -/
import Derived.Test.YtmeekpinkfpnhabGreatP10
import Derived.Test.YtmeekpinkfpnhabGreatP13
import Derived.Test.YtmeekpinkfpnhabGreatP14
import Derived.Test.YtmeekpinkfpnhabGreatP26
set_option linter.all false
namespace Go.Proofs.YtmeekpinkfpnhabGreat
open Go.RowKit
structure Small (c : List Lt) : Prop where
 len : c.length ≤ 1000
 a : ∀ l ∈ c, l.a.size ≤ 1000
 b : ∀ l ∈ c, l.b.size ≤ 1000
theorem small_sizes : ∀ c : List Lt, (∀ l ∈ c, l.a.size ≤ 1000 ∧ l.b.size ≤ 1000) → Tm.size.sizes (termsOf c) ≤ 2000 * c.length
 | [], _ => by simp [termsOf, Tm.size.sizes]
 | l :: c, h => by
  have h1 := h l (by simp)
  have h4 := small_sizes c fun x hx => h x (by simp [hx])
  have : termsOf (l :: c) = l.a :: l.b :: termsOf c := rfl
  rw [this, Tm.size.sizes, Tm.size.sizes, List.length_cons]
  omega
theorem Small.sub {c d : List Lt} (h : Small c) (hl : d.length ≤ c.length) (hm : ∀ l ∈ d, l ∈ c) : Small d := ⟨by have := h.len; omega, fun l hl => h.a l (hm l hl), fun l hl => h.b l (hm l hl)⟩
theorem Small.keep {c : List Lt} (h : Small c) : Small (keepG [] c) := by
 rw [keep_nil]; exact h.sub (keepR_len c []) fun l hl => keepR_mem hl
theorem Small.sizes {c : List Lt} (h : Small c) : Tm.size.sizes (termsOf c) ≤ 4000000 := by
 have := small_sizes c fun l hl => ⟨h.a l hl, h.b l hl⟩
 have := h.len
 omega
theorem Small.vars {c : List Lt} (h : Small c) : (addVs [] ((termsOf c).flatMap pre)).length ≤ 4000000 := by
 have h1 := addVs_len ((termsOf c).flatMap pre) []
 rw [← preL_flat, preL_len] at h1
 have := h.sizes
 rw [← preL_flat]
 simp at h1; omega
theorem keepG_at {o c : List Lt} {i : Nat} (hi : i < c.length) : keepG o (c.drop i) = if dropB o c[i] = true then keepG o (c.drop (i + 1)) else keepG (o ++ [c[i]]) (c.drop (i + 1)) := by
 rw [List.drop_eq_getElem_cons hi, keepG]
theorem lookB_none {v : Int} : ∀ {b : Bs}, (∀ p ∈ b, p.1 ≠ v) → lookB v b = none
 | [], _ => rfl
 | p :: b, h => by
  rw [lookB, if_neg (fun e => h p (by simp) e.symm)]
  exact lookB_none fun q hq => h q (by simp [hq])
theorem num_take {V : List Int} {i : Nat} (hi : i < V.length) : numBs (V.take (i + 1)) 0 = numBs (V.take i) 0 ++ [(V[i], .mk ((i : Int) + 1) 0 [])] := by
 rw [List.take_succ_eq_append_getElem hi, numBs_append, List.length_take, Nat.min_eq_left (by omega)]
 simp [numBs]
theorem num_none {V : List Int} (hn : V.Nodup) {i : Nat} (hi : i < V.length) : lookB V[i] (numBs (V.take i) 0) = none := by
 refine lookB_none fun p hp e => ?_
 have := (numBs_mem hp).1
 rw [e] at this
 obtain ⟨j, hj, h2⟩ := List.getElem_of_mem this
 rw [List.length_take] at hj
 rw [List.getElem_take] at h2
 have := (List.getElem_inj hn).1 h2
 omega
theorem tm_leaf (v f : Int) : DV.st [iD v, iD f, .sl []] = tmDV (.mk v f []) := by rw [tmDV_eq]; rfl
set_option maxHeartbeats 4000000 in
set_option maxRecDepth 20000 in
theorem neat_tri (c : List Lt) (hc : Small c) : Tri Tryz.prog 120 [.d (clDV c)] (pure' (.d (clDV (neatG c)))) := by
 have hcl := hc.len
 refine aE Tryz.func120 rfl Tryz.ntmps120 fun w0 h0 k hrd hwr => ?_
 repeat' (first | refine awp_ghost (ghost_nil (i := 3) (e := 66) rfl) ?_ | refine aQ fun K hK => ?_ | ((first | refine aK fun R hR => ?_ | refine aD mixed fun R hR => ?_); simp only [go_sem]) | ((first | (refine hR _ ?_; clear hR R) | refine aZ rfl ?_); try refine aP ?_) | ((repeat (fail_if_success refine hK _ ?_); clear hK K); refine hK _ ?_; clear hK K) | refine aT ?_ | refine aF ?_ | refine aB ?_ | refine aN ?_ | fail)
 refine awp_loop (fun σ => ∃ (i : Nat) (o : List Lt), σ.t 3 = .own (k + 1 + 1, 0) (o.map ltDV) ∧ σ.t 9 = .d (clDV c) ∧ σ.t 10 = iA c.length ∧ σ.t 11 = iA i ∧
  σ.h (k + 1 + 1, 0) = some (.perm 66 o.length) ∧ Fr k h0 σ.h ∧ k + 1 + 1 < σ.k ∧ i ≤ c.length ∧ o.length ≤ i ∧ keepG o (c.drop i) = keepG [] c) (fun σ => c.length - (intOf' (σ.t 11)).toNat) ?_ ?_
 ·refine ⟨0, [], ?_⟩
  simp only [go_sem, List.drop_zero, List.map_nil]
  and_intros; all_goals try (first | rfl | omega | assumption | exact anA)
 ·rintro σ ⟨i, o, s3, s9, s10, s11, sh, hF, hk, hi, ho, hv⟩
  have hne2 := ltne hk
  rcases Nat.lt_or_ge i c.length with hlt | hge
  ·have hz : (i : Int) < (c.length : Int) := by omega
   have e1 : (c.map ltDV).getD i default = ltDV c[i] := nth_map ltDV hlt _
   have etk : o.map ltDV ++ [ltDV c[i]] = (o ++ [c[i]]).map ltDV := by simp
   rw [keepG_at hlt] at hv
   have hcf := containsF_lits o (by omega) 133 (enter133) [.ptr (σ.k + 1, 2) 0] (ltO (σ.k + 1, 2) c[i]) (fun x => x.y == c[i].y && sidesB x c[i]) (fun x _ => neat1_tri (σ.k + 1, 2) c[i] x)
   cases hy : c[i].y with
   | false =>
    cases hs : same c[i].a c[i].b with
    | true =>
     have hd : dropB o c[i] = true := by unfold dropB; rw [hy, hs]; rfl
     rw [if_pos hd] at hv
     repeat' (first | refine aQ fun K hK => ?_ | ((first | refine aK fun R hR => ?_ | refine aD mixed fun R hR => ?_); simp only [go_sem, s3, s9, s10, s11, sh, hz, e1, hne2, hy, hs, List.length_map, Int.toNat_natCast]) | ((first | (refine hR _ ?_; clear hR R) | refine aZ rfl ?_); try refine aP ?_) | ((repeat (fail_if_success refine hK _ ?_); clear hK K); refine hK _ ?_; clear hK K) | refine aT ?_ | refine aF ?_ | refine aB ?_ | ((first | refine CallK.pure (enter132) (same_tri c[i].a c[i].b) ?_ ?_ | refine CallD.pure (enter132) (same_tri c[i].a c[i].b) ?_ ?_); (focus exact aC); simp only [go_sem, s3, s9, s10, s11, sh, hz, e1, hne2, hy, hs, List.length_map, Int.toNat_natCast]) | refine aN ?_ | fail)
     refine ⟨⟨i + 1, o, ?_⟩, ?_⟩
     rotate_left
     ·simp only [go_sem, s3, s9, s10, s11, sh, hne2, List.length_map]; omega
     simp only [go_sem, s3, s9, s10, s11, sh, hne2, List.length_map]
     and_intros; all_goals try (first | rfl | omega | assumption | exact anA)
    | false =>
     have hd : dropB o c[i] = o.any fun x => x.y == c[i].y && sidesB x c[i] := by unfold dropB; rw [hs, Bool.and_false, Bool.false_or]
     rw [hd] at hv
     cases hq : o.any fun x => x.y == c[i].y && sidesB x c[i] with
     | true =>
      rw [hq] at hcf hv
      rw [if_pos rfl] at hv
      repeat' (first | refine aQ fun K hK => ?_ | ((first | refine aK fun R hR => ?_ | refine aD mixed fun R hR => ?_); simp only [go_sem, s3, s9, s10, s11, sh, hz, e1, hne2, hy, hs, List.length_map, Int.toNat_natCast]) | ((first | (refine hR _ ?_; clear hR R) | refine aZ rfl ?_); try refine aP ?_) | ((repeat (fail_if_success refine hK _ ?_); clear hK K); refine hK _ ?_; clear hK K) | refine aT ?_ | refine aF ?_ | refine aB ?_ | ((first | refine CallK.pure (enter132) (same_tri c[i].a c[i].b) ?_ ?_ | refine CallD.pure (enter132) (same_tri c[i].a c[i].b) ?_ ?_ | refine CallK.look (enter56) (hcf) ?_ (roLt (k := σ.k + 1 + 1) (Nat.lt_succ_self _) (by simp only [go_sem, ltC, hy])) (Fr.rfl' _ _) ?_ | refine CallD.look (enter56) (hcf) ?_ (roLt (k := σ.k + 1 + 1) (Nat.lt_succ_self _) (by simp only [go_sem, ltC, hy])) (Fr.rfl' _ _) (by first | assumption | exact List.cons_ne_nil _ _) ?_); (focus exact aC); simp only [go_sem, s3, s9, s10, s11, sh, hz, e1, hne2, hy, hs, List.length_map, Int.toNat_natCast]) | refine aN ?_ | fail)
      refine ⟨⟨i + 1, o, ?_⟩, ?_⟩
      rotate_left
      ·simp only [go_sem, s3, s9, s10, s11, sh, hne2, List.length_map]; omega
      simp only [go_sem, s3, s9, s10, s11, sh, hne2, List.length_map]
      and_intros; all_goals try (first | rfl | omega | assumption | exact anA)
     | false =>
      rw [hq] at hcf hv
      rw [if_neg (by simp)] at hv
      repeat' (first | refine aQ fun K hK => ?_ | ((first | refine aK fun R hR => ?_ | refine aD mixed fun R hR => ?_); simp only [go_sem, s3, s9, s10, s11, sh, hz, e1, hne2, hy, hs, List.length_map, Int.toNat_natCast]) | ((first | (refine hR _ ?_; clear hR R) | refine aZ rfl ?_); try refine aP ?_) | ((repeat (fail_if_success refine hK _ ?_); clear hK K); refine hK _ ?_; clear hK K) | refine aT ?_ | refine aF ?_ | refine aB ?_ | ((first | refine CallK.pure (enter132) (same_tri c[i].a c[i].b) ?_ ?_ | refine CallD.pure (enter132) (same_tri c[i].a c[i].b) ?_ ?_ | refine CallK.look (enter56) (hcf) ?_ (roLt (k := σ.k + 1 + 1) (Nat.lt_succ_self _) (by simp only [go_sem, ltC, hy])) (Fr.rfl' _ _) ?_ | refine CallD.look (enter56) (hcf) ?_ (roLt (k := σ.k + 1 + 1) (Nat.lt_succ_self _) (by simp only [go_sem, ltC, hy])) (Fr.rfl' _ _) (by first | assumption | exact List.cons_ne_nil _ _) ?_); (focus exact aC); simp only [go_sem, s3, s9, s10, s11, sh, hz, e1, hne2, hy, hs, List.length_map, Int.toNat_natCast]) | refine aN ?_ | fail)
      have ely : DV.st [bD false, iD c[i].a.v, iD c[i].a.f, .sl (c[i].a.us.map tmDV), iD c[i].b.v, iD c[i].b.f, .sl (c[i].b.us.map tmDV)] = ltDV c[i] := by rw [ltDV, hy]
      refine ⟨⟨i + 1, o ++ [c[i]], ?_⟩, ?_⟩
      rotate_left
      ·simp only [go_sem, s3, s9, s10, s11, sh, hne2, ely, etk, List.length_map]; omega
      simp only [go_sem, s3, s9, s10, s11, sh, hne2, ely, etk, List.length_map]
      and_intros; all_goals try (first | rfl | omega | assumption | exact anA)
      all_goals (simp only [List.length_append, List.length_singleton]; omega)
   | true =>
    have hd : dropB o c[i] = o.any fun x => x.y == c[i].y && sidesB x c[i] := by unfold dropB; rw [hy]; rfl
    rw [hd] at hv
    cases hq : o.any fun x => x.y == c[i].y && sidesB x c[i] with
    | true =>
     rw [hq] at hcf hv
     rw [if_pos rfl] at hv
     repeat' (first | refine aQ fun K hK => ?_ | ((first | refine aK fun R hR => ?_ | refine aD mixed fun R hR => ?_); simp only [go_sem, s3, s9, s10, s11, sh, hz, e1, hne2, hy, List.length_map, Int.toNat_natCast]) | ((first | (refine hR _ ?_; clear hR R) | refine aZ rfl ?_); try refine aP ?_) | ((repeat (fail_if_success refine hK _ ?_); clear hK K); refine hK _ ?_; clear hK K) | refine aT ?_ | refine aF ?_ | refine aB ?_ | ((first | refine CallK.look (enter56) (hcf) ?_ (roLt (k := σ.k + 1 + 1) (Nat.lt_succ_self _) (by simp only [go_sem, ltC, hy])) (Fr.rfl' _ _) ?_ | refine CallD.look (enter56) (hcf) ?_ (roLt (k := σ.k + 1 + 1) (Nat.lt_succ_self _) (by simp only [go_sem, ltC, hy])) (Fr.rfl' _ _) (by first | assumption | exact List.cons_ne_nil _ _) ?_); (focus exact aC); simp only [go_sem, s3, s9, s10, s11, sh, hz, e1, hne2, hy, List.length_map, Int.toNat_natCast]) | refine aN ?_ | fail)
     refine ⟨⟨i + 1, o, ?_⟩, ?_⟩
     rotate_left
     ·simp only [go_sem, s3, s9, s10, s11, sh, hne2, List.length_map]; omega
     simp only [go_sem, s3, s9, s10, s11, sh, hne2, List.length_map]
     and_intros; all_goals try (first | rfl | omega | assumption | exact anA)
    | false =>
     rw [hq] at hcf hv
     rw [if_neg (by simp)] at hv
     repeat' (first | refine aQ fun K hK => ?_ | ((first | refine aK fun R hR => ?_ | refine aD mixed fun R hR => ?_); simp only [go_sem, s3, s9, s10, s11, sh, hz, e1, hne2, hy, List.length_map, Int.toNat_natCast]) | ((first | (refine hR _ ?_; clear hR R) | refine aZ rfl ?_); try refine aP ?_) | ((repeat (fail_if_success refine hK _ ?_); clear hK K); refine hK _ ?_; clear hK K) | refine aT ?_ | refine aF ?_ | refine aB ?_ | ((first | refine CallK.look (enter56) (hcf) ?_ (roLt (k := σ.k + 1 + 1) (Nat.lt_succ_self _) (by simp only [go_sem, ltC, hy])) (Fr.rfl' _ _) ?_ | refine CallD.look (enter56) (hcf) ?_ (roLt (k := σ.k + 1 + 1) (Nat.lt_succ_self _) (by simp only [go_sem, ltC, hy])) (Fr.rfl' _ _) (by first | assumption | exact List.cons_ne_nil _ _) ?_); (focus exact aC); simp only [go_sem, s3, s9, s10, s11, sh, hz, e1, hne2, hy, List.length_map, Int.toNat_natCast]) | refine aN ?_ | fail)
     have ely : DV.st [bD true, iD c[i].a.v, iD c[i].a.f, .sl (c[i].a.us.map tmDV), iD c[i].b.v, iD c[i].b.f, .sl (c[i].b.us.map tmDV)] = ltDV c[i] := by rw [ltDV, hy]
     refine ⟨⟨i + 1, o ++ [c[i]], ?_⟩, ?_⟩
     rotate_left
     ·simp only [go_sem, s3, s9, s10, s11, sh, hne2, ely, etk, List.length_map]; omega
     simp only [go_sem, s3, s9, s10, s11, sh, hne2, ely, etk, List.length_map]
     and_intros; all_goals try (first | rfl | omega | assumption | exact anA)
     all_goals (simp only [List.length_append, List.length_singleton]; omega)
  ·have hz : ¬ ((i : Int) < (c.length : Int)) := by omega
   rw [List.drop_eq_nil_of_le hge, keepG] at hv
   have hsm := hc.keep
   rw [← hv] at hsm
   have hol := hsm.len
   obtain ⟨V, hV⟩ : ∃ V, V = addVs [] ((termsOf o).flatMap pre) := ⟨_, rfl⟩
   have hst := stands_tri (termsOf o) hsm.sizes
   have hVl : V.length ≤ 4000000 := by rw [hV]; exact hsm.vars
   have hVn : V.Nodup := by rw [hV]; exact addVs_nodup (by simp)
   have hfin : neatG c = o.map (mapLt (mapM (madeS (numBs V 0)))) := by unfold neatG; rw [hV, hv]
   rw [← hV] at hst
   repeat' (first | refine aQ fun K hK => ?_ | ((first | refine aK fun R hR => ?_ | refine aD mixed fun R hR => ?_); simp only [go_sem, s3, s9, s10, s11, sh, hz, hne2]) | ((first | (refine hR _ ?_; clear hR R) | refine aZ rfl ?_); try refine aP ?_) | ((repeat (fail_if_success refine hK _ ?_); clear hK K); refine hK _ ?_; clear hK K) | refine aT ?_ | refine aF ?_ | refine aB ?_ | ((first | refine CallK.pure (enter53) (terms_tri o (by omega)) ?_ ?_ | refine CallD.pure (enter53) (terms_tri o (by omega)) ?_ ?_ | refine CallK.pure (enter52) (hst) ?_ ?_ | refine CallD.pure (enter52) (hst) ?_ ?_); (focus exact aC); simp only [go_sem, s3, s9, s10, s11, sh, hz, hne2]) | refine aN ?_ | fail)
   refine awp_loop (fun τ => ∃ j : Nat, τ.t 3 = .own (k + 1 + 1, 0) (o.map ltDV) ∧ τ.t 6 = .ptr (σ.k + 1, 1) 0 ∧ τ.t 38 = .d (.sl (V.map iD)) ∧ τ.t 39 = iA V.length ∧ τ.t 40 = iA j ∧
    τ.h (σ.k + 1, 1) = some (.cells 133 [.map (σ.k + 1, 0)]) ∧ τ.h (σ.k + 1, 0) = some (.map (bsE (numBs (V.take j) 0))) ∧ τ.h (k + 1 + 1, 0) = some (.perm 66 o.length) ∧ Fr k h0 τ.h ∧ σ.k + 1 < τ.k ∧ j ≤ V.length) (fun τ => V.length - (intOf' (τ.t 40)).toNat) ?_ ?_
   ·refine ⟨0, ?_⟩
    simp only [go_sem, s3, sh, hne2, List.take_zero, numBs]
    and_intros; all_goals try (first | rfl | omega | assumption | exact anA)
   ·rintro τ ⟨j, u3, u6, u38, u39, u40, uh, um, up, uF, uk, uj⟩
    have r1 := ltne uk
    have r2 := ltne (show k + 1 + 1 < τ.k by omega)
    have r3 := ltne (show k + 1 < σ.k by omega)
    rcases Nat.lt_or_ge j V.length with jlt | jge
    ·have jz : (j : Int) < (V.length : Int) := by omega
     have e2 : (V.map iD).getD j default = iD V[j] := nth_map iD jlt _
     have hpm := putM_bs (num_none hVn jlt) (.mk ((j : Int) + 1) 0 [])
     rw [← num_take jlt] at hpm
     repeat' (first | refine aQ fun K hK => ?_ | ((first | refine aK fun R hR => ?_ | refine aD mixed fun R hR => ?_); simp only [go_sem, u3, u6, u38, u39, u40, uh, um, up, jz, e2, r1, r2, hpm, tm_leaf, Int.toNat_natCast]) | ((first | (refine hR _ ?_; clear hR R) | refine aZ rfl ?_); try refine aP ?_) | ((repeat (fail_if_success refine hK _ ?_); clear hK K); refine hK _ ?_; clear hK K) | refine aT ?_ | refine aF ?_ | refine aB ?_ | refine aN ?_ | fail)
     refine ⟨⟨j + 1, ?_⟩, ?_⟩
     rotate_left
     ·simp only [go_sem, u3, u6, u38, u39, u40, uh, um, up, r1, r2, r3]; omega
     simp only [go_sem, u3, u6, u38, u39, u40, uh, um, up, r1, r2, r3]
     and_intros; all_goals try (first | rfl | omega | assumption | exact anA)
    ·have jz : ¬ ((j : Int) < (V.length : Int)) := by omega
     obtain rfl : j = V.length := by omega
     rw [List.take_length] at um
     have hbs : ∀ p ∈ numBs V 0, p.2.size ≤ 4000000 := fun p hp => by
      have := (numBs_mem hp).2.1
      have e := p.2.size_eq
      rw [this] at e
      simp [Tm.size.sizes] at e
      omega
     have hea := each_tri 135 [.ptr (σ.k + 1, 1) 0] (bsO (σ.k + 1, 1) (σ.k + 1, 0) (numBs V 0)) (mapM (madeS (numBs V 0))) (enter135) (by simp) o (by omega) (fun l hl => ⟨neat2_tri _ _ _ hbs l.a (by have := hsm.a l hl; omega), neat2_tri _ _ _ hbs l.b (by have := hsm.b l hl; omega)⟩)
     repeat' (first | refine aQ fun K hK => ?_ | ((first | refine aK fun R hR => ?_ | refine aD mixed fun R hR => ?_); simp only [go_sem, u3, u6, u38, u39, u40, uh, um, up, jz, r1, r2]) | ((first | (refine hR _ ?_; clear hR R) | refine aZ rfl ?_); try refine aP ?_) | ((repeat (fail_if_success refine hK _ ?_); clear hK K); refine hK _ ?_; clear hK K) | refine aT ?_ | refine aF ?_ | refine aB ?_ | ((first | refine CallK.look (enter25) (hea) ?_ (roBs (k := τ.k) (by show σ.k + 1 < τ.k; omega) (by show σ.k + 1 < τ.k; omega) (by simp only [go_sem, uh]) (by simp only [go_sem, um])) (Fr.rfl' _ _) ?_ | refine CallD.look (enter25) (hea) ?_ (roBs (k := τ.k) (by show σ.k + 1 < τ.k; omega) (by show σ.k + 1 < τ.k; omega) (by simp only [go_sem, uh]) (by simp only [go_sem, um])) (Fr.rfl' _ _) (by first | assumption | exact List.cons_ne_nil _ _) ?_); (focus exact aC); simp only [go_sem, u3, u6, u38, u39, u40, uh, um, up, jz, r1, r2]) | refine aN ?_ | fail)
     rw [hfin]
     (first | refine ret_pure ?_ ?_ ?_ | refine ret_ro ?_ ?_ ?_); focus exact (okA Tryz.ntmps120 Tryz.results120)
     rotate_left; focus exact frA
     simp only [resA, resV, Tryz.results120, go_sem]
     all_goals try exact coA
     all_goals exact .dat rfl
set_option maxRecDepth 20000 in
theorem ifMade1_tri (b mm : Nm) (bs : Bs) (hbs : ∀ p ∈ bs, p.2.size ≤ 4000000) (t : Tm) (ht : t.size ≤ 4000000) : Tri Tryz.prog 121 [.d (tmDV t), .ptr b 0] (rdE (bsO b mm bs) (.d (tmDV (mapM (madeS bs) t)))) := by
 refine aER Tryz.func121 rfl Tryz.ntmps121 fun w0 h0 k hro => ?_
 obtain ⟨n1, eb⟩ := hro.get _ (List.mem_cons_self ..)
 obtain ⟨n2, em⟩ := hro.get _ (List.mem_cons_of_mem _ (List.mem_cons_self ..))
 have q1 := nmne n1
 have q2 := nmne n2
 have h := made_tri mm bs hbs t ht
 repeat' (first | refine aQ fun K hK => ?_ | ((first | refine aK fun R hR => ?_ | refine aD mixed fun R hR => ?_); simp only [go_sem, eb, em, q1, q2]) | ((first | (refine hR _ ?_; clear hR R) | refine aZ rfl ?_); try refine aP ?_) | ((repeat (fail_if_success refine hK _ ?_); clear hK K); refine hK _ ?_; clear hK K) | refine aT ?_ | refine aF ?_ | refine aB ?_ | ((first | refine CallK.look (enter122) (h) ?_ (⟨fun x hx => by simp only [List.mem_cons, List.not_mem_nil, or_false] at hx; subst hx; exact ⟨Nat.lt_succ_of_lt n2, by simp only [go_sem, em, q2]⟩⟩) (Fr.rfl' _ _) ?_ | refine CallD.look (enter122) (h) ?_ (⟨fun x hx => by simp only [List.mem_cons, List.not_mem_nil, or_false] at hx; subst hx; exact ⟨Nat.lt_succ_of_lt n2, by simp only [go_sem, em, q2]⟩⟩) (Fr.rfl' _ _) (by first | assumption | exact List.cons_ne_nil _ _) ?_); (focus exact aC); simp only [go_sem, eb, em, q1, q2]) | refine aN ?_ | fail)
 (first | refine ret_pure ?_ ?_ ?_ | refine ret_ro ?_ ?_ ?_); focus exact (okA Tryz.ntmps121 Tryz.results121)
 rotate_left; focus exact frA
 simp only [resA, resV, Tryz.results121, go_sem]
 all_goals try exact coA
 all_goals exact co_tm' rfl
def ifMadeAns (bs : Bs) (c : List Lt) : List Lt × Int :=
 if ((termsOf c).any fun t => (rawAns bs t).2 != 0) = true then ([], 2) else if (neatG (c.map (mapLt (mapM (madeS bs))))).length > 8 then ([], 2) else (neatG (c.map (mapLt (mapM (madeS bs)))), 0)
theorem rawAns_two (bs : Bs) (t : Tm) (h : ((rawAns bs t).2 != 0) = true) : (rawAns bs t).2 = 2 := by
 unfold rawAns at h ⊢
 split
 ·rfl
 ·rename_i h2; rw [if_neg h2] at h; simp at h
set_option maxHeartbeats 4000000 in
set_option maxRecDepth 20000 in
theorem ifMade_tri (mm : Nm) (bs : Bs) (hbs : ∀ p ∈ bs, p.2.size ≤ 4000000) (c : List Lt) (hc : c.length ≤ 16) (hsz : ∀ t ∈ termsOf c, t.size ≤ 4000000)
  (hsm : ((termsOf c).any fun t => (rawAns bs t).2 != 0) = false → Small (c.map (mapLt (mapM (madeS bs))))) :
  Tri Tryz.prog 96 [.map mm, .d (clDV c)] (rdE [(mm, .map (bsE bs))] (.tup [.d (clDV (ifMadeAns bs c).1), iA (ifMadeAns bs c).2])) := by
 have htl : (termsOf c).length ≤ 32 := by
  have h2 : ∀ c : List Lt, (termsOf c).length = 2 * c.length := by
   intro c
   induction c with
   | nil => rfl
   | cons l c ih => simp only [termsOf, List.flatMap_cons, List.length_append, List.length_cons] at ih ⊢; rw [ih]; simp; omega
  have := h2 c
  omega
 have hT := terms_tri c (by omega)
 have hraw : ∀ t ∈ termsOf c, _ := fun t ht => raw_tri mm bs hbs t (hsz t ht)
 refine aER Tryz.func96 rfl Tryz.ntmps96 fun w0 h0 k hro => ?_
 obtain ⟨n2, em⟩ := hro.get _ (List.mem_cons_self ..)
 dsimp only at n2 em
 have q2 := nmne n2
 have hro' : ∀ (k' : Nat) (h : Heap), mm.1 < k' → h mm = some (.map (bsE bs)) → RoOK k' [(mm, .map (bsE bs))] h := fun k' h h1 e => ⟨fun x hx => by simp only [List.mem_cons, List.not_mem_nil, or_false] at hx; subst hx; exact ⟨h1, e⟩⟩
 repeat' (first | refine aQ fun K hK => ?_ | ((first | refine aK fun R hR => ?_ | refine aD mixed fun R hR => ?_); simp only [go_sem, em, q2, List.length_map]) | ((first | (refine hR _ ?_; clear hR R) | refine aZ rfl ?_); try refine aP ?_) | ((repeat (fail_if_success refine hK _ ?_); clear hK K); refine hK _ ?_; clear hK K) | refine aT ?_ | refine aF ?_ | refine aB ?_ | ((first | refine CallK.pure (enter53) (hT) ?_ ?_ | refine CallD.pure (enter53) (hT) ?_ ?_); (focus exact aC); simp only [go_sem, em, q2, List.length_map]) | refine aN ?_ | fail)
 refine awp_loop (fun σ => ∃ i : Nat, σ.t 1 = .d (clDV c) ∧ σ.t 2 = .ptr (k, 0) 0 ∧ σ.t 11 = .d (.sl ((termsOf c).map tmDV)) ∧ σ.t 12 = iA (termsOf c).length ∧ σ.t 13 = iA i ∧ σ.h (k, 0) = some (.cells 133 [.map mm]) ∧ Fr k h0 σ.h ∧ k < σ.k ∧ i ≤ (termsOf c).length ∧
  ((termsOf c).drop i).any (fun t => (rawAns bs t).2 != 0) = (termsOf c).any (fun t => (rawAns bs t).2 != 0)) (fun σ => (termsOf c).length - (intOf' (σ.t 13)).toNat) ?_ ?_
 ·refine ⟨0, ?_⟩
  simp only [go_sem, List.drop_zero, List.length_map]
  and_intros; all_goals try (first | rfl | omega | assumption | exact anA)
 ·rintro σ ⟨i, s1, s2, s11, s12, s13, sh, hF, hk, hi, hv⟩
  have hne := ltne hk
  have em' : σ.h mm = some (.map (bsE bs)) := by rw [hF mm n2]; exact em
  have n2' : mm.1 < σ.k := by omega
  have q3 := nmne n2'
  rcases Nat.lt_or_ge i (termsOf c).length with hlt | hge
  ·have hz : (i : Int) < ((termsOf c).length : Int) := by omega
   have e1 : ((termsOf c).map tmDV).getD i default = tmDV (termsOf c)[i] := nth_map tmDV hlt _
   have hr := hraw _ (List.getElem_mem hlt)
   have h2 := rawAns_two bs (termsOf c)[i]
   rw [List.drop_eq_getElem_cons hlt, List.any_cons] at hv
   generalize rawAns bs (termsOf c)[i] = A at *
   cases a1 : (A.2 != 0) with
   | true =>
    rw [a1, Bool.true_or] at hv
    have e2 := h2 a1
    have eA : ifMadeAns bs c = ([], 2) := by unfold ifMadeAns; rw [if_pos hv.symm]
    repeat' (first | refine aQ fun K hK => ?_ | ((first | refine aK fun R hR => ?_ | refine aD mixed fun R hR => ?_); simp only [go_sem, s1, s2, s11, s12, s13, sh, hz, e1, hne, em', q3, a1, Int.toNat_natCast, List.length_map]) | ((first | (refine hR _ ?_; clear hR R) | refine aZ rfl ?_); try refine aP ?_) | ((repeat (fail_if_success refine hK _ ?_); clear hK K); refine hK _ ?_; clear hK K) | refine aT ?_ | refine aF ?_ | refine aB ?_ | ((first | refine CallK.look (enter119) (hr) ?_ (hro' (σ.k + 1 + 1) _ (by omega) (by simp only [go_sem, em', q3])) (Fr.rfl' _ _) ?_ | refine CallD.look (enter119) (hr) ?_ (hro' (σ.k + 1 + 1) _ (by omega) (by simp only [go_sem, em', q3])) (Fr.rfl' _ _) (by first | assumption | exact List.cons_ne_nil _ _) ?_); (focus exact aC); simp only [go_sem, s1, s2, s11, s12, s13, sh, hz, e1, hne, em', q3, a1, Int.toNat_natCast, List.length_map]) | refine aN ?_ | fail)
    (first | refine ret_pure ?_ ?_ ?_ | refine ret_ro ?_ ?_ ?_); focus exact (okA Tryz.ntmps96 Tryz.results96)
    rotate_left; focus exact frA
    simp only [resA, resV, Tryz.results96, go_sem]
    all_goals try exact coA
    all_goals (rw [eA]; exact .t2 (.dat rfl) (.dat (by rw [e2]; rfl)))
   | false =>
    rw [a1, Bool.false_or] at hv
    repeat' (first | refine aQ fun K hK => ?_ | ((first | refine aK fun R hR => ?_ | refine aD mixed fun R hR => ?_); simp only [go_sem, s1, s2, s11, s12, s13, sh, hz, e1, hne, em', q3, a1, Int.toNat_natCast, List.length_map]) | ((first | (refine hR _ ?_; clear hR R) | refine aZ rfl ?_); try refine aP ?_) | ((repeat (fail_if_success refine hK _ ?_); clear hK K); refine hK _ ?_; clear hK K) | refine aT ?_ | refine aF ?_ | refine aB ?_ | ((first | refine CallK.look (enter119) (hr) ?_ (hro' (σ.k + 1 + 1) _ (by omega) (by simp only [go_sem, em', q3])) (Fr.rfl' _ _) ?_ | refine CallD.look (enter119) (hr) ?_ (hro' (σ.k + 1 + 1) _ (by omega) (by simp only [go_sem, em', q3])) (Fr.rfl' _ _) (by first | assumption | exact List.cons_ne_nil _ _) ?_); (focus exact aC); simp only [go_sem, s1, s2, s11, s12, s13, sh, hz, e1, hne, em', q3, a1, Int.toNat_natCast, List.length_map]) | refine aN ?_ | fail)
    refine ⟨⟨i + 1, ?_⟩, ?_⟩
    rotate_left
    ·simp only [go_sem, s1, s2, s11, s12, s13, sh, hne]; omega
    simp only [go_sem, s1, s2, s11, s12, s13, sh, hne]
    and_intros; all_goals try (first | rfl | omega | assumption | exact anA)
  ·have hz : ¬ ((i : Int) < ((termsOf c).length : Int)) := by omega
   rw [List.drop_eq_nil_of_le hge, List.any_nil] at hv
   have hsm := hsm hv.symm
   have hea := each_tri 121 [.ptr (k, 0) 0] (bsO (k, 0) mm bs) (mapM (madeS bs)) (enter121) (by simp) c (by omega) (fun l hl => ⟨ifMade1_tri _ _ _ hbs l.a (hsz _ (termsOf_in hl).1), ifMade1_tri _ _ _ hbs l.b (hsz _ (termsOf_in hl).2)⟩)
   have hnt := neat_tri _ hsm
   have eA : ifMadeAns bs c = if (neatG (c.map (mapLt (mapM (madeS bs))))).length > 8 then ([], 2) else (neatG (c.map (mapLt (mapM (madeS bs)))), 0) := by unfold ifMadeAns; rw [if_neg (by rw [← hv]; decide)]
   generalize neatG (c.map (mapLt (mapM (madeS bs)))) = D at *
   cases hd : decide ((D.length : Int) > 8) with
   | true =>
    rw [if_pos (by simp at hd; omega)] at eA
    repeat' (first | refine aQ fun K hK => ?_ | ((first | refine aK fun R hR => ?_ | refine aD mixed fun R hR => ?_); simp only [go_sem, s1, s2, s11, s12, s13, sh, hz, hne, em', q3, hd, List.length_map]) | ((first | (refine hR _ ?_; clear hR R) | refine aZ rfl ?_); try refine aP ?_) | ((repeat (fail_if_success refine hK _ ?_); clear hK K); refine hK _ ?_; clear hK K) | refine aT ?_ | refine aF ?_ | refine aB ?_ | ((first | refine CallK.look (enter25) (hea) ?_ (roBs (k := σ.k) (by show k < σ.k; omega) n2' (by simp only [go_sem, sh]) (by simp only [go_sem, em'])) (Fr.rfl' _ _) ?_ | refine CallD.look (enter25) (hea) ?_ (roBs (k := σ.k) (by show k < σ.k; omega) n2' (by simp only [go_sem, sh]) (by simp only [go_sem, em'])) (Fr.rfl' _ _) (by first | assumption | exact List.cons_ne_nil _ _) ?_ | refine CallK.pure (enter120) (hnt) ?_ ?_ | refine CallD.pure (enter120) (hnt) ?_ ?_); (focus exact aC); simp only [go_sem, s1, s2, s11, s12, s13, sh, hz, hne, em', q3, hd, List.length_map]) | refine aN ?_ | fail)
    (first | refine ret_pure ?_ ?_ ?_ | refine ret_ro ?_ ?_ ?_); focus exact (okA Tryz.ntmps96 Tryz.results96)
    rotate_left; focus exact frA
    simp only [resA, resV, Tryz.results96, go_sem]
    all_goals try exact coA
    all_goals (rw [eA]; exact .t2 (.dat rfl) (.dat rfl))
   | false =>
    rw [if_neg (by simp at hd; omega)] at eA
    repeat' (first | refine aQ fun K hK => ?_ | ((first | refine aK fun R hR => ?_ | refine aD mixed fun R hR => ?_); simp only [go_sem, s1, s2, s11, s12, s13, sh, hz, hne, em', q3, hd, List.length_map]) | ((first | (refine hR _ ?_; clear hR R) | refine aZ rfl ?_); try refine aP ?_) | ((repeat (fail_if_success refine hK _ ?_); clear hK K); refine hK _ ?_; clear hK K) | refine aT ?_ | refine aF ?_ | refine aB ?_ | ((first | refine CallK.look (enter25) (hea) ?_ (roBs (k := σ.k) (by show k < σ.k; omega) n2' (by simp only [go_sem, sh]) (by simp only [go_sem, em'])) (Fr.rfl' _ _) ?_ | refine CallD.look (enter25) (hea) ?_ (roBs (k := σ.k) (by show k < σ.k; omega) n2' (by simp only [go_sem, sh]) (by simp only [go_sem, em'])) (Fr.rfl' _ _) (by first | assumption | exact List.cons_ne_nil _ _) ?_ | refine CallK.pure (enter120) (hnt) ?_ ?_ | refine CallD.pure (enter120) (hnt) ?_ ?_); (focus exact aC); simp only [go_sem, s1, s2, s11, s12, s13, sh, hz, hne, em', q3, hd, List.length_map]) | refine aN ?_ | fail)
    (first | refine ret_pure ?_ ?_ ?_ | refine ret_ro ?_ ?_ ?_); focus exact (okA Tryz.ntmps96 Tryz.results96)
    rotate_left; focus exact frA
    simp only [resA, resV, Tryz.results96, go_sem]
    all_goals try exact coA
    all_goals (rw [eA]; exact .t2 (.dat rfl) (.dat rfl))
end Go.Proofs.YtmeekpinkfpnhabGreat
