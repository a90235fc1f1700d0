/- The unifier: one, of all terms. -/
import Derived.Test.YtmeekpinkfpnhabGreatP19
set_option linter.all false
namespace Go.Proofs.YtmeekpinkfpnhabGreat
open Go.RowKit
def OneSpec (u mm : Nm) (n : Nat) : Prop := ∀ (b : Bs) (x y : Tm) (q : Bool × Bs), oneF n b x y = some q → Tri Tryz.prog 128 [.ptr u 0, .d (tmDV x), .d (tmDV y)] (stE [u, mm] (oL (unL u mm b)) (oL (unL u mm q.2)) (bA q.1))
structure OneB (u mm : Nm) (b : Bs) (a d : Tm) (k : Nat) (h0 : Heap) (σ : St) : Prop where
 s0 : σ.t 0 = .ptr u 0
 s4 : σ.t 4 = .ptr (k, 0) 0
 s5 : σ.t 5 = .ptr (k, 1) 0
 a4 : σ.h (k, 0) = some (.cells 63 [iA a.v, iA a.f, .d (.sl (a.us.map tmDV))])
 a5 : σ.h (k, 1) = some (.cells 63 [iA d.v, iA d.f, .d (.sl (d.us.map tmDV))])
 hu : σ.h u = some (.cells 161 [.map mm])
 hm : σ.h mm = some (.map (bsE b))
 fr : Fr k h0 σ.h
 kk : k < σ.k
theorem tm1_DV (m : Int) : tmDV (.mk m 0 []) = .st [iD m, iD 0, .sl []] := by rw [tmDV_eq]; rfl
theorem one_end {u mm : Nm} {b : Bs} {k : Nat} {h0 h : Heap} (hnd : [u, mm].Nodup) (h1 : u.1 < k) (h2 : mm.1 < k) (hf : FrN k [u, mm] h0 h) : Ag k [u, mm] (oL (unL u mm b)) (stH [u, mm] (oL (unL u mm b)) h) ∧ FrN k [u, mm] h0 (stH [u, mm] (oL (unL u mm b)) h) :=
 ⟨unL_ag hnd h1 h2 (unL_st hnd).1 (unL_st hnd).2, hf.stH _⟩
section
variable {w0 : World} {u mm : Nm} {b : Bs} {a d : Tm} {k n : Nat} {h0 : Heap} {fn : Func} {q : Bool × Bs} (hfn : fn = Tryz.f128) (hnd : [u, mm].Nodup) (hu : u.1 < k) (hm : mm.1 < k)
include hfn hnd hu hm
set_option maxHeartbeats 4000000 in
set_option maxRecDepth 20000 in
theorem one_rest (σ : St) (B : OneB u mm b a d k h0 σ) (ih : OneSpec u mm n) (hq : oneV (oneF n) n b a d = some q)
  {N : Nat} {c : Code} (hN : (Tryz.f128).ntmps = N) (hc : bodyAt (Tryz.f128) [true,true,true,true] = some c) : awp Tryz.prog w0 N c (retQ Tryz.prog fn (stE [u, mm] (oL (unL u mm b)) (oL (unL u mm q.2)) (bA q.1)) h0 k) σ := by
 subst hfn
 obtain rfl := (Tryz.ntmps128).symm.trans hN; obtain rfl := Option.some.inj (show some _ = some c from hc); clear hN hc
 have hF := B.fr
 have hkk := B.kk
 have hne := ltne hkk
 have n1 := nmne (b := σ.k) (Nat.lt_trans hu hkk)
 have n2 := nmne (b := σ.k) (Nat.lt_trans hm hkk)
 have m1 := nmne hu
 have m2 := nmne hm
 have hcl := fun b' => unL_cl (u := u) (mm := mm) (b := b') hm
 have hA := fun (b' : Bs) (h : Heap) => unL_ag (b := b') (h := h) hnd hu hm
 have hd1 : ¬ u = mm := by simpa using hnd
 have d1 : (u = mm) = False := eq_false hd1
 have hFN : FrN k [u, mm] h0 σ.h := FrN.of _ hF
 have hAs := hA b σ.h B.hu B.hm
 have hcq := hcl q.2
 unfold oneV at hq
 cases hd0 : (d.v == 0) with
 | true =>
  rw [if_pos (by simpa using hd0)] at hq
  cases hla : lookB a.v b with
  | some x =>
   have hga := lookB_key hla
   rw [hla] at hq
   have hT := ih b x d q hq
   repeat' (first | refine aQ fun K hK => ?_ | ((first | refine aK fun R hR => ?_ | refine aD mixed fun R hR => ?_); simp only [go_sem, B.s0, B.s4, B.s5, B.a4, B.a5, B.hu, B.hm, hne, n1, n2, m1, m2, hga, hd0, Option.isSome_some]) | ((first | (refine hR _ ?_; clear hR R) | refine aZ rfl ?_); try refine aP ?_) | ((repeat (fail_if_success refine hK _ ?_); clear hK K); refine hK _ ?_; clear hK K) | refine aT ?_ | refine aF ?_ | refine aB ?_ | ((first | refine CallK.chg (enter128) (hT) ?_ (hA b _ (by simp only [go_sem, B.hu, n1, m1]) (by simp only [go_sem, B.hm, n2, m2])) (Fr.rfl' _ _) ?_ | refine CallD.chg (enter128) (hT) ?_ (hA b _ (by simp only [go_sem, B.hu, n1, m1]) (by simp only [go_sem, B.hm, n2, m2])) (Fr.rfl' _ _) (by first | assumption | exact List.cons_ne_nil _ _) ?_); (focus exact aC); simp only [go_sem, B.s0, B.s4, B.s5, B.a4, B.a5, B.hu, B.hm, hne, n1, n2, m1, m2, hga, hd0, Option.isSome_some]) | refine aN ?_ | fail)
   refine ret_st (okA Tryz.ntmps128 Tryz.results128) (by simp only [resA, resV, Tryz.results128, go_sem]; first | exact .dat rfl | exact Co.t2 (.dat rfl) (.dat rfl) | exact Co.t3 (.dat rfl) (.dat rfl) (.dat rfl)) ?_ ?_ ?_
   ·exact (one_end hnd hu hm (by repeat (first | exact FrN.rfl' _ _ _ | assumption | refine FrN.updk ?_ (by omega) _ | refine FrN.stH ?_ _))).1
   ·exact (one_end hnd hu hm (by repeat (first | exact FrN.rfl' _ _ _ | assumption | refine FrN.updk ?_ (by omega) _ | refine FrN.stH ?_ _))).2
   ·exact hcq
  | none =>
   have hga := lookB_no hla
   rw [hla] at hq
   have hT := bind_tri u mm hnd b n a.v d q hq
   repeat' (first | refine aQ fun K hK => ?_ | ((first | refine aK fun R hR => ?_ | refine aD mixed fun R hR => ?_); simp only [go_sem, B.s0, B.s4, B.s5, B.a4, B.a5, B.hu, B.hm, hne, n1, n2, m1, m2, hga, hd0, Option.isSome_none, AV.toD, Option.getD_none]) | ((first | (refine hR _ ?_; clear hR R) | refine aZ rfl ?_); try refine aP ?_) | ((repeat (fail_if_success refine hK _ ?_); clear hK K); refine hK _ ?_; clear hK K) | refine aT ?_ | refine aF ?_ | refine aB ?_ | ((first | refine CallK.chg (enter140) (hT) ?_ (hA b _ (by simp only [go_sem, B.hu, n1, m1]) (by simp only [go_sem, B.hm, n2, m2])) (Fr.rfl' _ _) ?_ | refine CallD.chg (enter140) (hT) ?_ (hA b _ (by simp only [go_sem, B.hu, n1, m1]) (by simp only [go_sem, B.hm, n2, m2])) (Fr.rfl' _ _) (by first | assumption | exact List.cons_ne_nil _ _) ?_); (focus exact aC); simp only [go_sem, B.s0, B.s4, B.s5, B.a4, B.a5, B.hu, B.hm, hne, n1, n2, m1, m2, hga, hd0, Option.isSome_none, AV.toD, Option.getD_none]) | refine aN ?_ | fail)
   refine ret_st (okA Tryz.ntmps128 Tryz.results128) (by simp only [resA, resV, Tryz.results128, go_sem]; first | exact .dat rfl | exact Co.t2 (.dat rfl) (.dat rfl) | exact Co.t3 (.dat rfl) (.dat rfl) (.dat rfl)) ?_ ?_ ?_
   ·exact (one_end hnd hu hm (by repeat (first | exact FrN.rfl' _ _ _ | assumption | refine FrN.updk ?_ (by omega) _ | refine FrN.stH ?_ _))).1
   ·exact (one_end hnd hu hm (by repeat (first | exact FrN.rfl' _ _ _ | assumption | refine FrN.updk ?_ (by omega) _ | refine FrN.stH ?_ _))).2
   ·exact hcq
 | false =>
  rw [if_neg (by simpa using hd0)] at hq
  cases had : (a.v == d.v) with
  | true =>
   rw [if_pos (by simpa using had)] at hq
   cases hq
   have hcl1 := hcl b
   have hv : a.v = d.v := by simpa using had
   cases hla : lookB a.v b with
   | some x =>
    have hga := lookB_key hla
    have hgd : getM d.v (bsE b) = some (tmDV x) := by rw [← hv]; exact hga
    repeat' (first | refine aQ fun K hK => ?_ | ((first | refine aK fun R hR => ?_ | refine aD mixed fun R hR => ?_); simp only [go_sem, B.s0, B.s4, B.s5, B.a4, B.a5, B.hu, B.hm, hne, n1, n2, m1, m2, hga, hgd, hd0, had, Option.isSome_some]) | ((first | (refine hR _ ?_; clear hR R) | refine aZ rfl ?_); try refine aP ?_) | ((repeat (fail_if_success refine hK _ ?_); clear hK K); refine hK _ ?_; clear hK K) | refine aT ?_ | refine aF ?_ | refine aB ?_ | refine aN ?_ | fail)
    refine ret_st (okA Tryz.ntmps128 Tryz.results128) ?_ (by repeat (first | assumption | exact Ag.stN (by assumption) _ _ | refine Ag.updk ?_ (by omega) _)) (by repeat (first | exact FrN.rfl' _ _ _ | assumption | refine FrN.updk ?_ (by omega) _ | refine FrN.stH ?_ _)) (by assumption)
    simp only [resA, resV, Tryz.results128, go_sem]
    all_goals try (first | exact .dat rfl | exact Co.t2 (.dat rfl) (.dat rfl) | exact Co.t3 (.dat rfl) (.dat rfl) (.dat rfl))
   | none =>
    have hga := lookB_no hla
    have hgd : getM d.v (bsE b) = none := by rw [← hv]; exact hga
    repeat' (first | refine aQ fun K hK => ?_ | ((first | refine aK fun R hR => ?_ | refine aD mixed fun R hR => ?_); simp only [go_sem, B.s0, B.s4, B.s5, B.a4, B.a5, B.hu, B.hm, hne, n1, n2, m1, m2, hga, hgd, hd0, had, Option.isSome_none, AV.toD, Option.getD_none]) | ((first | (refine hR _ ?_; clear hR R) | refine aZ rfl ?_); try refine aP ?_) | ((repeat (fail_if_success refine hK _ ?_); clear hK K); refine hK _ ?_; clear hK K) | refine aT ?_ | refine aF ?_ | refine aB ?_ | refine aN ?_ | fail)
    refine ret_st (okA Tryz.ntmps128 Tryz.results128) ?_ (by repeat (first | assumption | exact Ag.stN (by assumption) _ _ | refine Ag.updk ?_ (by omega) _)) (by repeat (first | exact FrN.rfl' _ _ _ | assumption | refine FrN.updk ?_ (by omega) _ | refine FrN.stH ?_ _)) (by assumption)
    simp only [resA, resV, Tryz.results128, go_sem]
    all_goals try (first | exact .dat rfl | exact Co.t2 (.dat rfl) (.dat rfl) | exact Co.t3 (.dat rfl) (.dat rfl) (.dat rfl))
  | false =>
   rw [if_neg (by simpa using had)] at hq
   cases hla : lookB a.v b with
   | some x =>
    have hga := lookB_key hla
    cases hld : lookB d.v b with
    | some y =>
     have hgd := lookB_key hld
     rw [hla, hld] at hq
     dsimp only at hq
     cases hbb : bindF n b d.v a with
     | none => rw [hbb] at hq; cases hq
     | some r =>
      obtain ⟨rb, b1⟩ := r
      have hT1 := bind_tri u mm hnd b n d.v a _ hbb
      rw [hbb] at hq
      cases rb with
      | false =>
       cases hq
       repeat' (first | refine aQ fun K hK => ?_ | ((first | refine aK fun R hR => ?_ | refine aD mixed fun R hR => ?_); simp only [go_sem, B.s0, B.s4, B.s5, B.a4, B.a5, B.hu, B.hm, hne, n1, n2, m1, m2, hga, hgd, hd0, had, Option.isSome_some]) | ((first | (refine hR _ ?_; clear hR R) | refine aZ rfl ?_); try refine aP ?_) | ((repeat (fail_if_success refine hK _ ?_); clear hK K); refine hK _ ?_; clear hK K) | refine aT ?_ | refine aF ?_ | refine aB ?_ | ((first | refine CallK.chg (enter140) (hT1) ?_ (hA b _ (by simp only [go_sem, B.hu, n1, m1]) (by simp only [go_sem, B.hm, n2, m2])) (Fr.rfl' _ _) ?_ | refine CallD.chg (enter140) (hT1) ?_ (hA b _ (by simp only [go_sem, B.hu, n1, m1]) (by simp only [go_sem, B.hm, n2, m2])) (Fr.rfl' _ _) (by first | assumption | exact List.cons_ne_nil _ _) ?_); (focus exact aC); simp only [go_sem, B.s0, B.s4, B.s5, B.a4, B.a5, B.hu, B.hm, hne, n1, n2, m1, m2, hga, hgd, hd0, had, Option.isSome_some]) | refine aN ?_ | fail)
       refine ret_st (okA Tryz.ntmps128 Tryz.results128) (by simp only [resA, resV, Tryz.results128, go_sem]; first | exact .dat rfl | exact Co.t2 (.dat rfl) (.dat rfl) | exact Co.t3 (.dat rfl) (.dat rfl) (.dat rfl)) ?_ ?_ ?_
       ·exact (one_end hnd hu hm (by repeat (first | exact FrN.rfl' _ _ _ | assumption | refine FrN.updk ?_ (by omega) _ | refine FrN.stH ?_ _))).1
       ·exact (one_end hnd hu hm (by repeat (first | exact FrN.rfl' _ _ _ | assumption | refine FrN.updk ?_ (by omega) _ | refine FrN.stH ?_ _))).2
       ·exact hcq
      | true =>
       have hT2 := ih b1 x y q hq
       repeat' (first | refine aQ fun K hK => ?_ | ((first | refine aK fun R hR => ?_ | refine aD mixed fun R hR => ?_); simp only [go_sem, B.s0, B.s4, B.s5, B.a4, B.a5, B.hu, B.hm, hne, n1, n2, m1, m2, hga, hgd, hd0, had, Option.isSome_some]) | ((first | (refine hR _ ?_; clear hR R) | refine aZ rfl ?_); try refine aP ?_) | ((repeat (fail_if_success refine hK _ ?_); clear hK K); refine hK _ ?_; clear hK K) | refine aT ?_ | refine aF ?_ | refine aB ?_ | ((first | refine CallK.chg (enter140) (hT1) ?_ (hA b _ (by simp only [go_sem, B.hu, n1, m1]) (by simp only [go_sem, B.hm, n2, m2])) (Fr.rfl' _ _) ?_ | refine CallD.chg (enter140) (hT1) ?_ (hA b _ (by simp only [go_sem, B.hu, n1, m1]) (by simp only [go_sem, B.hm, n2, m2])) (Fr.rfl' _ _) (by first | assumption | exact List.cons_ne_nil _ _) ?_); (focus exact aC); simp only [go_sem, B.s0, B.s4, B.s5, B.a4, B.a5, B.hu, B.hm, hne, n1, n2, m1, m2, hga, hgd, hd0, had, Option.isSome_some]) | ((first | refine CallK.chg (enter128) (hT2) ?_ (hA b1 _ (by exact (unL_st hnd).1) (by exact (unL_st hnd).2)) (Fr.rfl' _ _) ?_ | refine CallD.chg (enter128) (hT2) ?_ (hA b1 _ (by exact (unL_st hnd).1) (by exact (unL_st hnd).2)) (Fr.rfl' _ _) (by first | assumption | exact List.cons_ne_nil _ _) ?_); (focus exact aC); simp only [go_sem, B.s0, B.s4, B.s5, B.a4, B.a5, B.hu, B.hm, hne, n1, n2, m1, m2, hga, hgd, hd0, had, Option.isSome_some]) | refine aN ?_ | fail)
       refine ret_st (okA Tryz.ntmps128 Tryz.results128) (by simp only [resA, resV, Tryz.results128, go_sem]; first | exact .dat rfl | exact Co.t2 (.dat rfl) (.dat rfl) | exact Co.t3 (.dat rfl) (.dat rfl) (.dat rfl)) ?_ ?_ ?_
       ·exact (one_end hnd hu hm (by repeat (first | exact FrN.rfl' _ _ _ | assumption | refine FrN.updk ?_ (by omega) _ | refine FrN.stH ?_ _))).1
       ·exact (one_end hnd hu hm (by repeat (first | exact FrN.rfl' _ _ _ | assumption | refine FrN.updk ?_ (by omega) _ | refine FrN.stH ?_ _))).2
       ·exact hcq
    | none =>
     have hgd := lookB_no hld
     rw [hla, hld] at hq
     have hT := bind_tri u mm hnd b n d.v a q hq
     repeat' (first | refine aQ fun K hK => ?_ | ((first | refine aK fun R hR => ?_ | refine aD mixed fun R hR => ?_); simp only [go_sem, B.s0, B.s4, B.s5, B.a4, B.a5, B.hu, B.hm, hne, n1, n2, m1, m2, hga, hgd, hd0, had, Option.isSome_some, Option.isSome_none, AV.toD, Option.getD_none]) | ((first | (refine hR _ ?_; clear hR R) | refine aZ rfl ?_); try refine aP ?_) | ((repeat (fail_if_success refine hK _ ?_); clear hK K); refine hK _ ?_; clear hK K) | refine aT ?_ | refine aF ?_ | refine aB ?_ | ((first | refine CallK.chg (enter140) (hT) ?_ (hA b _ (by simp only [go_sem, B.hu, n1, m1]) (by simp only [go_sem, B.hm, n2, m2])) (Fr.rfl' _ _) ?_ | refine CallD.chg (enter140) (hT) ?_ (hA b _ (by simp only [go_sem, B.hu, n1, m1]) (by simp only [go_sem, B.hm, n2, m2])) (Fr.rfl' _ _) (by first | assumption | exact List.cons_ne_nil _ _) ?_); (focus exact aC); simp only [go_sem, B.s0, B.s4, B.s5, B.a4, B.a5, B.hu, B.hm, hne, n1, n2, m1, m2, hga, hgd, hd0, had, Option.isSome_some, Option.isSome_none, AV.toD, Option.getD_none]) | refine aN ?_ | fail)
     refine ret_st (okA Tryz.ntmps128 Tryz.results128) (by simp only [resA, resV, Tryz.results128, go_sem]; first | exact .dat rfl | exact Co.t2 (.dat rfl) (.dat rfl) | exact Co.t3 (.dat rfl) (.dat rfl) (.dat rfl)) ?_ ?_ ?_
     ·exact (one_end hnd hu hm (by repeat (first | exact FrN.rfl' _ _ _ | assumption | refine FrN.updk ?_ (by omega) _ | refine FrN.stH ?_ _))).1
     ·exact (one_end hnd hu hm (by repeat (first | exact FrN.rfl' _ _ _ | assumption | refine FrN.updk ?_ (by omega) _ | refine FrN.stH ?_ _))).2
     ·exact hcq
   | none =>
    have hga := lookB_no hla
    cases hld : lookB d.v b with
    | some y =>
     have hgd := lookB_key hld
     rw [hla, hld] at hq
     have hT := bind_tri u mm hnd b n a.v d q hq
     repeat' (first | refine aQ fun K hK => ?_ | ((first | refine aK fun R hR => ?_ | refine aD mixed fun R hR => ?_); simp only [go_sem, B.s0, B.s4, B.s5, B.a4, B.a5, B.hu, B.hm, hne, n1, n2, m1, m2, hga, hgd, hd0, had, Option.isSome_some, Option.isSome_none, AV.toD, Option.getD_none]) | ((first | (refine hR _ ?_; clear hR R) | refine aZ rfl ?_); try refine aP ?_) | ((repeat (fail_if_success refine hK _ ?_); clear hK K); refine hK _ ?_; clear hK K) | refine aT ?_ | refine aF ?_ | refine aB ?_ | ((first | refine CallK.chg (enter140) (hT) ?_ (hA b _ (by simp only [go_sem, B.hu, n1, m1]) (by simp only [go_sem, B.hm, n2, m2])) (Fr.rfl' _ _) ?_ | refine CallD.chg (enter140) (hT) ?_ (hA b _ (by simp only [go_sem, B.hu, n1, m1]) (by simp only [go_sem, B.hm, n2, m2])) (Fr.rfl' _ _) (by first | assumption | exact List.cons_ne_nil _ _) ?_); (focus exact aC); simp only [go_sem, B.s0, B.s4, B.s5, B.a4, B.a5, B.hu, B.hm, hne, n1, n2, m1, m2, hga, hgd, hd0, had, Option.isSome_some, Option.isSome_none, AV.toD, Option.getD_none]) | refine aN ?_ | fail)
     refine ret_st (okA Tryz.ntmps128 Tryz.results128) (by simp only [resA, resV, Tryz.results128, go_sem]; first | exact .dat rfl | exact Co.t2 (.dat rfl) (.dat rfl) | exact Co.t3 (.dat rfl) (.dat rfl) (.dat rfl)) ?_ ?_ ?_
     ·exact (one_end hnd hu hm (by repeat (first | exact FrN.rfl' _ _ _ | assumption | refine FrN.updk ?_ (by omega) _ | refine FrN.stH ?_ _))).1
     ·exact (one_end hnd hu hm (by repeat (first | exact FrN.rfl' _ _ _ | assumption | refine FrN.updk ?_ (by omega) _ | refine FrN.stH ?_ _))).2
     ·exact hcq
    | none =>
     have hgd := lookB_no hld
     rw [hla, hld] at hq
     have hT := bind_tri u mm hnd b n _ _ q hq
     rw [tm1_DV] at hT
     repeat' (first | refine aQ fun K hK => ?_ | ((first | refine aK fun R hR => ?_ | refine aD mixed fun R hR => ?_); simp only [go_sem, B.s0, B.s4, B.s5, B.a4, B.a5, B.hu, B.hm, hne, n1, n2, m1, m2, hga, hgd, hd0, had, Option.isSome_none, AV.toD, Option.getD_none]) | ((first | (refine hR _ ?_; clear hR R) | refine aZ rfl ?_); try refine aP ?_) | ((repeat (fail_if_success refine hK _ ?_); clear hK K); refine hK _ ?_; clear hK K) | refine aT ?_ | refine aF ?_ | refine aB ?_ | ((first | refine CallK.chg (enter140) (hT) ?_ (hA b _ (by simp only [go_sem, B.hu, n1, m1]) (by simp only [go_sem, B.hm, n2, m2])) (Fr.rfl' _ _) ?_ | refine CallD.chg (enter140) (hT) ?_ (hA b _ (by simp only [go_sem, B.hu, n1, m1]) (by simp only [go_sem, B.hm, n2, m2])) (Fr.rfl' _ _) (by first | assumption | exact List.cons_ne_nil _ _) ?_); (focus exact aC); simp only [go_sem, B.s0, B.s4, B.s5, B.a4, B.a5, B.hu, B.hm, hne, n1, n2, m1, m2, hga, hgd, hd0, had, Option.isSome_none, AV.toD, Option.getD_none]) | refine aN ?_ | fail)
     refine ret_st (okA Tryz.ntmps128 Tryz.results128) (by simp only [resA, resV, Tryz.results128, go_sem]; first | exact .dat rfl | exact Co.t2 (.dat rfl) (.dat rfl) | exact Co.t3 (.dat rfl) (.dat rfl) (.dat rfl)) ?_ ?_ ?_
     ·exact (one_end hnd hu hm (by repeat (first | exact FrN.rfl' _ _ _ | assumption | refine FrN.updk ?_ (by omega) _ | refine FrN.stH ?_ _))).1
     ·exact (one_end hnd hu hm (by repeat (first | exact FrN.rfl' _ _ _ | assumption | refine FrN.updk ?_ (by omega) _ | refine FrN.stH ?_ _))).2
     ·exact hcq
end
theorem one_at {n : Nat} {b : Bs} {x y : Tm} {q : Bool × Bs} (h : oneF (n + 1) b x y = some q) : ∃ a d, rootF n b x = some a ∧ rootF n b y = some d ∧ (if a.v = 0 ∧ d.v = 0 then
    if a.f = d.f then (if a.us.length = d.us.length then eqO (fun x y s => oneF n s x y) a.us d.us b else some (false, b)) else some (false, b)
   else if a.v = 0 then oneV (oneF n) n b d a else oneV (oneF n) n b a d) = some q := by
 rw [oneF] at h
 cases ha : rootF n b x with
 | none => rw [ha] at h; cases h
 | some a =>
  cases hd : rootF n b y with
  | none => rw [ha, hd] at h; cases h
  | some d => rw [ha, hd] at h; exact ⟨a, d, rfl, rfl, h⟩
set_option maxHeartbeats 4000000 in
set_option maxRecDepth 20000 in
theorem uone_tri (u mm : Nm) (hnd : [u, mm].Nodup) : ∀ n : Nat, OneSpec u mm n := by
 intro n
 induction n with
 | zero => intro b x y q h; simp [oneF] at h
 | succ n ih =>
  intro b x y q h
  obtain ⟨a, d, ha, hd, hq⟩ := one_at h
  have r1 := root_tri u mm b n x a ha
  have r2 := root_tri u mm b n y d hd
  refine aES Tryz.func128 rfl Tryz.ntmps128 fun w0 h0 k hag => ?_
  have hg := Ag.toL (l := unL u mm b) hnd hag
  have g1 := hg (u, .cells 161 [.map mm]) (by simp)
  have g2 := hg (mm, .map (bsE b)) (by simp)
  have n1 := nmne g1.1
  have n2 := nmne g2.1
  have hcq := unL_cl (u := u) (b := q.2) g2.1
  have hro := unR_ok (u := u) (mm := mm) (b := b) g1.1 g2.1 g1.2 g2.2
  cases h1 : (a.v == 0) with
  | true =>
   have h1' : a.v = 0 := by simpa using h1
   cases h2 : (d.v == 0) with
   | true =>
    rw [if_pos ⟨h1', by simpa using h2⟩] at hq
    cases h3 : (a.f == d.f) with
    | true =>
     rw [if_pos (by simpa using h3)] at hq
     have hT := equalO_tri (fun s => oL (unL u mm s)) [u, mm] 128 [.ptr u 0] [] (fun x y s => oneF n s x y) (fun s k' hk => unL_cl (hk mm (by simp))) (enter128) a.us d.us (fun x _ y _ s q hq => ih s x y q hq) b q hq
     repeat' (first | refine aQ fun K hK => ?_ | ((first | refine aK fun R hR => ?_ | refine aD mixed fun R hR => ?_); simp only [go_sem, g1.2, g2.2, n1, n2, h1, h2, h3]) | ((first | (refine hR _ ?_; clear hR R) | refine aZ rfl ?_); try refine aP ?_) | ((repeat (fail_if_success refine hK _ ?_); clear hK K); refine hK _ ?_; clear hK K) | refine aT ?_ | refine aF ?_ | refine aB ?_ | ((first | refine CallK.look (enter138) (r1) ?_ (by assumption) frA ?_ | refine CallD.look (enter138) (r1) ?_ (by assumption) frA (by first | assumption | exact List.cons_ne_nil _ _) ?_); (focus exact aC); simp only [go_sem, g1.2, g2.2, n1, n2, h1, h2, h3]) | ((first | refine CallK.look (enter138) (r2) ?_ (by assumption) frA ?_ | refine CallD.look (enter138) (r2) ?_ (by assumption) frA (by first | assumption | exact List.cons_ne_nil _ _) ?_); (focus exact aC); simp only [go_sem, g1.2, g2.2, n1, n2, h1, h2, h3]) | ((first | refine CallK.chg (enter139) (hT) ?_ (unL_ag hnd g1.1 g2.1 (by simp only [go_sem, g1.2, n1]) (by simp only [go_sem, g2.2, n2])) (Fr.rfl' _ _) ?_ | refine CallD.chg (enter139) (hT) ?_ (unL_ag hnd g1.1 g2.1 (by simp only [go_sem, g1.2, n1]) (by simp only [go_sem, g2.2, n2])) (Fr.rfl' _ _) (by first | assumption | exact List.cons_ne_nil _ _) ?_); (focus exact aC); simp only [go_sem, g1.2, g2.2, n1, n2, h1, h2, h3]) | refine aN ?_ | fail)
     refine ret_st (okA Tryz.ntmps128 Tryz.results128) (by simp only [resA, resV, Tryz.results128, go_sem]; first | exact .dat rfl | exact Co.t2 (.dat rfl) (.dat rfl) | exact Co.t3 (.dat rfl) (.dat rfl) (.dat rfl)) ?_ ?_ ?_
     ·exact (one_end hnd g1.1 g2.1 (by repeat (first | exact FrN.rfl' _ _ _ | assumption | refine FrN.updk ?_ (by omega) _ | refine FrN.stH ?_ _))).1
     ·exact (one_end hnd g1.1 g2.1 (by repeat (first | exact FrN.rfl' _ _ _ | assumption | refine FrN.updk ?_ (by omega) _ | refine FrN.stH ?_ _))).2
     ·exact hcq
    | false =>
     rw [if_neg (by simpa using h3)] at hq
     cases hq
     repeat' (first | refine aQ fun K hK => ?_ | ((first | refine aK fun R hR => ?_ | refine aD mixed fun R hR => ?_); simp only [go_sem, g1.2, g2.2, n1, n2, h1, h2, h3]) | ((first | (refine hR _ ?_; clear hR R) | refine aZ rfl ?_); try refine aP ?_) | ((repeat (fail_if_success refine hK _ ?_); clear hK K); refine hK _ ?_; clear hK K) | refine aT ?_ | refine aF ?_ | refine aB ?_ | ((first | refine CallK.look (enter138) (r1) ?_ (by assumption) frA ?_ | refine CallD.look (enter138) (r1) ?_ (by assumption) frA (by first | assumption | exact List.cons_ne_nil _ _) ?_); (focus exact aC); simp only [go_sem, g1.2, g2.2, n1, n2, h1, h2, h3]) | ((first | refine CallK.look (enter138) (r2) ?_ (by assumption) frA ?_ | refine CallD.look (enter138) (r2) ?_ (by assumption) frA (by first | assumption | exact List.cons_ne_nil _ _) ?_); (focus exact aC); simp only [go_sem, g1.2, g2.2, n1, n2, h1, h2, h3]) | refine aN ?_ | fail)
     refine ret_st (okA Tryz.ntmps128 Tryz.results128) ?_ (by repeat (first | assumption | exact Ag.stN (by assumption) _ _ | refine Ag.updk ?_ (by omega) _)) (by repeat (first | exact FrN.rfl' _ _ _ | assumption | refine FrN.updk ?_ (by omega) _ | refine FrN.stH ?_ _)) (by assumption)
     simp only [resA, resV, Tryz.results128, go_sem]
     all_goals try (first | exact .dat rfl | exact Co.t2 (.dat rfl) (.dat rfl) | exact Co.t3 (.dat rfl) (.dat rfl) (.dat rfl))
   | false =>
    rw [if_neg (fun h => by simp [h.2] at h2), if_pos h1'] at hq
    have fin := fun σ B => one_rest (w0 := w0) (b := b) (a := d) (d := a) (k := k) (n := n) (h0 := h0) (q := q) (fn := Tryz.f128) rfl hnd g1.1 g2.1 σ B
    repeat' (first | refine fin _ ?_ ih hq rfl rfl | refine aQ fun K hK => ?_ | ((first | refine aK fun R hR => ?_ | refine aD mixed fun R hR => ?_); simp only [go_sem, g1.2, g2.2, n1, n2, h1, h2]) | ((first | (refine hR _ ?_; clear hR R) | refine aZ rfl ?_); try refine aP ?_) | ((repeat (fail_if_success refine hK _ ?_); clear hK K); refine hK _ ?_; clear hK K) | refine aT ?_ | refine aF ?_ | refine aB ?_ | ((first | refine CallK.look (enter138) (r1) ?_ (by assumption) frA ?_ | refine CallD.look (enter138) (r1) ?_ (by assumption) frA (by first | assumption | exact List.cons_ne_nil _ _) ?_); (focus exact aC); simp only [go_sem, g1.2, g2.2, n1, n2, h1, h2]) | ((first | refine CallK.look (enter138) (r2) ?_ (by assumption) frA ?_ | refine CallD.look (enter138) (r2) ?_ (by assumption) frA (by first | assumption | exact List.cons_ne_nil _ _) ?_); (focus exact aC); simp only [go_sem, g1.2, g2.2, n1, n2, h1, h2]) | refine aN ?_ | fail)
    constructor <;> first | (simp only [go_sem, g1.2, g2.2, n1, n2]; done) | (simp only [go_sem]; omega) | (dsimp only; omega) | exact frA
  | false =>
   rw [if_neg (fun h => by simp [h.1] at h1), if_neg (by simpa using h1)] at hq
   have fin := fun σ B => one_rest (w0 := w0) (b := b) (a := a) (d := d) (k := k) (n := n) (h0 := h0) (q := q) (fn := Tryz.f128) rfl hnd g1.1 g2.1 σ B
   repeat' (first | refine fin _ ?_ ih hq rfl rfl | refine aQ fun K hK => ?_ | ((first | refine aK fun R hR => ?_ | refine aD mixed fun R hR => ?_); simp only [go_sem, g1.2, g2.2, n1, n2, h1]) | ((first | (refine hR _ ?_; clear hR R) | refine aZ rfl ?_); try refine aP ?_) | ((repeat (fail_if_success refine hK _ ?_); clear hK K); refine hK _ ?_; clear hK K) | refine aT ?_ | refine aF ?_ | refine aB ?_ | ((first | refine CallK.look (enter138) (r1) ?_ (by assumption) frA ?_ | refine CallD.look (enter138) (r1) ?_ (by assumption) frA (by first | assumption | exact List.cons_ne_nil _ _) ?_); (focus exact aC); simp only [go_sem, g1.2, g2.2, n1, n2, h1]) | ((first | refine CallK.look (enter138) (r2) ?_ (by assumption) frA ?_ | refine CallD.look (enter138) (r2) ?_ (by assumption) frA (by first | assumption | exact List.cons_ne_nil _ _) ?_); (focus exact aC); simp only [go_sem, g1.2, g2.2, n1, n2, h1]) | refine aN ?_ | fail)
   constructor <;> first | (simp only [go_sem, g1.2, g2.2, n1, n2]; done) | (simp only [go_sem]; omega) | (dsimp only; omega) | exact frA
end Go.Proofs.YtmeekpinkfpnhabGreat
