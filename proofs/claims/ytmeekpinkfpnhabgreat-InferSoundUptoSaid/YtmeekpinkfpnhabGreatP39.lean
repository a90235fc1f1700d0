/- The law InferSound: its walk. -/
import Derived.Test.YtmeekpinkfpnhabGreatP14
import Derived.Test.YtmeekpinkfpnhabGreatP35
import Derived.Test.YtmeekpinkfpnhabGreatP38
set_option linter.all false
namespace Go.Proofs.YtmeekpinkfpnhabGreat
open Go.RowKit
attribute [local irreducible] CallK CallD
set_option maxHeartbeats 8000000 in
set_option maxRecDepth 20000 in
theorem inferSound_tri (g : List Int) (l : List (List Lt)) (i : Inf) (sz : Int) (tb : List (List Int)) (hl : l.length ≤ 4000000) (hc : ∀ c ∈ l, c.length ≤ 4000000) (hp : i.place.length ≤ 4000000) (htl : tb.length ≤ 4000000) (htr : ∀ r ∈ tb, r.length ≤ 4000000) :
  Tri Tryz.prog 6 [.d (sgDV g), .d (.sl (l.map clDV)), .d (ifDV i), .d (mdDV sz tb)] (pure' (bA true)) := by
 obtain ⟨a, hI, hok⟩ := infer_any g l i hl hc hp
 cases b1 : (a.2 != 0) with
 | true =>
  have ha := hok.err (by simpa using b1)
  rw [ha] at hI
  have e0 : clDV [] = .sl [] := rfl
  rw [e0] at hI
  clear hok ha
  generalize a.2 = e at *
  refine aE Tryz.func6 rfl Tryz.ntmps6 fun w0 h0 k hrd hwr => ?_
  repeat' (first | refine aQ fun K hK => ?_ | ((first | refine aK fun R hR => ?_ | refine aD mixed fun R hR => ?_); simp only [go_sem, b1, beq_self_eq_true]) | ((first | (refine hR _ ?_; clear hR R) | refine aZ rfl ?_); try refine aP ?_) | ((repeat (fail_if_success refine hK _ ?_); clear hK K); refine hK _ ?_; clear hK K) | refine aT ?_ | refine aF ?_ | refine aB ?_ | ((first | refine CallK.pure (enter15) (inferBegun_tri) ?_ ?_ | refine CallD.pure (enter15) (inferBegun_tri) ?_ ?_ | refine CallK.pure (enter20) (modelBegun_tri) ?_ ?_ | refine CallD.pure (enter20) (modelBegun_tri) ?_ ?_ | refine CallK.pure (enter13) (hI) ?_ ?_ | refine CallD.pure (enter13) (hI) ?_ ?_); (focus exact aC); simp only [go_sem, b1, beq_self_eq_true]) | refine aN ?_ | fail)
  (first | refine ret_pure ?_ ?_ ?_ | refine ret_ro ?_ ?_ ?_); focus exact (okA Tryz.ntmps6 Tryz.results6)
  rotate_left; focus exact frT
  simp only [resA, resV, Tryz.results6, go_sem]
  all_goals try exact coA
  all_goals exact .dat rfl
 | false =>
  have b2 : a.2 = 0 := by simpa using b1
  obtain ⟨hown, ⟨n, hn, hnl⟩, hkm⟩ := hok.ok b2
  have hh := hok.holds b2 sz tb
  rw [b2] at hI
  obtain ⟨kind, left, right, leftAt, rightAt, lt, rt, place⟩ := i
  simp only at hn hkm hh
  subst hn
  have hH0 := mdHolds_tri g sz tb l[n] htl htr (hc _ (List.getElem_mem hnl))
  have hHA := mdHolds_tri g sz tb a.1 htl htr (by have := (clOk_all hown).1; omega)
  have hz : (n : Int) < (l.length : Int) := by omega
  have e1 : (l.map clDV).getD n default = clDV l[n] := nth_map clDV hnl _
  rw [clAt_nat hnl] at hh
  have hfin : hldAns g sz tb l[n] = (true, 0) → (kind = 3 → HoldsA sz tb (clAt l right)) → (hldAns g sz tb a.1).2 = 0 → (hldAns g sz tb a.1).1 = true := fun h1 h2 h3 => by
   obtain ⟨m1, m2⟩ := hld_true h1
   exact hld_of h3 (hh m1 m2 h2)
  clear hh hok b1 b2 hown
  generalize a.1 = A at *
  clear a
  generalize hX0 : hldAns g sz tb l[n] = X0 at *
  generalize hldAns g sz tb A = XA at *
  cases c1 : (X0.2 != 0) with
  | true =>
   refine aE Tryz.func6 rfl Tryz.ntmps6 fun w0 h0 k hrd hwr => ?_
   repeat' (first | refine aQ fun K hK => ?_ | ((first | refine aK fun R hR => ?_ | refine aD mixed fun R hR => ?_); simp only [go_sem, c1, hz, e1, bne_self_eq_false, List.length_map, Int.toNat_natCast]) | ((first | (refine hR _ ?_; clear hR R) | refine aZ rfl ?_); try refine aP ?_) | ((repeat (fail_if_success refine hK _ ?_); clear hK K); refine hK _ ?_; clear hK K) | refine aT ?_ | refine aF ?_ | refine aB ?_ | ((first | refine CallK.pure (enter15) (inferBegun_tri) ?_ ?_ | refine CallD.pure (enter15) (inferBegun_tri) ?_ ?_ | refine CallK.pure (enter20) (modelBegun_tri) ?_ ?_ | refine CallD.pure (enter20) (modelBegun_tri) ?_ ?_ | refine CallK.pure (enter13) (hI) ?_ ?_ | refine CallD.pure (enter13) (hI) ?_ ?_ | refine CallK.pure (enter21) (hH0) ?_ ?_ | refine CallD.pure (enter21) (hH0) ?_ ?_); (focus exact aC); simp only [go_sem, c1, hz, e1, bne_self_eq_false, List.length_map, Int.toNat_natCast]) | refine aN ?_ | fail)
   (first | refine ret_pure ?_ ?_ ?_ | refine ret_ro ?_ ?_ ?_); focus exact (okA Tryz.ntmps6 Tryz.results6)
   rotate_left; focus exact frT
   simp only [resA, resV, Tryz.results6, go_sem]
   all_goals try exact coA
   all_goals exact .dat rfl
  | false =>
   cases c2 : X0.1 with
   | false =>
    refine aE Tryz.func6 rfl Tryz.ntmps6 fun w0 h0 k hrd hwr => ?_
    repeat' (first | refine aQ fun K hK => ?_ | ((first | refine aK fun R hR => ?_ | refine aD mixed fun R hR => ?_); simp only [go_sem, c1, c2, hz, e1, bne_self_eq_false, List.length_map, Int.toNat_natCast]) | ((first | (refine hR _ ?_; clear hR R) | refine aZ rfl ?_); try refine aP ?_) | ((repeat (fail_if_success refine hK _ ?_); clear hK K); refine hK _ ?_; clear hK K) | refine aT ?_ | refine aF ?_ | refine aB ?_ | ((first | refine CallK.pure (enter15) (inferBegun_tri) ?_ ?_ | refine CallD.pure (enter15) (inferBegun_tri) ?_ ?_ | refine CallK.pure (enter20) (modelBegun_tri) ?_ ?_ | refine CallD.pure (enter20) (modelBegun_tri) ?_ ?_ | refine CallK.pure (enter13) (hI) ?_ ?_ | refine CallD.pure (enter13) (hI) ?_ ?_ | refine CallK.pure (enter21) (hH0) ?_ ?_ | refine CallD.pure (enter21) (hH0) ?_ ?_); (focus exact aC); simp only [go_sem, c1, c2, hz, e1, bne_self_eq_false, List.length_map, Int.toNat_natCast]) | refine aN ?_ | fail)
    (first | refine ret_pure ?_ ?_ ?_ | refine ret_ro ?_ ?_ ?_); focus exact (okA Tryz.ntmps6 Tryz.results6)
    rotate_left; focus exact frT
    simp only [resA, resV, Tryz.results6, go_sem]
    all_goals try exact coA
    all_goals exact .dat rfl
   | true =>
    have hX : X0 = (true, 0) := Prod.ext c2 (by simpa using c1)
    cases k3 : (kind == 3) with
    | false =>
     have hT := hfin hX (fun h => absurd h (by simpa using k3))
     cases c3 : (XA.2 != 0) with
     | true =>
      refine aE Tryz.func6 rfl Tryz.ntmps6 fun w0 h0 k hrd hwr => ?_
      repeat' (first | refine aQ fun K hK => ?_ | ((first | refine aK fun R hR => ?_ | refine aD mixed fun R hR => ?_); simp only [go_sem, c1, c2, c3, k3, hz, e1, bne_self_eq_false, List.length_map, Int.toNat_natCast]) | ((first | (refine hR _ ?_; clear hR R) | refine aZ rfl ?_); try refine aP ?_) | ((repeat (fail_if_success refine hK _ ?_); clear hK K); refine hK _ ?_; clear hK K) | refine aT ?_ | refine aF ?_ | refine aB ?_ | ((first | refine CallK.pure (enter21) (hH0) ?_ ?_ | refine CallD.pure (enter21) (hH0) ?_ ?_); (focus exact aC); simp only [go_sem, c1, c2, c3, k3, hz, e1, bne_self_eq_false, List.length_map, Int.toNat_natCast]) | ((first | refine CallK.pure (enter21) (hHA) ?_ ?_ | refine CallD.pure (enter21) (hHA) ?_ ?_); (focus exact aC); simp only [go_sem, c1, c2, c3, k3, hz, e1, bne_self_eq_false, List.length_map, Int.toNat_natCast]) | ((first | refine CallK.pure (enter15) (inferBegun_tri) ?_ ?_ | refine CallD.pure (enter15) (inferBegun_tri) ?_ ?_ | refine CallK.pure (enter20) (modelBegun_tri) ?_ ?_ | refine CallD.pure (enter20) (modelBegun_tri) ?_ ?_ | refine CallK.pure (enter13) (hI) ?_ ?_ | refine CallD.pure (enter13) (hI) ?_ ?_); (focus exact aC); simp only [go_sem, c1, c2, c3, k3, hz, e1, bne_self_eq_false, List.length_map, Int.toNat_natCast]) | refine aN ?_ | fail)
      (first | refine ret_pure ?_ ?_ ?_ | refine ret_ro ?_ ?_ ?_); focus exact (okA Tryz.ntmps6 Tryz.results6)
      rotate_left; focus exact frT
      simp only [resA, resV, Tryz.results6, go_sem]
      all_goals try exact coA
      all_goals exact .dat rfl
     | false =>
      have c4 : XA.1 = true := hT (by simpa using c3)
      refine aE Tryz.func6 rfl Tryz.ntmps6 fun w0 h0 k hrd hwr => ?_
      repeat' (first | refine aQ fun K hK => ?_ | ((first | refine aK fun R hR => ?_ | refine aD mixed fun R hR => ?_); simp only [go_sem, c1, c2, c3, c4, k3, hz, e1, bne_self_eq_false, List.length_map, Int.toNat_natCast]) | ((first | (refine hR _ ?_; clear hR R) | refine aZ rfl ?_); try refine aP ?_) | ((repeat (fail_if_success refine hK _ ?_); clear hK K); refine hK _ ?_; clear hK K) | refine aT ?_ | refine aF ?_ | refine aB ?_ | ((first | refine CallK.pure (enter21) (hH0) ?_ ?_ | refine CallD.pure (enter21) (hH0) ?_ ?_); (focus exact aC); simp only [go_sem, c1, c2, c3, c4, k3, hz, e1, bne_self_eq_false, List.length_map, Int.toNat_natCast]) | ((first | refine CallK.pure (enter21) (hHA) ?_ ?_ | refine CallD.pure (enter21) (hHA) ?_ ?_); (focus exact aC); simp only [go_sem, c1, c2, c3, c4, k3, hz, e1, bne_self_eq_false, List.length_map, Int.toNat_natCast]) | ((first | refine CallK.pure (enter15) (inferBegun_tri) ?_ ?_ | refine CallD.pure (enter15) (inferBegun_tri) ?_ ?_ | refine CallK.pure (enter20) (modelBegun_tri) ?_ ?_ | refine CallD.pure (enter20) (modelBegun_tri) ?_ ?_ | refine CallK.pure (enter13) (hI) ?_ ?_ | refine CallD.pure (enter13) (hI) ?_ ?_); (focus exact aC); simp only [go_sem, c1, c2, c3, c4, k3, hz, e1, bne_self_eq_false, List.length_map, Int.toNat_natCast]) | refine aN ?_ | fail)
      (first | refine ret_pure ?_ ?_ ?_ | refine ret_ro ?_ ?_ ?_); focus exact (okA Tryz.ntmps6 Tryz.results6)
      rotate_left; focus exact frT
      simp only [resA, resV, Tryz.results6, go_sem]
      all_goals try exact coA
      all_goals exact .dat rfl
    | true =>
     obtain ⟨m, rfl, hml⟩ := hkm (by simpa using k3)
     rw [clAt_nat hml] at hfin
     have hH1 := mdHolds_tri g sz tb l[m] htl htr (hc _ (List.getElem_mem hml))
     have hz1 : (m : Int) < (l.length : Int) := by omega
     have e2 : (l.map clDV).getD m default = clDV l[m] := nth_map clDV hml _
     have hT : hldAns g sz tb l[m] = (true, 0) → XA.2 = 0 → XA.1 = true := fun h => hfin hX fun _ => (hld_true h).2
     clear hfin hX0
     generalize hldAns g sz tb l[m] = X1 at *
     cases d1 : (X1.2 != 0) with
     | true =>
      refine aE Tryz.func6 rfl Tryz.ntmps6 fun w0 h0 k hrd hwr => ?_
      repeat' (first | refine aQ fun K hK => ?_ | ((first | refine aK fun R hR => ?_ | refine aD mixed fun R hR => ?_); simp only [go_sem, c1, c2, d1, k3, hz, hz1, e1, e2, bne_self_eq_false, List.length_map, Int.toNat_natCast]) | ((first | (refine hR _ ?_; clear hR R) | refine aZ rfl ?_); try refine aP ?_) | ((repeat (fail_if_success refine hK _ ?_); clear hK K); refine hK _ ?_; clear hK K) | refine aT ?_ | refine aF ?_ | refine aB ?_ | ((first | refine CallK.pure (enter21) (hH0) ?_ ?_ | refine CallD.pure (enter21) (hH0) ?_ ?_); (focus exact aC); simp only [go_sem, c1, c2, d1, k3, hz, hz1, e1, e2, bne_self_eq_false, List.length_map, Int.toNat_natCast]) | ((first | refine CallK.pure (enter21) (hH1) ?_ ?_ | refine CallD.pure (enter21) (hH1) ?_ ?_); (focus exact aC); simp only [go_sem, c1, c2, d1, k3, hz, hz1, e1, e2, bne_self_eq_false, List.length_map, Int.toNat_natCast]) | ((first | refine CallK.pure (enter15) (inferBegun_tri) ?_ ?_ | refine CallD.pure (enter15) (inferBegun_tri) ?_ ?_ | refine CallK.pure (enter20) (modelBegun_tri) ?_ ?_ | refine CallD.pure (enter20) (modelBegun_tri) ?_ ?_ | refine CallK.pure (enter13) (hI) ?_ ?_ | refine CallD.pure (enter13) (hI) ?_ ?_); (focus exact aC); simp only [go_sem, c1, c2, d1, k3, hz, hz1, e1, e2, bne_self_eq_false, List.length_map, Int.toNat_natCast]) | refine aN ?_ | fail)
      (first | refine ret_pure ?_ ?_ ?_ | refine ret_ro ?_ ?_ ?_); focus exact (okA Tryz.ntmps6 Tryz.results6)
      rotate_left; focus exact frT
      simp only [resA, resV, Tryz.results6, go_sem]
      all_goals try exact coA
      all_goals exact .dat rfl
     | false =>
      cases d2 : X1.1 with
      | false =>
       refine aE Tryz.func6 rfl Tryz.ntmps6 fun w0 h0 k hrd hwr => ?_
       repeat' (first | refine aQ fun K hK => ?_ | ((first | refine aK fun R hR => ?_ | refine aD mixed fun R hR => ?_); simp only [go_sem, c1, c2, d1, d2, k3, hz, hz1, e1, e2, bne_self_eq_false, List.length_map, Int.toNat_natCast]) | ((first | (refine hR _ ?_; clear hR R) | refine aZ rfl ?_); try refine aP ?_) | ((repeat (fail_if_success refine hK _ ?_); clear hK K); refine hK _ ?_; clear hK K) | refine aT ?_ | refine aF ?_ | refine aB ?_ | ((first | refine CallK.pure (enter21) (hH0) ?_ ?_ | refine CallD.pure (enter21) (hH0) ?_ ?_); (focus exact aC); simp only [go_sem, c1, c2, d1, d2, k3, hz, hz1, e1, e2, bne_self_eq_false, List.length_map, Int.toNat_natCast]) | ((first | refine CallK.pure (enter21) (hH1) ?_ ?_ | refine CallD.pure (enter21) (hH1) ?_ ?_); (focus exact aC); simp only [go_sem, c1, c2, d1, d2, k3, hz, hz1, e1, e2, bne_self_eq_false, List.length_map, Int.toNat_natCast]) | ((first | refine CallK.pure (enter15) (inferBegun_tri) ?_ ?_ | refine CallD.pure (enter15) (inferBegun_tri) ?_ ?_ | refine CallK.pure (enter20) (modelBegun_tri) ?_ ?_ | refine CallD.pure (enter20) (modelBegun_tri) ?_ ?_ | refine CallK.pure (enter13) (hI) ?_ ?_ | refine CallD.pure (enter13) (hI) ?_ ?_); (focus exact aC); simp only [go_sem, c1, c2, d1, d2, k3, hz, hz1, e1, e2, bne_self_eq_false, List.length_map, Int.toNat_natCast]) | refine aN ?_ | fail)
       (first | refine ret_pure ?_ ?_ ?_ | refine ret_ro ?_ ?_ ?_); focus exact (okA Tryz.ntmps6 Tryz.results6)
       rotate_left; focus exact frT
       simp only [resA, resV, Tryz.results6, go_sem]
       all_goals try exact coA
       all_goals exact .dat rfl
      | true =>
       have hT := hT (Prod.ext d2 (by simpa using d1))
       cases c3 : (XA.2 != 0) with
       | true =>
        refine aE Tryz.func6 rfl Tryz.ntmps6 fun w0 h0 k hrd hwr => ?_
        repeat' (first | refine aQ fun K hK => ?_ | ((first | refine aK fun R hR => ?_ | refine aD mixed fun R hR => ?_); simp only [go_sem, c1, c2, c3, d1, d2, k3, hz, hz1, e1, e2, bne_self_eq_false, List.length_map, Int.toNat_natCast]) | ((first | (refine hR _ ?_; clear hR R) | refine aZ rfl ?_); try refine aP ?_) | ((repeat (fail_if_success refine hK _ ?_); clear hK K); refine hK _ ?_; clear hK K) | refine aT ?_ | refine aF ?_ | refine aB ?_ | ((first | refine CallK.pure (enter21) (hH0) ?_ ?_ | refine CallD.pure (enter21) (hH0) ?_ ?_); (focus exact aC); simp only [go_sem, c1, c2, c3, d1, d2, k3, hz, hz1, e1, e2, bne_self_eq_false, List.length_map, Int.toNat_natCast]) | ((first | refine CallK.pure (enter21) (hH1) ?_ ?_ | refine CallD.pure (enter21) (hH1) ?_ ?_); (focus exact aC); simp only [go_sem, c1, c2, c3, d1, d2, k3, hz, hz1, e1, e2, bne_self_eq_false, List.length_map, Int.toNat_natCast]) | ((first | refine CallK.pure (enter21) (hHA) ?_ ?_ | refine CallD.pure (enter21) (hHA) ?_ ?_); (focus exact aC); simp only [go_sem, c1, c2, c3, d1, d2, k3, hz, hz1, e1, e2, bne_self_eq_false, List.length_map, Int.toNat_natCast]) | ((first | refine CallK.pure (enter15) (inferBegun_tri) ?_ ?_ | refine CallD.pure (enter15) (inferBegun_tri) ?_ ?_ | refine CallK.pure (enter20) (modelBegun_tri) ?_ ?_ | refine CallD.pure (enter20) (modelBegun_tri) ?_ ?_ | refine CallK.pure (enter13) (hI) ?_ ?_ | refine CallD.pure (enter13) (hI) ?_ ?_); (focus exact aC); simp only [go_sem, c1, c2, c3, d1, d2, k3, hz, hz1, e1, e2, bne_self_eq_false, List.length_map, Int.toNat_natCast]) | refine aN ?_ | fail)
        (first | refine ret_pure ?_ ?_ ?_ | refine ret_ro ?_ ?_ ?_); focus exact (okA Tryz.ntmps6 Tryz.results6)
        rotate_left; focus exact frT
        simp only [resA, resV, Tryz.results6, go_sem]
        all_goals try exact coA
        all_goals exact .dat rfl
       | false =>
        have c4 : XA.1 = true := hT (by simpa using c3)
        refine aE Tryz.func6 rfl Tryz.ntmps6 fun w0 h0 k hrd hwr => ?_
        repeat' (first | refine aQ fun K hK => ?_ | ((first | refine aK fun R hR => ?_ | refine aD mixed fun R hR => ?_); simp only [go_sem, c1, c2, c3, c4, d1, d2, k3, hz, hz1, e1, e2, bne_self_eq_false, List.length_map, Int.toNat_natCast]) | ((first | (refine hR _ ?_; clear hR R) | refine aZ rfl ?_); try refine aP ?_) | ((repeat (fail_if_success refine hK _ ?_); clear hK K); refine hK _ ?_; clear hK K) | refine aT ?_ | refine aF ?_ | refine aB ?_ | ((first | refine CallK.pure (enter21) (hH0) ?_ ?_ | refine CallD.pure (enter21) (hH0) ?_ ?_); (focus exact aC); simp only [go_sem, c1, c2, c3, c4, d1, d2, k3, hz, hz1, e1, e2, bne_self_eq_false, List.length_map, Int.toNat_natCast]) | ((first | refine CallK.pure (enter21) (hH1) ?_ ?_ | refine CallD.pure (enter21) (hH1) ?_ ?_); (focus exact aC); simp only [go_sem, c1, c2, c3, c4, d1, d2, k3, hz, hz1, e1, e2, bne_self_eq_false, List.length_map, Int.toNat_natCast]) | ((first | refine CallK.pure (enter21) (hHA) ?_ ?_ | refine CallD.pure (enter21) (hHA) ?_ ?_); (focus exact aC); simp only [go_sem, c1, c2, c3, c4, d1, d2, k3, hz, hz1, e1, e2, bne_self_eq_false, List.length_map, Int.toNat_natCast]) | ((first | refine CallK.pure (enter15) (inferBegun_tri) ?_ ?_ | refine CallD.pure (enter15) (inferBegun_tri) ?_ ?_ | refine CallK.pure (enter20) (modelBegun_tri) ?_ ?_ | refine CallD.pure (enter20) (modelBegun_tri) ?_ ?_ | refine CallK.pure (enter13) (hI) ?_ ?_ | refine CallD.pure (enter13) (hI) ?_ ?_); (focus exact aC); simp only [go_sem, c1, c2, c3, c4, d1, d2, k3, hz, hz1, e1, e2, bne_self_eq_false, List.length_map, Int.toNat_natCast]) | refine aN ?_ | fail)
        (first | refine ret_pure ?_ ?_ ?_ | refine ret_ro ?_ ?_ ?_); focus exact (okA Tryz.ntmps6 Tryz.results6)
        rotate_left; focus exact frT
        simp only [resA, resV, Tryz.results6, go_sem]
        all_goals try exact coA
        all_goals exact .dat rfl
theorem inferSound_law (g : List Int) (l : List (List Lt)) (i : Inf) (m : Int × List (List Int)) (_ : True) (_ : True) (_ : True) (_ : True) (hb : (g.length + 1) + clsSize l + Inf.size i + ((m.2.map fun r => r.length + 1).sum + 2) ≤ 1048576) :
  Tri Tryz.prog 6 [.d (sgDV g), .d (.sl (l.map clDV)), .d (ifDV i), .d (mdDV m.1 m.2)] (pure' (bA true)) := by
 obtain ⟨h1, h2⟩ := cls_sizes (l := l) (b := 1048576) (by omega)
 obtain ⟨h5, h6⟩ := sum_mem (fun r : List Int => r.length + 1) m.2 fun _ => by omega
 have h3 : i.place.length + 8 ≤ 1048576 := by unfold Inf.size at hb; omega
 exact inferSound_tri g l i m.1 m.2 (by omega) (fun c hc => by have := h2 c hc; omega) (by omega) (by omega) fun r hr => by have := h6 r hr; omega
end Go.Proofs.YtmeekpinkfpnhabGreat
