/- model. -/
import Derived.Test.YtmeekpinkfpnhabGreatP10
import Derived.Test.YtmeekpinkfpnhabGreatP12
import Derived.Test.YtmeekpinkfpnhabGreatP24
import Derived.Test.YtmeekpinkfpnhabGreatP36
set_option linter.all false
namespace Go.Proofs.YtmeekpinkfpnhabGreat
open Go.RowKit
abbrev vbO (b : Nm) (vars : List Int) : List (Nm × Ob) := [(b, .cells 22 [.d (.sl (vars.map iD))])]
theorem roVb {b : Nm} {vars : List Int} {k : Nat} {h : Heap} (hb : b.1 < k) (h1 : h b = some (.cells 22 [.d (.sl (vars.map iD))])) : RoOK k (vbO b vars) h := ⟨fun x hx => by
 simp only [vbO, List.mem_cons, List.not_mem_nil, or_false] at hx; subst hx; exact ⟨hb, h1⟩⟩
set_option maxRecDepth 20000 in
theorem value1_tri (b : Nm) (vars : List Int) (v : Int) : Tri Tryz.prog 83 [iA v, .ptr b 0] (rdE (vbO b vars) (bA (decide (v > vars.length)))) := by
 refine aER Tryz.func83 rfl Tryz.ntmps83 fun w0 h0 k hro => ?_
 have eb := (hro.get _ (List.mem_cons_self ..)).2
 repeat' (first | refine aQ fun K hK => ?_ | ((first | refine aK fun R hR => ?_ | refine aD mixed fun R hR => ?_); simp only [go_sem, eb]) | ((first | (refine hR _ ?_; clear hR R) | refine aZ rfl ?_); try refine aP ?_) | ((repeat (fail_if_success refine hK _ ?_); clear hK K); refine hK _ ?_; clear hK K) | refine aT ?_ | refine aF ?_ | refine aB ?_ | refine aN ?_ | fail)
 (first | refine ret_pure ?_ ?_ ?_ | refine ret_ro ?_ ?_ ?_); focus exact (okA Tryz.ntmps83 Tryz.results83)
 rotate_left; focus exact frA
 simp only [resA, resV, Tryz.results83, go_sem]
 all_goals try exact coA
 exact .dat rfl
set_option maxRecDepth 20000 in
theorem value2_tri (b : Nm) (sz : Int) (tb : List (List Int)) (n : Int) : Tri Tryz.prog 84 [iA n, .ptr b 0] (rdE (mdO b sz tb) (bA (outOf sz n))) := by
 refine aER Tryz.func84 rfl Tryz.ntmps84 fun w0 h0 k hro => ?_
 obtain ⟨hb, eb⟩ := hro.get _ (List.mem_cons_self ..)
 unfold outOf
 cases h1 : decide (n < 0) with
 | true =>
  repeat' (first | refine aQ fun K hK => ?_ | ((first | refine aK fun R hR => ?_ | refine aD mixed fun R hR => ?_); simp only [go_sem, eb, h1]) | ((first | (refine hR _ ?_; clear hR R) | refine aZ rfl ?_); try refine aP ?_) | ((repeat (fail_if_success refine hK _ ?_); clear hK K); refine hK _ ?_; clear hK K) | refine aT ?_ | refine aF ?_ | refine aB ?_ | refine aN ?_ | fail)
  (first | refine ret_pure ?_ ?_ ?_ | refine ret_ro ?_ ?_ ?_); focus exact (okA Tryz.ntmps84 Tryz.results84)
  rotate_left; focus exact frA
  simp only [resA, resV, Tryz.results84, go_sem]
  all_goals try exact coA
  exact .dat rfl
 | false =>
  repeat' (first | refine aQ fun K hK => ?_ | ((first | refine aK fun R hR => ?_ | refine aD mixed fun R hR => ?_); simp only [go_sem, eb, h1]) | ((first | (refine hR _ ?_; clear hR R) | refine aZ rfl ?_); try refine aP ?_) | ((repeat (fail_if_success refine hK _ ?_); clear hK K); refine hK _ ?_; clear hK K) | refine aT ?_ | refine aF ?_ | refine aB ?_ | refine aN ?_ | fail)
  (first | refine ret_pure ?_ ?_ ?_ | refine ret_ro ?_ ?_ ?_); focus exact (okA Tryz.ntmps84 Tryz.results84)
  rotate_left; focus exact frA
  simp only [resA, resV, Tryz.results84, go_sem]
  all_goals try exact coA
  exact .dat rfl
set_option maxRecDepth 20000 in
theorem value3_tri (b : Nm) (vars : List Int) (v : Int) (h1 : 0 < v) (h2 : v ≤ vars.length) (hl : vars.length ≤ 4000000) : Tri Tryz.prog 85 [iA v, .ptr b 0] (rdE (vbO b vars) (iA (byL vars v))) := by
 refine aER Tryz.func85 rfl Tryz.ntmps85 fun w0 h0 k hro => ?_
 have eb := (hro.get _ (List.mem_cons_self ..)).2
 have hx : (v - 1).toNat < vars.length := by omega
 have e1 : (vars.map iD).getD (v - 1).toNat default = iD vars[(v - 1).toNat] := nth_map iD hx _
 have hz1 : v - 1 < (vars.length : Int) := by omega
 have e : byL vars v = vars[(v - 1).toNat] := by rw [byL, getD_at hx]
 repeat' (first | refine aQ fun K hK => ?_ | ((first | refine aK fun R hR => ?_ | refine aD mixed fun R hR => ?_); simp only [go_sem, eb, e1, hz1]) | ((first | (refine hR _ ?_; clear hR R) | refine aZ rfl ?_); try refine aP ?_) | ((repeat (fail_if_success refine hK _ ?_); clear hK K); refine hK _ ?_; clear hK K) | refine aT ?_ | refine aF ?_ | refine aB ?_ | refine aN ?_ | fail)
 (first | refine ret_pure ?_ ?_ ?_ | refine ret_ro ?_ ?_ ?_); focus exact (okA Tryz.ntmps85 Tryz.results85)
 rotate_left; focus exact frA
 simp only [resA, resV, Tryz.results85, go_sem]
 all_goals try exact coA
 exact co_i e.symm
def valAns (g : List Int) (sz : Int) (tb : List (List Int)) (t : Tm) (vars : List Int) : Int × Int :=
 if mdOk g sz tb ≠ 0 then (0, mdOk g sz tb) else if own g t ≠ 0 then (0, own g t) else if ((firstVars [t]).any fun v => decide (v > vars.length)) = true then (0, 1)
 else if (vars.any (outOf sz)) = true then (0, 5) else (valM sz tb (byL vars) t, 0)
theorem fine_of {g : List Int} {sz : Int} {t : Tm} {vars : List Int} (ho : own g t = 0) (h1 : ((firstVars [t]).any fun v => decide (v > vars.length)) = false) (h2 : (vars.any (outOf sz)) = false) : Fine g sz (byL vars) (parts t) ∧ ∀ x ∈ parts t, x.v > 0 → x.v ≤ vars.length := by
 have key : ∀ x ∈ parts t, x.v > 0 → x.v ≤ vars.length := by
  intro x hx hv
  have hm : x.v ∈ firstVars [t] := addVs_has (by simpa using hx) hv
  have := List.any_eq_false.1 h1 _ hm
  simp at this
  omega
 refine ⟨fun x hx => ⟨own_each ho hx, fun hv => ?_⟩, key⟩
 have hl := key x hx hv
 have hi : (x.v - 1).toNat < vars.length := by omega
 rw [byL, getD_at hi]
 have := List.any_eq_false.1 h2 _ (List.getElem_mem hi)
 generalize vars[(x.v - 1).toNat] = y at *
 simp [outOf] at this
 omega
theorem stands_one {g : List Int} {t : Tm} (ho : own g t = 0) : addVs [] ([t].flatMap pre) = firstVars [t] := stands_eq (fun u hu => by simp at hu; subst hu; exact own_bare ho) []
set_option maxHeartbeats 2000000 in
set_option maxRecDepth 20000 in
theorem mdValue_tri (g : List Int) (sz : Int) (tb : List (List Int)) (t : Tm) (vars : List Int) (hl : tb.length ≤ 4000000) (hr : ∀ r ∈ tb, r.length ≤ 4000000) (ht : t.size ≤ 4000000) (hvl : vars.length ≤ 4000000) :
  Tri Tryz.prog 50 [.d (sgDV g), .d (mdDV sz tb), .d (tmDV t), .d (.sl (vars.map iD))] (pure' (.tup [iA (valAns g sz tb t vars).1, iA (valAns g sz tb t vars).2])) := by
 refine aE Tryz.func50 rfl Tryz.ntmps50 fun w0 h0 k hrd hwr => ?_
 cases hm : mdOk g sz tb == 0 with
 | false =>
  have hm' : (mdOk g sz tb != 0) = true := by simpa using hm
  have ha : valAns g sz tb t vars = (0, mdOk g sz tb) := by unfold valAns; rw [if_pos (by simpa using hm)]
  repeat' (first | refine aQ fun K hK => ?_ | ((first | refine aK fun R hR => ?_ | refine aD mixed fun R hR => ?_); simp only [go_sem, hm, hm']) | ((first | (refine hR _ ?_; clear hR R) | refine aZ rfl ?_); try refine aP ?_) | ((repeat (fail_if_success refine hK _ ?_); clear hK K); refine hK _ ?_; clear hK K) | refine aT ?_ | refine aF ?_ | refine aB ?_ | ((first | refine CallK.pure (enter51) (mdCheck_tri g sz tb hl hr) ?_ ?_ | refine CallD.pure (enter51) (mdCheck_tri g sz tb hl hr) ?_ ?_); (focus exact aC); simp only [go_sem, hm, hm']) | refine aN ?_ | fail)
  rw [ha]
  (first | refine ret_pure ?_ ?_ ?_ | refine ret_ro ?_ ?_ ?_); focus exact (okA Tryz.ntmps50 Tryz.results50)
  rotate_left; focus exact frA
  simp only [resA, resV, Tryz.results50, go_sem]
  all_goals try exact coA
 | true =>
  have hm2 : mdOk g sz tb = 0 := by simpa using hm
  cases ho : own g t == 0 with
  | false =>
   have ho' : (own g t != 0) = true := by simpa using ho
   have ha : valAns g sz tb t vars = (0, own g t) := by unfold valAns; rw [if_neg (by simp [hm2]), if_pos (by simpa using ho)]
   repeat' (first | refine aQ fun K hK => ?_ | ((first | refine aK fun R hR => ?_ | refine aD mixed fun R hR => ?_); simp only [go_sem, hm2, ho', beq_self_eq_true]) | ((first | (refine hR _ ?_; clear hR R) | refine aZ rfl ?_); try refine aP ?_) | ((repeat (fail_if_success refine hK _ ?_); clear hK K); refine hK _ ?_; clear hK K) | refine aT ?_ | refine aF ?_ | refine aB ?_ | ((first | refine CallK.pure (enter51) (mdCheck_tri g sz tb hl hr) ?_ ?_ | refine CallD.pure (enter51) (mdCheck_tri g sz tb hl hr) ?_ ?_ | refine CallK.pure (enter81) (own_tri g t) ?_ ?_ | refine CallD.pure (enter81) (own_tri g t) ?_ ?_); (focus exact aC); simp only [go_sem, hm2, ho', beq_self_eq_true]) | refine aN ?_ | fail)
   rw [ha]
   (first | refine ret_pure ?_ ?_ ?_ | refine ret_ro ?_ ?_ ?_); focus exact (okA Tryz.ntmps50 Tryz.results50)
   rotate_left; focus exact frA
   simp only [resA, resV, Tryz.results50, go_sem]
   all_goals try exact coA
  | true =>
   have ho2 : own g t = 0 := by simpa using ho
   have hst := stands_tri [t] (by simp [Tm.size.sizes]; omega)
   rw [stands_one ho2] at hst
   have hfl : (firstVars [t]).length ≤ 16777216 := by
    have h1 := addVs_len ([t].flatMap parts) []
    have h2 := parts_len t
    simp at h1
    unfold firstVars
    simp
    omega
   have hc1 := containsF_ints (firstVars [t]) hfl 83 (enter83) [.ptr (k, 3) 0] (vbO (k, 3) vars) (fun v => decide (v > vars.length)) (fun v _ => value1_tri (k, 3) vars v)
   have hc2 := containsF_ints vars (by omega) 84 (enter84) [.ptr (k, 1) 0] (mdO (k, 1) sz tb) (outOf sz) (fun v _ => value2_tri (k, 1) sz tb v)
   have hb1 : ∀ h : Heap, h (k, 3) = some (.cells 22 [.d (.sl (vars.map iD))]) → RoOK (k + 1) (vbO (k, 3) vars) h := fun h e => roVb (Nat.lt_succ_self k) e
   have hb2 : ∀ h : Heap, h (k, 1) = some (.cells 53 [iA sz, .d (.sl (tb.map gI))]) → RoOK (k + 1) (mdO (k, 1) sz tb) h := fun h e => roMd (Nat.lt_succ_self k) e
   cases h1 : (firstVars [t]).any fun v => decide (v > vars.length) with
   | true =>
    have ha : valAns g sz tb t vars = (0, 1) := by unfold valAns; rw [if_neg (by simp [hm2]), if_neg (by simp [ho2]), if_pos h1]
    rw [h1] at hc1
    repeat' (first | refine aQ fun K hK => ?_ | ((first | refine aK fun R hR => ?_ | refine aD mixed fun R hR => ?_); simp only [go_sem, hm2, ho2, beq_self_eq_true, bne_self_eq_false]) | ((first | (refine hR _ ?_; clear hR R) | refine aZ rfl ?_); try refine aP ?_) | ((repeat (fail_if_success refine hK _ ?_); clear hK K); refine hK _ ?_; clear hK K) | refine aT ?_ | refine aF ?_ | refine aB ?_ | ((first | refine CallK.pure (enter51) (mdCheck_tri g sz tb hl hr) ?_ ?_ | refine CallD.pure (enter51) (mdCheck_tri g sz tb hl hr) ?_ ?_ | refine CallK.pure (enter81) (own_tri g t) ?_ ?_ | refine CallD.pure (enter81) (own_tri g t) ?_ ?_ | refine CallK.pure (enter52) (hst) ?_ ?_ | refine CallD.pure (enter52) (hst) ?_ ?_ | refine CallK.look (enter82) (hc1) ?_ (hb1 _ (by simp only [go_sem])) (Fr.rfl' _ _) ?_ | refine CallD.look (enter82) (hc1) ?_ (hb1 _ (by simp only [go_sem])) (Fr.rfl' _ _) (by first | assumption | exact List.cons_ne_nil _ _) ?_); (focus exact aC); simp only [go_sem, hm2, ho2, beq_self_eq_true, bne_self_eq_false]) | refine aN ?_ | fail)
    rw [ha]
    (first | refine ret_pure ?_ ?_ ?_ | refine ret_ro ?_ ?_ ?_); focus exact (okA Tryz.ntmps50 Tryz.results50)
    rotate_left; focus exact frA
    simp only [resA, resV, Tryz.results50, go_sem]
    all_goals try exact coA
   | false =>
    rw [h1] at hc1
    cases h2 : vars.any (outOf sz) with
    | true =>
     have ha : valAns g sz tb t vars = (0, 5) := by unfold valAns; rw [if_neg (by simp [hm2]), if_neg (by simp [ho2]), if_neg (by rw [h1]; simp), if_pos h2]
     rw [h2] at hc2
     repeat' (first | refine aQ fun K hK => ?_ | ((first | refine aK fun R hR => ?_ | refine aD mixed fun R hR => ?_); simp only [go_sem, hm2, ho2, beq_self_eq_true, bne_self_eq_false]) | ((first | (refine hR _ ?_; clear hR R) | refine aZ rfl ?_); try refine aP ?_) | ((repeat (fail_if_success refine hK _ ?_); clear hK K); refine hK _ ?_; clear hK K) | refine aT ?_ | refine aF ?_ | refine aB ?_ | ((first | refine CallK.look (enter82) (hc1) ?_ (hb1 _ (by simp only [go_sem])) (Fr.rfl' _ _) ?_ | refine CallD.look (enter82) (hc1) ?_ (hb1 _ (by simp only [go_sem])) (Fr.rfl' _ _) (by first | assumption | exact List.cons_ne_nil _ _) ?_); (focus exact aC); simp only [go_sem, hm2, ho2, beq_self_eq_true, bne_self_eq_false]) | ((first | refine CallK.look (enter82) (hc2) ?_ (hb2 _ (by simp only [go_sem])) (Fr.rfl' _ _) ?_ | refine CallD.look (enter82) (hc2) ?_ (hb2 _ (by simp only [go_sem])) (Fr.rfl' _ _) (by first | assumption | exact List.cons_ne_nil _ _) ?_); (focus exact aC); simp only [go_sem, hm2, ho2, beq_self_eq_true, bne_self_eq_false]) | ((first | refine CallK.pure (enter51) (mdCheck_tri g sz tb hl hr) ?_ ?_ | refine CallD.pure (enter51) (mdCheck_tri g sz tb hl hr) ?_ ?_ | refine CallK.pure (enter81) (own_tri g t) ?_ ?_ | refine CallD.pure (enter81) (own_tri g t) ?_ ?_ | refine CallK.pure (enter52) (hst) ?_ ?_ | refine CallD.pure (enter52) (hst) ?_ ?_); (focus exact aC); simp only [go_sem, hm2, ho2, beq_self_eq_true, bne_self_eq_false]) | refine aN ?_ | fail)
     rw [ha]
     (first | refine ret_pure ?_ ?_ ?_ | refine ret_ro ?_ ?_ ?_); focus exact (okA Tryz.ntmps50 Tryz.results50)
     rotate_left; focus exact frA
     simp only [resA, resV, Tryz.results50, go_sem]
     all_goals try exact coA
    | false =>
     have ha : valAns g sz tb t vars = (valM sz tb (byL vars) t, 0) := by unfold valAns; rw [if_neg (by simp [hm2]), if_neg (by simp [ho2]), if_neg (by rw [h1]; simp), if_neg (by rw [h2]; simp)]
     rw [h2] at hc2
     obtain ⟨hf, hk⟩ := fine_of ho2 h1 h2
     have hval := value_tri hm2 85 (enter85) [.ptr (k, 3) 0] (vbO (k, 3) vars) (List.cons_ne_nil _ _) t hf (fun x hx hv => value3_tri (k, 3) vars x.v hv (hk x hx hv) hvl)
     repeat' (first | refine aQ fun K hK => ?_ | ((first | refine aK fun R hR => ?_ | refine aD mixed fun R hR => ?_); simp only [go_sem, hm2, ho2, beq_self_eq_true, bne_self_eq_false]) | ((first | (refine hR _ ?_; clear hR R) | refine aZ rfl ?_); try refine aP ?_) | ((repeat (fail_if_success refine hK _ ?_); clear hK K); refine hK _ ?_; clear hK K) | refine aT ?_ | refine aF ?_ | refine aB ?_ | ((first | refine CallK.look (enter82) (hc1) ?_ (hb1 _ (by simp only [go_sem])) (Fr.rfl' _ _) ?_ | refine CallD.look (enter82) (hc1) ?_ (hb1 _ (by simp only [go_sem])) (Fr.rfl' _ _) (by first | assumption | exact List.cons_ne_nil _ _) ?_); (focus exact aC); simp only [go_sem, hm2, ho2, beq_self_eq_true, bne_self_eq_false]) | ((first | refine CallK.look (enter82) (hc2) ?_ (hb2 _ (by simp only [go_sem])) (Fr.rfl' _ _) ?_ | refine CallD.look (enter82) (hc2) ?_ (hb2 _ (by simp only [go_sem])) (Fr.rfl' _ _) (by first | assumption | exact List.cons_ne_nil _ _) ?_); (focus exact aC); simp only [go_sem, hm2, ho2, beq_self_eq_true, bne_self_eq_false]) | ((first | refine CallK.pure (enter51) (mdCheck_tri g sz tb hl hr) ?_ ?_ | refine CallD.pure (enter51) (mdCheck_tri g sz tb hl hr) ?_ ?_ | refine CallK.pure (enter81) (own_tri g t) ?_ ?_ | refine CallD.pure (enter81) (own_tri g t) ?_ ?_ | refine CallK.pure (enter52) (hst) ?_ ?_ | refine CallD.pure (enter52) (hst) ?_ ?_ | refine CallK.look (enter58) (hval) ?_ (hb1 _ (by simp only [go_sem])) (Fr.rfl' _ _) ?_ | refine CallD.look (enter58) (hval) ?_ (hb1 _ (by simp only [go_sem])) (Fr.rfl' _ _) (by first | assumption | exact List.cons_ne_nil _ _) ?_); (focus exact aC); simp only [go_sem, hm2, ho2, beq_self_eq_true, bne_self_eq_false]) | refine aN ?_ | fail)
     rw [ha]
     (first | refine ret_pure ?_ ?_ ?_ | refine ret_ro ?_ ?_ ?_); focus exact (okA Tryz.ntmps50 Tryz.results50)
     rotate_left; focus exact frA
     simp only [resA, resV, Tryz.results50, go_sem]
     all_goals try exact coA
abbrev byO (b mm : Nm) (es : List (Int × DV)) : List (Nm × Ob) := [(b, .cells 98 [.map mm]), (mm, .map es)]
set_option maxRecDepth 20000 in
theorem holds1_tri (b mm : Nm) (es : List (Int × DV)) (v d : Int) (hd : getM v es = some (iD d)) : Tri Tryz.prog 55 [iA v, .ptr b 0] (rdE (byO b mm es) (iA d)) := by
 refine aER Tryz.func55 rfl Tryz.ntmps55 fun w0 h0 k hro => ?_
 have eb := (hro.get _ (List.mem_cons_self ..)).2
 have em := (hro.get _ (List.mem_cons_of_mem _ (List.mem_cons_self ..))).2
 repeat' (first | refine aQ fun K hK => ?_ | ((first | refine aK fun R hR => ?_ | refine aD mixed fun R hR => ?_); simp only [go_sem, eb, em, hd]) | ((first | (refine hR _ ?_; clear hR R) | refine aZ rfl ?_); try refine aP ?_) | ((repeat (fail_if_success refine hK _ ?_); clear hK K); refine hK _ ?_; clear hK K) | refine aT ?_ | refine aF ?_ | refine aB ?_ | refine aN ?_ | fail)
 (first | refine ret_pure ?_ ?_ ?_ | refine ret_ro ?_ ?_ ?_); focus exact (okA Tryz.ntmps55 Tryz.results55)
 rotate_left; focus exact frA
 simp only [resA, resV, Tryz.results55, go_sem]
 all_goals try exact coA
 exact .dat rfl
abbrev litO (m f b mm : Nm) (sz : Int) (tb : List (List Int)) (es : List (Int × DV)) : List (Nm × Ob) :=
 [(m, .cells 53 [iA sz, .d (.sl (tb.map gI))]), (f, .cells 99 [.fn (.func 55) [] [.ptr b 0]]), (b, .cells 98 [.map mm]), (mm, .map es)]
set_option maxRecDepth 20000 in
theorem holds2_tri {g : List Int} {sz : Int} {tb : List (List Int)} (hm : mdOk g sz tb = 0) (m f b mm : Nm) (es : List (Int × DV)) (vs : Int → Int) (l : Lt) (ha : Fine g sz vs (parts l.a)) (hb : Fine g sz vs (parts l.b)) (hea : ∀ x ∈ parts l.a, x.v > 0 → getM x.v es = some (iD (vs x.v))) (heb : ∀ x ∈ parts l.b, x.v > 0 → getM x.v es = some (iD (vs x.v))) :
  Tri Tryz.prog 57 [.d (ltDV l), .ptr m 0, .ptr f 0] (rdE (litO m f b mm sz tb es) (bA (litIn sz tb vs l))) := by
 refine aER Tryz.func57 rfl Tryz.ntmps57 fun w0 h0 k hro => ?_
 obtain ⟨n1, e1⟩ := hro.get _ (List.mem_cons_self ..)
 obtain ⟨n2, e2⟩ := hro.get _ (List.mem_cons_of_mem _ (List.mem_cons_self ..))
 obtain ⟨n3, e3⟩ := hro.get _ (List.mem_cons_of_mem _ (List.mem_cons_of_mem _ (List.mem_cons_self ..)))
 obtain ⟨n4, e4⟩ := hro.get _ (List.mem_cons_of_mem _ (List.mem_cons_of_mem _ (List.mem_cons_of_mem _ (List.mem_cons_self ..))))
 have hro2 : RoOK k (byO b mm es) h0 := ⟨fun x hx => by
  simp only [byO, List.mem_cons, List.not_mem_nil, or_false] at hx
  rcases hx with rfl | rfl
  ·exact ⟨n3, e3⟩
  ·exact ⟨n4, e4⟩⟩
 have q1 := nmne n1
 have q2 := nmne n2
 have va := value_tri hm 55 (enter55) [.ptr b 0] (byO b mm es) (List.cons_ne_nil _ _) l.a ha (fun x hx hv => holds1_tri b mm es x.v _ (hea x hx hv))
 have vb := value_tri hm 55 (enter55) [.ptr b 0] (byO b mm es) (List.cons_ne_nil _ _) l.b hb (fun x hx hv => holds1_tri b mm es x.v _ (heb x hx hv))
 unfold litIn
 clear hro
 repeat' (first | refine aQ fun K hK => ?_ | ((first | refine aK fun R hR => ?_ | refine aD mixed fun R hR => ?_); simp only [go_sem, e1, e2, q1, q2]) | ((first | (refine hR _ ?_; clear hR R) | refine aZ rfl ?_); try refine aP ?_) | ((repeat (fail_if_success refine hK _ ?_); clear hK K); refine hK _ ?_; clear hK K) | refine aT ?_ | refine aF ?_ | refine aB ?_ | ((first | refine CallK.look (enter58) (va) ?_ (by assumption) frA ?_ | refine CallD.look (enter58) (va) ?_ (by assumption) frA (by first | assumption | exact List.cons_ne_nil _ _) ?_); (focus exact aC); simp only [go_sem, e1, e2, q1, q2]) | ((first | refine CallK.look (enter58) (vb) ?_ (by assumption) frA ?_ | refine CallD.look (enter58) (vb) ?_ (by assumption) frA (by first | assumption | exact List.cons_ne_nil _ _) ?_); (focus exact aC); simp only [go_sem, e1, e2, q1, q2]) | refine aN ?_ | fail)
 (first | refine ret_pure ?_ ?_ ?_ | refine ret_ro ?_ ?_ ?_); focus exact (okA Tryz.ntmps57 Tryz.results57)
 rotate_left; focus exact frA
 simp only [resA, resV, Tryz.results57, go_sem]
 all_goals try exact coA
 exact .dat rfl
end Go.Proofs.YtmeekpinkfpnhabGreat
