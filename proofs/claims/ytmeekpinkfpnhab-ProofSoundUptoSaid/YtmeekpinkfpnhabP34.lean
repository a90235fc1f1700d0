/- Package infer: nothing. Package infer: put, in all cases; Raw; Infer. FRSTH -/
import Derived.Test.YtmeekpinkfpnhabP16
import Derived.Test.YtmeekpinkfpnhabP33
set_option linter.unusedSimpArgs false
set_option linter.unusedSectionVars false
set_option linter.unusedVariables false
set_option linter.unnecessarySimpa false
set_option linter.all false
namespace Go.Proofs.Ytmeekpinkfpnhab
open Go.RowKit
theorem nothing_eq (i : Inf) : nothingB i = if (i.kind == 1) = true then ((i.right == 0) && (i.rightAt == 0) && !i.leftT && !i.rightT && ((i.place.length : Int) == 0)) else if (i.kind == 2) = true then ((i.right == 0) && ((i.place.length : Int) == 0)) else true := by
  have e : i.place.isEmpty = ((i.place.length : Int) == 0) := by
    cases i.place with
    | nil => rfl
    | cons x l => simp; omega
  have e1 : ∀ a b : Int, decide (a = b) = (a == b) := fun a b => by rw [Bool.eq_iff_iff]; simp
  unfold nothingB
  simp only [e, e1, beq_iff_eq]
set_option maxHeartbeats 2000000 in
set_option maxRecDepth 20000 in
theorem nothing_tri (i : Inf) : Tri Try.prog 90 [.d (ifDV i)] (pure' (bA (nothingB i))) := by
  rw [nothing_eq]
  refine tri_enter Try.func90 rfl Try.ntmps90 (by simp only [List.length_cons, List.length_nil]; omega) fun w0 h0 k hrd hwr => ?_
  cases k1 : i.kind == 1 with
  | true =>
    rw [if_pos rfl]
    cases a1 : i.right == 0 with
    | false =>
      repeat' (first | refine awp_seq_k fun K hK => ?_ | ((first | refine aK fun R hR => ?_ | refine aD mixed fun R hR => ?_); simp only [go_sem, k1, Int.toNat_natCast, List.length_map, a1]) | ((first | (refine hR _ ?_; clear hR R) | refine awp_skip ?_ | refine awp_exit ?_ | refine awp_ret ?_); try refine aP ?_) | ((repeat (fail_if_success refine hK _ ?_); clear hK K); refine hK _ ?_; clear hK K) | refine aT ?_ | refine aF ?_ | refine awp_block ?_ | refine aN ?_ | fail)
      (first | refine ret_pure ?_ ?_ ?_ | refine ret_ro ?_ ?_ ?_); focus exact (okA Try.ntmps90 Try.results90)
      rotate_left; focus exact frA
      simp only [resA, resV, Try.results90, go_sem]
      all_goals try exact coA
      all_goals exact .dat rfl
    | true =>
      cases b1 : i.rightAt == 0 with
      | false =>
        repeat' (first | refine awp_seq_k fun K hK => ?_ | ((first | refine aK fun R hR => ?_ | refine aD mixed fun R hR => ?_); simp only [go_sem, k1, Int.toNat_natCast, List.length_map, a1, b1]) | ((first | (refine hR _ ?_; clear hR R) | refine awp_skip ?_ | refine awp_exit ?_ | refine awp_ret ?_); try refine aP ?_) | ((repeat (fail_if_success refine hK _ ?_); clear hK K); refine hK _ ?_; clear hK K) | refine aT ?_ | refine aF ?_ | refine awp_block ?_ | refine aN ?_ | fail)
        (first | refine ret_pure ?_ ?_ ?_ | refine ret_ro ?_ ?_ ?_); focus exact (okA Try.ntmps90 Try.results90)
        rotate_left; focus exact frA
        simp only [resA, resV, Try.results90, go_sem]
        all_goals try exact coA
        all_goals exact .dat rfl
      | true =>
        cases c1 : i.leftT with
        | true =>
          repeat' (first | refine awp_seq_k fun K hK => ?_ | ((first | refine aK fun R hR => ?_ | refine aD mixed fun R hR => ?_); simp only [go_sem, k1, Int.toNat_natCast, List.length_map, a1, b1, c1]) | ((first | (refine hR _ ?_; clear hR R) | refine awp_skip ?_ | refine awp_exit ?_ | refine awp_ret ?_); try refine aP ?_) | ((repeat (fail_if_success refine hK _ ?_); clear hK K); refine hK _ ?_; clear hK K) | refine aT ?_ | refine aF ?_ | refine awp_block ?_ | refine aN ?_ | fail)
          (first | refine ret_pure ?_ ?_ ?_ | refine ret_ro ?_ ?_ ?_); focus exact (okA Try.ntmps90 Try.results90)
          rotate_left; focus exact frA
          simp only [resA, resV, Try.results90, go_sem]
          all_goals try exact coA
          all_goals exact .dat rfl
        | false =>
          cases d1 : i.rightT with
          | true =>
            repeat' (first | refine awp_seq_k fun K hK => ?_ | ((first | refine aK fun R hR => ?_ | refine aD mixed fun R hR => ?_); simp only [go_sem, k1, Int.toNat_natCast, List.length_map, a1, b1, c1, d1]) | ((first | (refine hR _ ?_; clear hR R) | refine awp_skip ?_ | refine awp_exit ?_ | refine awp_ret ?_); try refine aP ?_) | ((repeat (fail_if_success refine hK _ ?_); clear hK K); refine hK _ ?_; clear hK K) | refine aT ?_ | refine aF ?_ | refine awp_block ?_ | refine aN ?_ | fail)
            (first | refine ret_pure ?_ ?_ ?_ | refine ret_ro ?_ ?_ ?_); focus exact (okA Try.ntmps90 Try.results90)
            rotate_left; focus exact frA
            simp only [resA, resV, Try.results90, go_sem]
            all_goals try exact coA
            all_goals exact .dat rfl
          | false =>
            repeat' (first | refine awp_seq_k fun K hK => ?_ | ((first | refine aK fun R hR => ?_ | refine aD mixed fun R hR => ?_); simp only [go_sem, k1, Int.toNat_natCast, List.length_map, a1, b1, c1, d1]) | ((first | (refine hR _ ?_; clear hR R) | refine awp_skip ?_ | refine awp_exit ?_ | refine awp_ret ?_); try refine aP ?_) | ((repeat (fail_if_success refine hK _ ?_); clear hK K); refine hK _ ?_; clear hK K) | refine aT ?_ | refine aF ?_ | refine awp_block ?_ | refine aN ?_ | fail)
            (first | refine ret_pure ?_ ?_ ?_ | refine ret_ro ?_ ?_ ?_); focus exact (okA Try.ntmps90 Try.results90)
            rotate_left; focus exact frA
            simp only [resA, resV, Try.results90, go_sem]
            all_goals try exact coA
            all_goals exact .dat rfl
  | false =>
    rw [if_neg (by decide)]
    cases k2 : i.kind == 2 with
    | true =>
      rw [if_pos rfl]
      cases a1 : i.right == 0 with
      | false =>
        repeat' (first | refine awp_seq_k fun K hK => ?_ | ((first | refine aK fun R hR => ?_ | refine aD mixed fun R hR => ?_); simp only [go_sem, k1, k2, a1, Int.toNat_natCast, List.length_map]) | ((first | (refine hR _ ?_; clear hR R) | refine awp_skip ?_ | refine awp_exit ?_ | refine awp_ret ?_); try refine aP ?_) | ((repeat (fail_if_success refine hK _ ?_); clear hK K); refine hK _ ?_; clear hK K) | refine aT ?_ | refine aF ?_ | refine awp_block ?_ | refine aN ?_ | fail)
        (first | refine ret_pure ?_ ?_ ?_ | refine ret_ro ?_ ?_ ?_); focus exact (okA Try.ntmps90 Try.results90)
        rotate_left; focus exact frA
        simp only [resA, resV, Try.results90, go_sem]
        all_goals try exact coA
        all_goals exact .dat rfl
      | true =>
        repeat' (first | refine awp_seq_k fun K hK => ?_ | ((first | refine aK fun R hR => ?_ | refine aD mixed fun R hR => ?_); simp only [go_sem, k1, k2, a1, Int.toNat_natCast, List.length_map]) | ((first | (refine hR _ ?_; clear hR R) | refine awp_skip ?_ | refine awp_exit ?_ | refine awp_ret ?_); try refine aP ?_) | ((repeat (fail_if_success refine hK _ ?_); clear hK K); refine hK _ ?_; clear hK K) | refine aT ?_ | refine aF ?_ | refine awp_block ?_ | refine aN ?_ | fail)
        (first | refine ret_pure ?_ ?_ ?_ | refine ret_ro ?_ ?_ ?_); focus exact (okA Try.ntmps90 Try.results90)
        rotate_left; focus exact frA
        simp only [resA, resV, Try.results90, go_sem]
        all_goals try exact coA
        all_goals exact .dat rfl
    | false =>
      rw [if_neg (by decide)]
      repeat' (first | refine awp_seq_k fun K hK => ?_ | ((first | refine aK fun R hR => ?_ | refine aD mixed fun R hR => ?_); simp only [go_sem, k1, k2]) | ((first | (refine hR _ ?_; clear hR R) | refine awp_skip ?_ | refine awp_exit ?_ | refine awp_ret ?_); try refine aP ?_) | ((repeat (fail_if_success refine hK _ ?_); clear hK K); refine hK _ ?_; clear hK K) | refine aT ?_ | refine aF ?_ | refine awp_block ?_ | refine aN ?_ | fail)
      (first | refine ret_pure ?_ ?_ ?_ | refine ret_ro ?_ ?_ ?_); focus exact (okA Try.ntmps90 Try.results90)
      rotate_left; focus exact frA
      simp only [resA, resV, Try.results90, go_sem]
      all_goals try exact coA
      all_goals exact .dat rfl
theorem termsOf_app (c d : List Lt) : termsOf (c ++ d) = termsOf c ++ termsOf d := by unfold termsOf; rw [List.flatMap_append]
theorem own_small {g : List Int} {c : List Lt} (hc : OwnC g c) (hl : c.length ≤ 8) : Small c := ⟨by omega, fun l hl => by have := own_sz (hc l hl).1; omega, fun l hl => by have := own_sz (hc l hl).2; omega⟩
theorem put_any {g : List Int} (c d : List Lt) (i : Inf) (hc : OwnC g c) (hd : OwnC g d) (hlc : c.length ≤ 8) (hld : d.length ≤ 8) {n m : Nat} (hi : i.leftAt = n) (hj : i.rightAt = m) (hn : n < c.length) (hm : m < d.length) (hp : i.place.length ≤ 4000000) :
    ∃ a : List Lt × Int, Tri Try.prog 93 [.d (clDV c), .d (clDV d), .d (ifDV i)] (pure' (.tup [.d (clDV a.1), iA a.2])) ∧ InfOk g [c, d] a := by
  obtain ⟨kind, left, right, leftAt, rightAt, lt, rt, place⟩ := i
  simp only at hi hj hp
  subst hi; subst hj
  cases hat : atG (sideG d[m] rt).1 place with
  | none => exact ⟨([], 5), put_none c d kind left right n m lt rt place hc hd hlc hld hn hm hp hat, .err (by decide)⟩
  | some x =>
    by_cases hno : c[n].y = false ∨ x.v > 0
    · exact ⟨([], 4), put_no c d kind left right n m lt rt place hc hd hlc hld hn hm hp hat hno, .err (by decide)⟩
    have hy : c[n].y = true := by
      cases h : c[n].y with
      | true => rfl
      | false => exact absurd (.inl h) hno
    have hv : ¬ x.v > 0 := fun h => hno (.inr h)
    obtain ⟨xa, xb, hX⟩ : ∃ xa xb, c[n] = ⟨true, xa, xb⟩ := ⟨c[n].a, c[n].b, by cases hq : c[n] with | mk y a b => rw [hq] at hy; simp only at hy; rw [hy]⟩
    have hfar := far_own hc
    have hfv := far_ge (standV c) 0
    have hvd : ∀ v ∈ standV d, 0 ≤ v ∧ v ≤ 100000 := fun v hv => by
      rw [stand_vars hd] at hv
      have := FormC.vars hd.form v hv; omega
    have hMv := moved_tri d (farOf (standV c)) (own_small hd hld) (by omega) hvd
    have from_ := fun A hT => put_from c d kind left right n m lt rt place hc hd hlc hld hn hm hp x xa xb hat hX hv A hT
    cases hbig : (standV d).any fun v => decide (v + farOf (standV c) > 1000) with
    | true =>
      have e : movedAns d (farOf (standV c)) = ([], 2) := by unfold movedAns; rw [if_pos hbig]
      rw [e] at hMv
      exact ⟨([], 2), from_ _ fun hfn σ s0 s1 s5 s8 s11 s13 b0 b8 b11 hF hk => putT_many c d kind left right _ n m lt rt place xa xb x hfn σ s0 s1 s5 s8 s11 s13 b0 b8 b11 hF hk hMv, .err (by decide)⟩
    | false =>
      have e : movedAns d (farOf (standV c)) = (d.map (subLt fun v => vt (v + farOf (standV c))), 0) := by unfold movedAns; rw [if_neg (by rw [hbig]; decide), moved_map hd]
      rw [e] at hMv
      have hod : OwnC g (d.map (subLt fun v => vt (v + farOf (standV c)))) := moved_own hd hfar.1 fun v hv => by
        have := List.any_eq_false.1 hbig v hv
        simp at this; omega
      have hdl : (d.map (subLt fun v => vt (v + farOf (standV c)))).length ≤ 8 := by rw [List.length_map]; exact hld
      have hm' : m < (d.map (subLt fun v => vt (v + farOf (standV c)))).length := by rw [List.length_map]; exact hm
      have hxm : atG (sideG (d.map (subLt fun v => vt (v + farOf (standV c))))[m] rt).1 place = some (sub (fun v => vt (v + farOf (standV c))) x) := by
        rw [List.getElem_map, sideG_sub]
        exact at_sub _ place _ x (own_good (sideG_own hd hm rt).1) hat
      have hmh : ∀ sz tb, mdOk g sz tb = 0 → HoldsA sz tb d → HoldsA sz tb (d.map (subLt fun v => vt (v + farOf (standV c)))) := fun sz tb hmd h => moved_holds (mdOk_all hmd).2.1 hfar.1 h
      clear hbig e
      generalize hd' : d.map (subLt fun v => vt (v + farOf (standV c))) = d' at *
      generalize sub (fun v => vt (v + farOf (standV c))) x = x' at hxm
      have o1 := sideG_own hc hn lt
      have o2 := sideG_own hod hm' rt
      have hx'o : own g x' = 0 := own_piece o2.1 (atG_parts place _ _ hxm)
      obtain ⟨wy, wa, wb, hW⟩ : ∃ wy wa wb, d'[m] = ⟨wy, wa, wb⟩ := ⟨d'[m].y, d'[m].a, d'[m].b, rfl⟩
      have sL := ifSides_tri c[n] lt
      have sR := ifSides_tri d'[m] rt
      have hFd := find_tri place _ hp (show (sideG d'[m] rt).1.size ≤ 4000000 by have := own_sz o2.1; omega)
      have ea : atA (sideG d'[m] rt).1 place = (x', true) := by unfold atA; rw [hxm]
      rw [ea] at hFd
      rcases both_any o1.1 hx'o with ⟨e, he, hB⟩ | ⟨bs, B, hs, hB⟩
      · rw [hX] at sL hB
        rw [hW] at sR hFd
        exact ⟨([], e), from_ _ fun hfn σ s0 s1 s5 s8 s11 s13 b0 b8 b11 hF hk => putT_both c d kind left right _ n m lt rt place xa xb x hfn σ s0 s1 s5 s8 s11 s13 b0 b8 b11 hF hk d' _ _ x' wy wa wb hm' hW hdl hMv sL sR hFd e he hB, .err he⟩
      · have hsz := fun t (h : own g t = 0) => own_sz h
        have hP := pairs_any B [((sideG c[n] lt).1, (sideG c[n] lt).2), ((sideG d'[m] rt).1, (sideG d'[m] rt).2)] (by simp) fun p hp => by
          have q1 := own_sz o1.1; have q2 := own_sz o1.2; have q3 := own_sz o2.1; have q4 := own_sz o2.2
          simp only [List.mem_cons, List.not_mem_nil, or_false] at hp
          rcases hp with rfl | rfl
          · exact ⟨(own_form o1.1).1, (own_form o1.2).1, by simp only; omega, by simp only; omega⟩
          · exact ⟨(own_form o2.1).1, (own_form o2.2).1, by simp only; omega, by simp only; omega⟩
        generalize hE : pairsAns (fallsAns bs) [((sideG c[n] lt).1, (sideG c[n] lt).2), ((sideG d'[m] rt).1, (sideG d'[m] rt).2)] = E at hP
        by_cases hE0 : E = 0
        · subst hE0
          have hL := lay_tri place (sideG d'[m] rt).1 (sideG c[n] lt).2 x' hxm hp (by have := own_sz o2.1; omega)
          have hf : FormC g (c.eraseIdx n ++ d'.set m (laidL d'[m] rt place (sideG c[n] lt).2)) := form_app (form_erase hc.form n) (laid_form hod hm' rt place o1.2 hxm)
          have hle : (c.eraseIdx n ++ d'.set m (laidL d'[m] rt place (sideG c[n] lt).2)).length ≤ 16 := by
            have := List.length_eraseIdx_le c n
            rw [List.length_append, List.length_set]; omega
          have hM := made_any B hf hle fun t ht => by
            rw [termsOf_app, List.mem_append] at ht
            rcases ht with ht | ht
            · have := hc.size t (termsOf_erase ht); omega
            · have := laid_size hod hm' rt place o1.2 hxm t ht; omega
          have hok : InfOk g [c, d] (ifMadeAns bs (c.eraseIdx n ++ d'.set m (laidL d'[m] rt place (sideG c[n] lt).2))) := made_inf B hf fun sz tb hmd hp =>
            put_holds (mdOk_all hmd).2.1 (B.inR hmd c) (B.inR hmd d') B.good hn hm' hy lt rt place (own_good o2.1) hxm hs (hp c (by simp)) (hmh sz tb hmd (hp d (by simp)))
          generalize ifMadeAns bs (c.eraseIdx n ++ d'.set m (laidL d'[m] rt place (sideG c[n] lt).2)) = A at hM hok
          refine ⟨A, from_ _ fun hfn σ s0 s1 s5 s8 s11 s13 b0 b8 b11 hF hk => ?_, hok⟩
          intro N' c' hN' hc'
          clear hok from_ hf hle
          cases rt with
          | false =>
            have el : laidL d'[m] false place (sideG c[n] lt).2 = ⟨wy, layG (sideG d'[m] false).1 place (sideG c[n] lt).2, (sideG d'[m] false).2⟩ := by unfold laidL; rw [hW]; rfl
            rw [el] at hM
            rw [hX] at sL hB hP hM hL
            rw [hW] at sR hFd hP hM hL
            exact putT_left c d kind left right _ n m lt false place xa xb x hfn σ s0 s1 s5 s8 s11 s13 b0 b8 b11 hF hk d' _ _ x' wy wa wb hm' hW hdl hMv sL sR hFd bs hB _ A hn hlc _ rfl hP hL rfl hM hN' hc'
          | true =>
            have el : laidL d'[m] true place (sideG c[n] lt).2 = ⟨wy, (sideG d'[m] true).2, layG (sideG d'[m] true).1 place (sideG c[n] lt).2⟩ := by unfold laidL; rw [hW]; rfl
            rw [el] at hM
            rw [hX] at sL hB hP hM hL
            rw [hW] at sR hFd hP hM hL
            exact putT_right c d kind left right _ n m lt true place xa xb x hfn σ s0 s1 s5 s8 s11 s13 b0 b8 b11 hF hk d' _ _ x' wy wa wb hm' hW hdl hMv sL sR hFd bs hB _ A hn hlc _ rfl hP hL rfl hM hN' hc'
        · rw [hX] at sL hB hP
          rw [hW] at sR hFd hP
          exact ⟨([], E), from_ _ fun hfn σ s0 s1 s5 s8 s11 s13 b0 b8 b11 hF hk => putT_pairs c d kind left right _ n m lt rt place xa xb x hfn σ s0 s1 s5 s8 s11 s13 b0 b8 b11 hF hk d' _ _ x' wy wa wb hm' hW hdl hMv sL sR hFd bs hB E hE0 hP, .err hE0⟩
end Go.Proofs.Ytmeekpinkfpnhab
