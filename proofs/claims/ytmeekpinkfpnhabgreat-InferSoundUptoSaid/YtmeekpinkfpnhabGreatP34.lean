/- What is inferred of the two clauses that inferBegun hands in. -/
import Derived.Test.YtmeekpinkfpnhabGreatP14
import Derived.Test.YtmeekpinkfpnhabGreatP16
import Derived.Test.YtmeekpinkfpnhabGreatP28
import Derived.Test.YtmeekpinkfpnhabGreatP33
set_option linter.all false
namespace Go.Proofs.YtmeekpinkfpnhabGreat
open Go.RowKit
theorem nothing_eq (i : Inf) : nothingB i = if (i.kind == 1) = true then ((i.right == 0) && (i.rightAt == 0) && !i.leftT && !i.rightT && ((i.place.length : Int) == 0)) else if (i.kind == 2) = true then ((i.right == 0) && ((i.place.length : Int) == 0)) else true := by
 have e : i.place.isEmpty = ((i.place.length : Int) == 0) := by
  cases i.place with
  | nil => rfl
  | cons x l => simp; omega
 have e1 : ∀ a b : Int, decide (a = b) = (a == b) := fun a b => by rw [Bool.eq_iff_iff]; simp
 unfold nothingB
 simp only [e, e1, beq_iff_eq]
set_option maxHeartbeats 2000000 in
set_option maxRecDepth 20000 in
theorem nothing_tri (i : Inf) : Tri Tryz.prog 62 [.d (ifDV i)] (pure' (bA (nothingB i))) := by
 rw [nothing_eq]
 refine aE Tryz.func62 rfl Tryz.ntmps62 fun w0 h0 k hrd hwr => ?_
 cases k1 : i.kind == 1 with
 | true =>
  rw [if_pos rfl]
  cases a1 : i.right == 0 with
  | false =>
   repeat' (first | refine aQ fun K hK => ?_ | ((first | refine aK fun R hR => ?_ | refine aD mixed fun R hR => ?_); simp only [go_sem, k1, Int.toNat_natCast, List.length_map, a1]) | ((first | (refine hR _ ?_; clear hR R) | refine aZ rfl ?_); try refine aP ?_) | ((repeat (fail_if_success refine hK _ ?_); clear hK K); refine hK _ ?_; clear hK K) | refine aT ?_ | refine aF ?_ | refine aB ?_ | refine aN ?_ | fail)
   (first | refine ret_pure ?_ ?_ ?_ | refine ret_ro ?_ ?_ ?_); focus exact (okA Tryz.ntmps62 Tryz.results62)
   rotate_left; focus exact frA
   simp only [resA, resV, Tryz.results62, go_sem]
   all_goals try exact coA
   all_goals exact .dat rfl
  | true =>
   cases b1 : i.rightAt == 0 with
   | false =>
    repeat' (first | refine aQ fun K hK => ?_ | ((first | refine aK fun R hR => ?_ | refine aD mixed fun R hR => ?_); simp only [go_sem, k1, Int.toNat_natCast, List.length_map, a1, b1]) | ((first | (refine hR _ ?_; clear hR R) | refine aZ rfl ?_); try refine aP ?_) | ((repeat (fail_if_success refine hK _ ?_); clear hK K); refine hK _ ?_; clear hK K) | refine aT ?_ | refine aF ?_ | refine aB ?_ | refine aN ?_ | fail)
    (first | refine ret_pure ?_ ?_ ?_ | refine ret_ro ?_ ?_ ?_); focus exact (okA Tryz.ntmps62 Tryz.results62)
    rotate_left; focus exact frA
    simp only [resA, resV, Tryz.results62, go_sem]
    all_goals try exact coA
    all_goals exact .dat rfl
   | true =>
    cases c1 : i.leftT with
    | true =>
     repeat' (first | refine aQ fun K hK => ?_ | ((first | refine aK fun R hR => ?_ | refine aD mixed fun R hR => ?_); simp only [go_sem, k1, Int.toNat_natCast, List.length_map, a1, b1, c1]) | ((first | (refine hR _ ?_; clear hR R) | refine aZ rfl ?_); try refine aP ?_) | ((repeat (fail_if_success refine hK _ ?_); clear hK K); refine hK _ ?_; clear hK K) | refine aT ?_ | refine aF ?_ | refine aB ?_ | refine aN ?_ | fail)
     (first | refine ret_pure ?_ ?_ ?_ | refine ret_ro ?_ ?_ ?_); focus exact (okA Tryz.ntmps62 Tryz.results62)
     rotate_left; focus exact frA
     simp only [resA, resV, Tryz.results62, go_sem]
     all_goals try exact coA
     all_goals exact .dat rfl
    | false =>
     cases d1 : i.rightT with
     | true =>
      repeat' (first | refine aQ fun K hK => ?_ | ((first | refine aK fun R hR => ?_ | refine aD mixed fun R hR => ?_); simp only [go_sem, k1, Int.toNat_natCast, List.length_map, a1, b1, c1, d1]) | ((first | (refine hR _ ?_; clear hR R) | refine aZ rfl ?_); try refine aP ?_) | ((repeat (fail_if_success refine hK _ ?_); clear hK K); refine hK _ ?_; clear hK K) | refine aT ?_ | refine aF ?_ | refine aB ?_ | refine aN ?_ | fail)
      (first | refine ret_pure ?_ ?_ ?_ | refine ret_ro ?_ ?_ ?_); focus exact (okA Tryz.ntmps62 Tryz.results62)
      rotate_left; focus exact frA
      simp only [resA, resV, Tryz.results62, go_sem]
      all_goals try exact coA
      all_goals exact .dat rfl
     | false =>
      repeat' (first | refine aQ fun K hK => ?_ | ((first | refine aK fun R hR => ?_ | refine aD mixed fun R hR => ?_); simp only [go_sem, k1, Int.toNat_natCast, List.length_map, a1, b1, c1, d1]) | ((first | (refine hR _ ?_; clear hR R) | refine aZ rfl ?_); try refine aP ?_) | ((repeat (fail_if_success refine hK _ ?_); clear hK K); refine hK _ ?_; clear hK K) | refine aT ?_ | refine aF ?_ | refine aB ?_ | refine aN ?_ | fail)
      (first | refine ret_pure ?_ ?_ ?_ | refine ret_ro ?_ ?_ ?_); focus exact (okA Tryz.ntmps62 Tryz.results62)
      rotate_left; focus exact frA
      simp only [resA, resV, Tryz.results62, go_sem]
      all_goals try exact coA
      all_goals exact .dat rfl
 | false =>
  rw [if_neg (by decide)]
  cases k2 : i.kind == 2 with
  | true =>
   rw [if_pos rfl]
   cases a1 : i.right == 0 with
   | false =>
    repeat' (first | refine aQ fun K hK => ?_ | ((first | refine aK fun R hR => ?_ | refine aD mixed fun R hR => ?_); simp only [go_sem, k1, k2, a1, Int.toNat_natCast, List.length_map]) | ((first | (refine hR _ ?_; clear hR R) | refine aZ rfl ?_); try refine aP ?_) | ((repeat (fail_if_success refine hK _ ?_); clear hK K); refine hK _ ?_; clear hK K) | refine aT ?_ | refine aF ?_ | refine aB ?_ | refine aN ?_ | fail)
    (first | refine ret_pure ?_ ?_ ?_ | refine ret_ro ?_ ?_ ?_); focus exact (okA Tryz.ntmps62 Tryz.results62)
    rotate_left; focus exact frA
    simp only [resA, resV, Tryz.results62, go_sem]
    all_goals try exact coA
    all_goals exact .dat rfl
   | true =>
    repeat' (first | refine aQ fun K hK => ?_ | ((first | refine aK fun R hR => ?_ | refine aD mixed fun R hR => ?_); simp only [go_sem, k1, k2, a1, Int.toNat_natCast, List.length_map]) | ((first | (refine hR _ ?_; clear hR R) | refine aZ rfl ?_); try refine aP ?_) | ((repeat (fail_if_success refine hK _ ?_); clear hK K); refine hK _ ?_; clear hK K) | refine aT ?_ | refine aF ?_ | refine aB ?_ | refine aN ?_ | fail)
    (first | refine ret_pure ?_ ?_ ?_ | refine ret_ro ?_ ?_ ?_); focus exact (okA Tryz.ntmps62 Tryz.results62)
    rotate_left; focus exact frA
    simp only [resA, resV, Tryz.results62, go_sem]
    all_goals try exact coA
    all_goals exact .dat rfl
  | false =>
   rw [if_neg (by decide)]
   repeat' (first | refine aQ fun K hK => ?_ | ((first | refine aK fun R hR => ?_ | refine aD mixed fun R hR => ?_); simp only [go_sem, k1, k2]) | ((first | (refine hR _ ?_; clear hR R) | refine aZ rfl ?_); try refine aP ?_) | ((repeat (fail_if_success refine hK _ ?_); clear hK K); refine hK _ ?_; clear hK K) | refine aT ?_ | refine aF ?_ | refine aB ?_ | refine aN ?_ | fail)
   (first | refine ret_pure ?_ ?_ ?_ | refine ret_ro ?_ ?_ ?_); focus exact (okA Tryz.ntmps62 Tryz.results62)
   rotate_left; focus exact frA
   simp only [resA, resV, Tryz.results62, go_sem]
   all_goals try exact coA
   all_goals exact .dat rfl
theorem termsOf_app (c d : List Lt) : termsOf (c ++ d) = termsOf c ++ termsOf d := by unfold termsOf; rw [List.flatMap_append]
theorem own_small {g : List Int} {c : List Lt} (hc : OwnC g c) (hl : c.length ≤ 8) : Small c := ⟨by omega, fun l hl => by have := own_sz (hc l hl).1; omega, fun l hl => by have := own_sz (hc l hl).2; omega⟩
def BoOut (g : List Int) (x y : Tm) : Int ⊕ Bs → Prop
 | .inl e => e ≠ 0 ∧ Tri Tryz.prog 95 [.d (tmDV x), .d (tmDV y)] (pure' (.tup [.d (.v (.map none)), iA e]))
 | .inr bs => Bnd g bs ∧ sub (sbOf bs) x = sub (sbOf bs) y ∧ ∀ n', Tri Tryz.prog 95 [.d (tmDV x), .d (tmDV y)] (bagE n' (bsE bs) (.tup [.map n', iA 0]))
theorem boOut_any {g : List Int} {x y : Tm} (hx : own g x = 0) (hy : own g y = 0) : ∃ o, BoOut g x y o := by
 rcases both_any hx hy with ⟨e, h1, h2⟩ | ⟨bs, h1, h2, h3⟩
 ·exact ⟨.inl e, h1, h2⟩
 ·exact ⟨.inr bs, h1, h2, h3⟩
def putOk (c d' : List Lt) (n m : Nat) (lt rt : Bool) (place : List Int) : Int ⊕ Bs → List Lt × Int
 | .inl e => ([], e)
 | .inr bs => if pairsAns (fallsAns bs) [((sideG (ltAt c n) lt).1, (sideG (ltAt c n) lt).2), ((sideG (ltAt d' m) rt).1, (sideG (ltAt d' m) rt).2)] = 0 then ifMadeAns bs (c.eraseIdx n ++ d'.set m (laidL (ltAt d' m) rt place (sideG (ltAt c n) lt).2))
   else ([], pairsAns (fallsAns bs) [((sideG (ltAt c n) lt).1, (sideG (ltAt c n) lt).2), ((sideG (ltAt d' m) rt).1, (sideG (ltAt d' m) rt).2)])
def putOut (c d : List Lt) (n m : Nat) (lt rt : Bool) (place : List Int) (o : Int ⊕ Bs) : List Lt × Int :=
 match atG (sideG (ltAt d m) rt).1 place with
 | none => ([], 5)
 | some x => if (ltAt c n).y = false ∨ x.v > 0 then ([], 4) else if ((standV d).any fun v => decide (v + farOf (standV c) > 1000)) = true then ([], 2)
   else putOk c (d.map (subLt fun v => vt (v + farOf (standV c)))) n m lt rt place o
theorem put_out {g : List Int} (c d : List Lt) (kind left right : Int) (n m : Nat) (lt rt : Bool) (place : List Int) (hc : OwnC g c) (hd : OwnC g d) (hlc : c.length ≤ 8) (hld : d.length ≤ 8) (hn : n < c.length) (hm : m < d.length) (hp : place.length ≤ 4000000) (o : Int ⊕ Bs)
  (hBo : ∀ x, atG (sideG d[m] rt).1 place = some x → ¬ (c[n].y = false ∨ x.v > 0) → ((standV d).any fun v => decide (v + farOf (standV c) > 1000)) = false → BoOut g (sideG c[n] lt).1 (sub (fun v => vt (v + farOf (standV c))) x) o) :
  Tri Tryz.prog 65 [.d (clDV c), .d (clDV d), .d (ifDV ⟨kind, left, right, n, m, lt, rt, place⟩)] (pure' (.tup [.d (clDV (putOut c d n m lt rt place o).1), iA (putOut c d n m lt rt place o).2])) ∧ InfOk g [c, d] (putOut c d n m lt rt place o) := by
 cases hat : atG (sideG d[m] rt).1 place with
 | none => rw [show putOut c d n m lt rt place o = ([], 5) from by unfold putOut; rw [ltAt_nat hm, hat]]; exact ⟨put_none c d kind left right n m lt rt place hc hd hlc hld hn hm hp hat, .err (by decide)⟩
 | some x =>
  by_cases hno : c[n].y = false ∨ x.v > 0
  ·rw [show putOut c d n m lt rt place o = ([], 4) from by unfold putOut; rw [ltAt_nat hm, hat, ltAt_nat hn]; exact if_pos hno]; exact ⟨put_no c d kind left right n m lt rt place hc hd hlc hld hn hm hp hat hno, .err (by decide)⟩
  have hy : c[n].y = true := by
   cases h : c[n].y with
   | true => rfl
   | false => exact absurd (.inl h) hno
  have hv : ¬ x.v > 0 := fun h => hno (.inr h)
  obtain ⟨xa, xb, hX⟩ : ∃ xa xb, c[n] = ⟨true, xa, xb⟩ := ⟨c[n].a, c[n].b, by cases hq : c[n] with | mk y a b => rw [hq] at hy; simp only at hy; rw [hy]⟩
  have hfar := far_own hc
  have hfv := far_ge (standV c) 0
  have hvd : ∀ v ∈ standV d, 0 ≤ v ∧ v ≤ 100000 := fun v hv => by
   rw [stand_vars hd] at hv
   have := FormC.vars hd.form v hv; omega
  have hMv := moved_tri d (farOf (standV c)) (own_small hd hld) (by omega) hvd
  have from_ := fun A hT => put_from c d kind left right n m lt rt place hc hd hlc hld hn hm hp x xa xb hat hX hv A hT
  cases hbig : (standV d).any fun v => decide (v + farOf (standV c) > 1000) with
  | true =>
   have e : movedAns d (farOf (standV c)) = ([], 2) := by unfold movedAns; rw [if_pos hbig]
   rw [e] at hMv
   rw [show putOut c d n m lt rt place o = ([], 2) from by unfold putOut; rw [ltAt_nat hm, hat, ltAt_nat hn]; exact (if_neg hno).trans (if_pos hbig)]
   exact ⟨from_ ([], 2) fun hfn σ s0 s1 s5 s8 s11 s13 b0 b8 b11 hF hk => putT_many c d kind left right _ n m lt rt place xa xb x hfn σ s0 s1 s5 s8 s11 s13 b0 b8 b11 hF hk hMv, .err (by decide)⟩
  | false =>
   have e : movedAns d (farOf (standV c)) = (d.map (subLt fun v => vt (v + farOf (standV c))), 0) := by unfold movedAns; rw [if_neg (by rw [hbig]; decide), moved_map hd]
   rw [e] at hMv
   have hBo := hBo x hat hno hbig
   have eO : putOut c d n m lt rt place o = putOk c (d.map (subLt fun v => vt (v + farOf (standV c)))) n m lt rt place o := by unfold putOut; rw [ltAt_nat hm, hat, ltAt_nat hn]; exact (if_neg hno).trans (if_neg (by rw [hbig]; decide))
   rw [eO]
   have hod : OwnC g (d.map (subLt fun v => vt (v + farOf (standV c)))) := moved_own hd hfar.1 fun v hv => by
    have := List.any_eq_false.1 hbig v hv
    simp at this; omega
   have hdl : (d.map (subLt fun v => vt (v + farOf (standV c)))).length ≤ 8 := by rw [List.length_map]; exact hld
   have hm' : m < (d.map (subLt fun v => vt (v + farOf (standV c)))).length := by rw [List.length_map]; exact hm
   have hxm : atG (sideG (d.map (subLt fun v => vt (v + farOf (standV c))))[m] rt).1 place = some (sub (fun v => vt (v + farOf (standV c))) x) := by
    rw [List.getElem_map, sideG_sub]
    exact at_sub _ place _ x (own_good (sideG_own hd hm rt).1) hat
   have hmh : ∀ sz tb, mdOk g sz tb = 0 → HoldsA sz tb d → HoldsA sz tb (d.map (subLt fun v => vt (v + farOf (standV c)))) := fun sz tb hmd h => moved_holds (mdOk_all hmd).2.1 hfar.1 h
   clear hbig e eO
   generalize hd' : d.map (subLt fun v => vt (v + farOf (standV c))) = d' at *
   generalize sub (fun v => vt (v + farOf (standV c))) x = x' at hxm hBo
   have o1 := sideG_own hc hn lt
   have o2 := sideG_own hod hm' rt
   have hx'o : own g x' = 0 := own_piece o2.1 (atG_parts place _ _ hxm)
   obtain ⟨wy, wa, wb, hW⟩ : ∃ wy wa wb, d'[m] = ⟨wy, wa, wb⟩ := ⟨d'[m].y, d'[m].a, d'[m].b, rfl⟩
   have sL := ifSides_tri c[n] lt
   have sR := ifSides_tri d'[m] rt
   have hFd := find_tri place _ hp (show (sideG d'[m] rt).1.size ≤ 4000000 by have := own_sz o2.1; omega)
   have ea : atA (sideG d'[m] rt).1 place = (x', true) := by unfold atA; rw [hxm]
   rw [ea] at hFd
   cases o with
   | inl e =>
    obtain ⟨he, hB⟩ := hBo
    rw [hX] at sL hB
    rw [hW] at sR hFd
    exact ⟨from_ ([], e) fun hfn σ s0 s1 s5 s8 s11 s13 b0 b8 b11 hF hk => putT_both c d kind left right _ n m lt rt place xa xb x hfn σ s0 s1 s5 s8 s11 s13 b0 b8 b11 hF hk d' _ _ x' wy wa wb hm' hW hdl hMv sL sR hFd e he hB, .err he⟩
   | inr bs =>
    obtain ⟨B, hs, hB⟩ := hBo
    have hsz := fun t (h : own g t = 0) => own_sz h
    have eP : putOk c d' n m lt rt place (.inr bs) = if pairsAns (fallsAns bs) [((sideG c[n] lt).1, (sideG c[n] lt).2), ((sideG d'[m] rt).1, (sideG d'[m] rt).2)] = 0 then ifMadeAns bs (c.eraseIdx n ++ d'.set m (laidL d'[m] rt place (sideG c[n] lt).2)) else ([], pairsAns (fallsAns bs) [((sideG c[n] lt).1, (sideG c[n] lt).2), ((sideG d'[m] rt).1, (sideG d'[m] rt).2)]) := by unfold putOk; rw [ltAt_nat hn, ltAt_nat hm']
    rw [eP]
    clear eP
    have hP := pairs_any B [((sideG c[n] lt).1, (sideG c[n] lt).2), ((sideG d'[m] rt).1, (sideG d'[m] rt).2)] (by simp) fun p hp => by
     have q1 := own_sz o1.1; have q2 := own_sz o1.2; have q3 := own_sz o2.1; have q4 := own_sz o2.2
     simp only [List.mem_cons, List.not_mem_nil, or_false] at hp
     rcases hp with rfl | rfl
     ·exact ⟨(own_form o1.1).1, (own_form o1.2).1, by simp only; omega, by simp only; omega⟩
     ·exact ⟨(own_form o2.1).1, (own_form o2.2).1, by simp only; omega, by simp only; omega⟩
    generalize hE : pairsAns (fallsAns bs) [((sideG c[n] lt).1, (sideG c[n] lt).2), ((sideG d'[m] rt).1, (sideG d'[m] rt).2)] = E at hP ⊢
    by_cases hE0 : E = 0
    ·subst hE0
     have hL := lay_tri place (sideG d'[m] rt).1 (sideG c[n] lt).2 x' hxm hp (by have := own_sz o2.1; omega)
     have hf : FormC g (c.eraseIdx n ++ d'.set m (laidL d'[m] rt place (sideG c[n] lt).2)) := form_app (form_erase hc.form n) (laid_form hod hm' rt place o1.2 hxm)
     have hle : (c.eraseIdx n ++ d'.set m (laidL d'[m] rt place (sideG c[n] lt).2)).length ≤ 16 := by
      have := List.length_eraseIdx_le c n
      rw [List.length_append, List.length_set]; omega
     have hM := made_any B hf hle fun t ht => by
      rw [termsOf_app, List.mem_append] at ht
      rcases ht with ht | ht
      ·have := hc.size t (termsOf_erase ht); omega
      ·have := laid_size hod hm' rt place o1.2 hxm t ht; omega
     have hok : InfOk g [c, d] (ifMadeAns bs (c.eraseIdx n ++ d'.set m (laidL d'[m] rt place (sideG c[n] lt).2))) := made_inf B hf fun sz tb hmd hp =>
      put_holds (mdOk_all hmd).2.1 (B.inR hmd c) (B.inR hmd d') B.good hn hm' hy lt rt place (own_good o2.1) hxm hs (hp c (by simp)) (hmh sz tb hmd (hp d (by simp)))
     generalize ifMadeAns bs (c.eraseIdx n ++ d'.set m (laidL d'[m] rt place (sideG c[n] lt).2)) = A at hM hok ⊢
     rw [if_pos rfl]
     refine ⟨from_ A fun hfn σ s0 s1 s5 s8 s11 s13 b0 b8 b11 hF hk => ?_, hok⟩
     intro N' c' hN' hc'
     clear hok from_ hf hle
     cases rt with
     | false =>
      have el : laidL d'[m] false place (sideG c[n] lt).2 = ⟨wy, layG (sideG d'[m] false).1 place (sideG c[n] lt).2, (sideG d'[m] false).2⟩ := by unfold laidL; rw [hW]; rfl
      rw [el] at hM
      rw [hX] at sL hB hP hM hL
      rw [hW] at sR hFd hP hM hL
      exact putT_left c d kind left right _ n m lt false place xa xb x hfn σ s0 s1 s5 s8 s11 s13 b0 b8 b11 hF hk d' _ _ x' wy wa wb hm' hW hdl hMv sL sR hFd bs hB _ A hn hlc _ rfl hP hL rfl hM hN' hc'
     | true =>
      have el : laidL d'[m] true place (sideG c[n] lt).2 = ⟨wy, (sideG d'[m] true).2, layG (sideG d'[m] true).1 place (sideG c[n] lt).2⟩ := by unfold laidL; rw [hW]; rfl
      rw [el] at hM
      rw [hX] at sL hB hP hM hL
      rw [hW] at sR hFd hP hM hL
      exact putT_right c d kind left right _ n m lt true place xa xb x hfn σ s0 s1 s5 s8 s11 s13 b0 b8 b11 hF hk d' _ _ x' wy wa wb hm' hW hdl hMv sL sR hFd bs hB _ A hn hlc _ rfl hP hL rfl hM hN' hc'
    ·rw [hX] at sL hB hP
     rw [hW] at sR hFd hP
     rw [if_neg hE0]
     exact ⟨from_ ([], E) fun hfn σ s0 s1 s5 s8 s11 s13 b0 b8 b11 hF hk => putT_pairs c d kind left right _ n m lt rt place xa xb x hfn σ s0 s1 s5 s8 s11 s13 b0 b8 b11 hF hk d' _ _ x' wy wa wb hm' hW hdl hMv sL sR hFd bs hB E hE0 hP, .err hE0⟩
theorem put_any {g : List Int} (c d : List Lt) (i : Inf) (hc : OwnC g c) (hd : OwnC g d) (hlc : c.length ≤ 8) (hld : d.length ≤ 8) {n m : Nat} (hi : i.leftAt = n) (hj : i.rightAt = m) (hn : n < c.length) (hm : m < d.length) (hp : i.place.length ≤ 4000000) :
  ∃ a : List Lt × Int, Tri Tryz.prog 65 [.d (clDV c), .d (clDV d), .d (ifDV i)] (pure' (.tup [.d (clDV a.1), iA a.2])) ∧ InfOk g [c, d] a := by
 obtain ⟨kind, left, right, leftAt, rightAt, lt, rt, place⟩ := i
 simp only at hi hj hp
 subst hi; subst hj
 by_cases hw : ∃ x, atG (sideG d[m] rt).1 place = some x ∧ ¬ (c[n].y = false ∨ x.v > 0) ∧ ((standV d).any fun v => decide (v + farOf (standV c) > 1000)) = false
 ·obtain ⟨x, hat, _, hbig⟩ := hw
  have hod : OwnC g (d.map (subLt fun v => vt (v + farOf (standV c)))) := moved_own hd (far_own hc).1 fun v hv => by
   have := List.any_eq_false.1 hbig v hv
   simp at this; omega
  have hm' : m < (d.map (subLt fun v => vt (v + farOf (standV c)))).length := by rw [List.length_map]; exact hm
  have hxm : atG (sideG (d.map (subLt fun v => vt (v + farOf (standV c))))[m] rt).1 place = some (sub (fun v => vt (v + farOf (standV c))) x) := by
   rw [List.getElem_map, sideG_sub]
   exact at_sub _ place _ x (own_good (sideG_own hd hm rt).1) hat
  obtain ⟨o, ho⟩ := boOut_any (sideG_own hc hn lt).1 (own_piece (sideG_own hod hm' rt).1 (atG_parts place _ _ hxm))
  exact ⟨_, put_out c d kind left right n m lt rt place hc hd hlc hld hn hm hp o fun y hy _ _ => by rw [hat] at hy; cases hy; exact ho⟩
 ·exact ⟨_, put_out c d kind left right n m lt rt place hc hd hlc hld hn hm hp (.inl 1) fun x h1 h2 h3 => absurd ⟨x, h1, h2, h3⟩ hw⟩
def q0 : Tm := .mk 0 0 []
def q1 (t : Tm) : Tm := .mk 0 1 [t]
def ibA : Lt := ⟨true, q1 (vt 1), q0⟩
def ibB : Lt := ⟨false, q1 q0, q0⟩
theorem sub_q0 (θ : Int → Tm) : sub θ q0 = q0 := rfl
theorem sub_q1 (θ : Int → Tm) (t : Tm) : sub θ (q1 t) = q1 (sub θ t) := rfl
theorem own_q0 : own [0, 1] q0 = 0 := rfl
theorem own_qv : own [0, 1] (q1 (vt 1)) = 0 := rfl
theorem own_qq : own [0, 1] (q1 q0) = 0 := rfl
theorem ib_own (l : Lt) (h : l = ibA ∨ l = ibB) : OwnC [0, 1] [l] := fun x hx => by
 rw [List.mem_singleton.1 hx]
 rcases h with rfl | rfl
 ·exact ⟨rfl, rfl⟩
 ·exact ⟨rfl, rfl⟩
theorem ib_stand : standV [ibB] = [] := rfl
theorem q_ne (t : Tm) : q1 t ≠ q0 := fun h => by cases h
theorem ib_uni : ∃ bs : Bs, BoOut [0, 1] (q1 (vt 1)) (q1 q0) (.inr bs) := by
 rcases unify_plain own_qv own_qq with ⟨n, b, _, h2⟩ | ⟨n, b, rk, U⟩
 ·exact absurd rfl (h2 fun _ => q0)
 ·have h5 : oneF 5 [] (q1 (vt 1)) (q1 q0) = some (true, [(1, q0)]) := by rfl
  have e1 := one_more (show 5 ≤ n + 1 + 5 by omega) h5
  rw [one_more (show n + 1 ≤ n + 1 + 5 by omega) U.one] at e1
  have eb : b = [(1, q0)] := by cases e1; rfl
  have hs := U.same
  rw [sub_q1, sub_q1, sub_q0] at hs
  have hg : greatB (sizT rk b) (q1 (vt 1)) b = false := by
   unfold greatB
   rw [Bool.or_eq_false_iff]
   refine ⟨?_, ?_⟩
   ·have : sizT rk b (q1 (vt 1)) ≤ 120 := size_le.2 (by rw [sub_q1, hs]; decide)
    simp; omega
   ·rw [eb]
    have : sizT rk [(1, q0)] q0 ≤ 120 := size_le.2 (by rw [sub_q0]; decide)
    simp; omega
  exact both_uni own_qv U hg
theorem raw_q0 (bs : Bs) : rawAns bs q0 = (q0, 0) := by
 rw [rawAns_pure (own_pure own_q0), sub_q0]; rfl
theorem gt_q10 (t : Tm) : gt (q1 t) q0 = true := by
 rw [gt_eq]
 unfold gtStep
 refine (if_neg (show ¬ (0 : Int) > 0 by decide)).trans ?_
 by_cases h : ([t].any fun a => same a q0 || gt a q0) = true
 ·exact if_pos h
 ·refine (if_neg h).trans ((if_neg ?_).trans (if_pos (show (1 : Int) > 0 by decide)))
  rintro (h | h | h)
  ·exact absurd (show (0 : Int) > 0 from h) (by decide)
  ·exact absurd (show (1 : Int) < 0 from h) (by decide)
  ·cases h
theorem ib_out0 {bs : Bs} (h : sub (sbOf bs) (q1 (vt 1)) = sub (sbOf bs) (q1 q0)) : putOut [ibA] [ibB] 0 0 false false [] (.inr bs) = ([], 0) := by
 have e0 : putOut [ibA] [ibB] 0 0 false false [] (.inr bs) = putOk [ibA] [ibB] 0 0 false false [] (.inr bs) := rfl
 have e1 : putOk [ibA] [ibB] 0 0 false false [] (.inr bs) = if pairsAns (fallsAns bs) [(q1 (vt 1), q0), (q1 q0, q0)] = 0 then ifMadeAns bs [⟨false, q0, q0⟩] else ([], pairsAns (fallsAns bs) [(q1 (vt 1), q0), (q1 q0, q0)]) := rfl
 have r1 : rawAns bs (q1 (vt 1)) = (q1 q0, 0) := by
  rw [rawAns_pure (own_pure own_qv), h, sub_q1, sub_q0]; rfl
 have r2 : rawAns bs (q1 q0) = (q1 q0, 0) := by
  rw [rawAns_pure (own_pure own_qq), sub_q1, sub_q0]; rfl
 have f1 : fallsAns bs (q1 (vt 1)) q0 = (true, 0) := by unfold fallsAns; rw [r1, raw_q0]; rfl
 have f2 : fallsAns bs (q1 q0) q0 = (true, 0) := by unfold fallsAns; rw [r2, raw_q0]; rfl
 have ep : pairsAns (fallsAns bs) [(q1 (vt 1), q0), (q1 q0, q0)] = 0 := by simp [pairsAns, f1, f2]
 have em : mapM (madeS bs) q0 = q0 := by
  have : madeS bs q0 = (q0, false) := by unfold madeS; split <;> rfl
  unfold q0 at this ⊢
  rw [mapM, this]; rfl
 rw [e0, e1, if_pos ep]
 unfold ifMadeAns
 have et : (termsOf [(⟨false, q0, q0⟩ : Lt)]).any (fun t => (rawAns bs t).2 != 0) = false := by
  rw [show termsOf [(⟨false, q0, q0⟩ : Lt)] = [q0, q0] from rfl]
  simp [raw_q0]
 rw [et]
 have ec : [(⟨false, q0, q0⟩ : Lt)].map (mapLt (mapM (madeS bs))) = [⟨false, q0, q0⟩] := by
  rw [List.map_cons, List.map_nil]; unfold mapLt; rw [em]
 rw [ec]
 rfl
theorem ib_err {lt rt : Bool} {pl : List Int} {x l : Tm} (o : Int ⊕ Bs) (hat : atG (sideG ibB rt).1 pl = some x) (hl : (sideG ibA lt).1 = l) (ho : BoOut [0, 1] l (sub (fun v => vt (v + 1)) x) o) (hne : ∀ bs : Bs, sub (sbOf bs) l = sub (sbOf bs) (sub (fun v => vt (v + 1)) x) → lt = true)
  (hv : ¬ x.v > 0) : (putOut [ibA] [ibB] 0 0 lt rt pl o).2 ≠ 0 := by
 have e0 : putOut [ibA] [ibB] 0 0 lt rt pl o = putOk [ibA] [ibB] 0 0 lt rt pl o := by
  unfold putOut
  rw [show ltAt [ibB] ((0 : Nat) : Int) = ibB from rfl, hat]
  exact (if_neg (by rintro (h | h); cases h; exact hv h)).trans (if_neg (by rw [ib_stand]; decide))
 rw [e0]
 cases o with
 | inl e => exact ho.1
 | inr bs =>
  obtain rfl := hne bs ho.2.1
  have e1 : putOk [ibA] [ibB] 0 0 true rt pl (.inr bs) = if pairsAns (fallsAns bs) [(q0, q1 (vt 1)), ((sideG ibB rt).1, (sideG ibB rt).2)] = 0 then ifMadeAns bs ([ibB].set 0 (laidL ibB rt pl (q1 (vt 1)))) else ([], pairsAns (fallsAns bs) [(q0, q1 (vt 1)), ((sideG ibB rt).1, (sideG ibB rt).2)]) := rfl
  have hp : pairsAns (fallsAns bs) [(q0, q1 (vt 1)), ((sideG ibB rt).1, (sideG ibB rt).2)] ≠ 0 := by
   rw [pairsAns]
   have hf : fallsAns bs q0 (q1 (vt 1)) = (false, 2) ∨ fallsAns bs q0 (q1 (vt 1)) = (false, 0) := by
    unfold fallsAns
    rw [raw_q0, rawAns_pure (own_pure own_qv)]
    by_cases h3 : (sub (sbOf bs) (q1 (vt 1))).size > 120
    ·rw [if_pos h3]; exact .inl rfl
    ·rw [if_neg h3, sub_q1]
     refine .inr ?_
     simp [gt_q10]
   rcases hf with h | h <;> simp [h]
  rw [e1, if_neg hp]
  exact hp
set_option maxRecDepth 20000 in
theorem ib_raw (tu ot : Bool) (pl : List Int) (hp : pl.length ≤ 4000000) (hnm : namedB [[ibA], [ibB]] (tryI 0 1 0 0 tu ot pl) = true) {a : List Lt × Int}
  (hP : Tri Tryz.prog 65 [.d (clDV [ibA]), .d (clDV [ibB]), .d (ifDV (tryI 0 1 0 0 tu ot pl))] (pure' (.tup [.d (clDV a.1), iA a.2]))) :
  Tri Tryz.prog 24 [.d (.sl [clDV [ibA], clDV [ibB]]), .d (ifDV (tryI 0 1 0 0 tu ot pl))] (pure' (.tup [.d (clDV a.1), iA a.2])) := by
 have hN := named_tri [[ibA], [ibB]] (tryI 0 1 0 0 tu ot pl) (by decide) (by decide) (by decide) hp
 have hO := nothing_tri (tryI 0 1 0 0 tu ot pl)
 rw [hnm] at hN
 rw [show nothingB (tryI 0 1 0 0 tu ot pl) = true from rfl] at hO
 have a1 : decide ((3 : Int) < 1) = false := rfl
 have a2 : decide ((3 : Int) > 3) = false := rfl
 have k1 : ((3 : Int) == 1) = false := rfl
 have k2 : ((3 : Int) == 2) = false := rfl
 have z2 : (0 : Int) < ((0 + 1 + 1 : Nat) : Int) := by decide
 have z3 : (1 : Int) < ((0 + 1 + 1 : Nat) : Int) := by decide
 unfold tryI at *
 refine aE Tryz.func24 rfl Tryz.ntmps24 fun w0 h0 k hrd hwr => ?_
 repeat' (first | refine aQ fun K hK => ?_ | ((first | refine aK fun R hR => ?_ | refine aD mixed fun R hR => ?_); simp only [go_sem, a1, a2, k1, k2, z2, z3, Int.toNat_zero, Int.toNat_one]) | ((first | (refine hR _ ?_; clear hR R) | refine aZ rfl ?_); try refine aP ?_) | ((repeat (fail_if_success refine hK _ ?_); clear hK K); refine hK _ ?_; clear hK K) | refine aT ?_ | refine aF ?_ | refine aB ?_ | ((first | refine CallK.pure (enter61) (hN) ?_ ?_ | refine CallD.pure (enter61) (hN) ?_ ?_ | refine CallK.pure (enter62) (hO) ?_ ?_ | refine CallD.pure (enter62) (hO) ?_ ?_ | refine CallK.pure (enter65) (hP) ?_ ?_ | refine CallD.pure (enter65) (hP) ?_ ?_); (focus exact aC); simp only [go_sem, a1, a2, k1, k2, z2, z3, Int.toNat_zero, Int.toNat_one]) | refine aN ?_ | fail)
 (first | refine ret_pure ?_ ?_ ?_ | refine ret_ro ?_ ?_ ?_); focus exact (okA Tryz.ntmps24 Tryz.results24)
 rotate_left; focus exact frT
 simp only [resA, resV, Tryz.results24, go_sem]
 all_goals try exact coA
theorem ib_ans : ∃ ans : Nat → List Lt × Int, ans 0 = ([], 0) ∧ ∀ i, i < 6 → Tri Tryz.prog 24 [.d (.sl [clDV [ibA], clDV [ibB]]), .d (ifDV (tryN i))] (pure' (.tup [.d (clDV (ans i).1), iA (ans i).2])) ∧ (0 < i → (ans i).2 ≠ 0) := by
 have hA := ib_own ibA (.inl rfl)
 have hB := ib_own ibB (.inr rfl)
 have put := fun (tu ot : Bool) (pl : List Int) (hp : pl.length ≤ 4000000) (o : Int ⊕ Bs) h => (put_out [ibA] [ibB] 3 0 1 0 0 tu ot pl hA hB (by decide) (by decide) (by decide) (by decide) hp o h).1
 have key : ∀ i, i < 6 → ∃ a : List Lt × Int, Tri Tryz.prog 24 [.d (.sl [clDV [ibA], clDV [ibB]]), .d (ifDV (tryN i))] (pure' (.tup [.d (clDV a.1), iA a.2])) ∧ (i = 0 → a = ([], 0)) ∧ (0 < i → a.2 ≠ 0) := by
  intro i hi
  have err : ∀ (tu ot : Bool) (pl : List Int) (x l : Tm), pl.length ≤ 4000000 → namedB [[ibA], [ibB]] (tryI 0 1 0 0 tu ot pl) = true → atG (sideG ibB ot).1 pl = some x → (sideG ibA tu).1 = l → own [0, 1] l = 0 → own [0, 1] (sub (fun v => vt (v + 1)) x) = 0 → (∀ bs : Bs, sub (sbOf bs) l = sub (sbOf bs) (sub (fun v => vt (v + 1)) x) → tu = true) → ¬ x.v > 0 →
    ∃ a : List Lt × Int, Tri Tryz.prog 24 [.d (.sl [clDV [ibA], clDV [ibB]]), .d (ifDV (tryI 0 1 0 0 tu ot pl))] (pure' (.tup [.d (clDV a.1), iA a.2])) ∧ a.2 ≠ 0 := by
   intro tu ot pl x l hp hnm hat hl hol hox hne hv
   obtain ⟨o, ho⟩ := boOut_any hol hox
   refine ⟨_, ib_raw tu ot pl hp hnm (put tu ot pl hp o fun y h1 _ _ => ?_), ib_err o hat hl ho hne hv⟩
   have h1 : atG (sideG ibB ot).1 pl = some y := h1
   rw [hat] at h1; cases h1
   have : BoOut [0, 1] (sideG ibA tu).1 (sub (fun v => vt (v + 1)) x) o := by rw [hl]; exact ho
   exact this
  match i with
  | 0 =>
   obtain ⟨bs, hb⟩ := ib_uni
   refine ⟨([], 0), ?_, fun _ => rfl, fun h => absurd h (by decide)⟩
   have hP := put false false [] (by decide) (.inr bs) fun y h1 _ _ => by
    have h1 : some (q1 q0) = some y := h1
    cases h1; exact hb
   rw [ib_out0 hb.2.1] at hP
   exact ib_raw false false [] (by decide) rfl hP
  | 1 =>
   obtain ⟨a, h1, h2⟩ := err false false [0] q0 (q1 (vt 1)) (by decide) rfl rfl rfl own_qv own_q0 (fun bs h => absurd h (by rw [sub_q1, sub_q0, sub_q0]; exact q_ne _)) (by decide)
   exact ⟨a, h1, fun h => absurd h (by decide), fun _ => h2⟩
  | 2 =>
   obtain ⟨a, h1, h2⟩ := err false true [] q0 (q1 (vt 1)) (by decide) rfl rfl rfl own_qv own_q0 (fun bs h => absurd h (by rw [sub_q1, sub_q0, sub_q0]; exact q_ne _)) (by decide)
   exact ⟨a, h1, fun h => absurd h (by decide), fun _ => h2⟩
  | 3 =>
   obtain ⟨a, h1, h2⟩ := err true false [] (q1 q0) q0 (by decide) rfl rfl rfl own_q0 own_qq (fun _ _ => rfl) (by decide)
   exact ⟨a, h1, fun h => absurd h (by decide), fun _ => h2⟩
  | 4 =>
   obtain ⟨a, h1, h2⟩ := err true false [0] q0 q0 (by decide) rfl rfl rfl own_q0 own_q0 (fun _ _ => rfl) (by decide)
   exact ⟨a, h1, fun h => absurd h (by decide), fun _ => h2⟩
  | 5 =>
   obtain ⟨a, h1, h2⟩ := err true true [] q0 q0 (by decide) rfl rfl rfl own_q0 own_q0 (fun _ _ => rfl) (by decide)
   exact ⟨a, h1, fun h => absurd h (by decide), fun _ => h2⟩
  | i + 6 => omega
 refine ⟨fun i => if h : i < 6 then (key i h).choose else ([], 0), ?_, fun i hi => ?_⟩
 ·dsimp only
  rw [dif_pos (by decide)]
  exact (key 0 (by decide)).choose_spec.2.1 rfl
 ·dsimp only
  rw [dif_pos hi]
  exact ⟨(key i hi).choose_spec.1, (key i hi).choose_spec.2.2⟩
end Go.Proofs.YtmeekpinkfpnhabGreat
