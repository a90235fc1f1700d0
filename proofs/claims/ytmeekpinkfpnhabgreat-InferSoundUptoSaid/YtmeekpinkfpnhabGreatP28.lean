/- slices. -/
import Derived.Test.YtmeekpinkfpnhabGreatP07
import Derived.Test.YtmeekpinkfpnhabGreatP08
import Derived.Test.YtmeekpinkfpnhabGreatP14
import Derived.Test.YtmeekpinkfpnhabGreatP21
import Derived.Test.YtmeekpinkfpnhabGreatP24
import Derived.Test.YtmeekpinkfpnhabGreatP27
set_option linter.all false
namespace Go.Proofs.YtmeekpinkfpnhabGreat
open Go.RowKit
set_option maxRecDepth 20000 in
theorem moved1_tri (b mm : Nm) (bs : Bs) (hbs : ∀ p ∈ bs, p.2.size ≤ 4000000) (t : Tm) (ht : t.size ≤ 4000000) : Tri Tryz.prog 125 [.d (tmDV t), .ptr b 0] (rdE (bsO b mm bs) (.d (tmDV (mapM (madeS bs) t)))) := by
 refine aER Tryz.func125 rfl Tryz.ntmps125 fun w0 h0 k hro => ?_
 obtain ⟨n1, eb⟩ := hro.get _ (List.mem_cons_self ..)
 obtain ⟨n2, em⟩ := hro.get _ (List.mem_cons_of_mem _ (List.mem_cons_self ..))
 have q1 := nmne n1
 have q2 := nmne n2
 have h := made_tri mm bs hbs t ht
 repeat' (first | refine aQ fun K hK => ?_ | ((first | refine aK fun R hR => ?_ | refine aD mixed fun R hR => ?_); simp only [go_sem, eb, em, q1, q2]) | ((first | (refine hR _ ?_; clear hR R) | refine aZ rfl ?_); try refine aP ?_) | ((repeat (fail_if_success refine hK _ ?_); clear hK K); refine hK _ ?_; clear hK K) | refine aT ?_ | refine aF ?_ | refine aB ?_ | ((first | refine CallK.look (enter122) (h) ?_ (⟨fun x hx => by simp only [List.mem_cons, List.not_mem_nil, or_false] at hx; subst hx; exact ⟨Nat.lt_succ_of_lt n2, by simp only [go_sem, em, q2]⟩⟩) (Fr.rfl' _ _) ?_ | refine CallD.look (enter122) (h) ?_ (⟨fun x hx => by simp only [List.mem_cons, List.not_mem_nil, or_false] at hx; subst hx; exact ⟨Nat.lt_succ_of_lt n2, by simp only [go_sem, em, q2]⟩⟩) (Fr.rfl' _ _) (by first | assumption | exact List.cons_ne_nil _ _) ?_); (focus exact aC); simp only [go_sem, eb, em, q1, q2]) | refine aN ?_ | fail)
 (first | refine ret_pure ?_ ?_ ?_ | refine ret_ro ?_ ?_ ?_); focus exact (okA Tryz.ntmps125 Tryz.results125)
 rotate_left; focus exact frA
 simp only [resA, resV, Tryz.results125, go_sem]
 all_goals try exact coA
 all_goals exact co_tm' rfl
theorem shift_none {far : Int} {V : List Int} (hn : V.Nodup) {i : Nat} (hi : i < V.length) : lookB V[i] (shiftB far (V.take i)) = none := by
 refine lookB_none fun p hp e => ?_
 obtain ⟨v, hv, rfl⟩ := List.mem_map.1 hp
 simp only at e
 subst e
 obtain ⟨j, hj, h2⟩ := List.getElem_of_mem hv
 rw [List.length_take] at hj
 rw [List.getElem_take] at h2
 have := (List.getElem_inj hn).1 h2
 omega
theorem shift_take {far : Int} {V : List Int} {i : Nat} (hi : i < V.length) : shiftB far (V.take (i + 1)) = shiftB far (V.take i) ++ [(V[i], .mk (V[i] + far) 0 [])] := by
 unfold shiftB
 rw [List.take_succ_eq_append_getElem hi, List.map_append]; rfl
def movedAns (c : List Lt) (far : Int) : List Lt × Int :=
 if ((standV c).any fun v => decide (v + far > 1000)) = true then ([], 2) else (c.map (mapLt (mapM (madeS (shiftB far (standV c))))), 0)
set_option maxHeartbeats 4000000 in
set_option maxRecDepth 20000 in
theorem moved_tri (c : List Lt) (far : Int) (hc : Small c) (hf : 0 ≤ far ∧ far ≤ 100000) (hv0 : ∀ v ∈ standV c, 0 ≤ v ∧ v ≤ 100000) : Tri Tryz.prog 101 [.d (clDV c), iA far] (pure' (.tup [.d (clDV (movedAns c far).1), iA (movedAns c far).2])) := by
 have hcl := hc.len
 obtain ⟨V, hV⟩ : ∃ V, V = standV c := ⟨_, rfl⟩
 have hst := stands_tri (termsOf c) hc.sizes
 have hVl : V.length ≤ 4000000 := by rw [hV]; exact hc.vars
 have hVn : V.Nodup := by rw [hV]; exact addVs_nodup (by simp)
 have hVe : addVs [] ((termsOf c).flatMap pre) = V := hV.symm
 rw [hVe] at hst
 unfold movedAns
 rw [← hV] at hv0 ⊢
 refine aE Tryz.func101 rfl Tryz.ntmps101 fun w0 h0 k hrd hwr => ?_
 repeat' (first | refine aQ fun K hK => ?_ | ((first | refine aK fun R hR => ?_ | refine aD mixed fun R hR => ?_); simp only [go_sem, List.length_map]) | ((first | (refine hR _ ?_; clear hR R) | refine aZ rfl ?_); try refine aP ?_) | ((repeat (fail_if_success refine hK _ ?_); clear hK K); refine hK _ ?_; clear hK K) | refine aT ?_ | refine aF ?_ | refine aB ?_ | ((first | refine CallK.pure (enter53) (terms_tri c (by omega)) ?_ ?_ | refine CallD.pure (enter53) (terms_tri c (by omega)) ?_ ?_ | refine CallK.pure (enter52) (hst) ?_ ?_ | refine CallD.pure (enter52) (hst) ?_ ?_); (focus exact aC); simp only [go_sem, List.length_map]) | refine aN ?_ | fail)
 refine awp_loop (fun τ => ∃ j : Nat, τ.t 0 = .d (clDV c) ∧ τ.t 1 = iA far ∧ τ.t 6 = .ptr (k + 1, 1) 0 ∧ τ.t 12 = .d (.sl (V.map iD)) ∧ τ.t 13 = iA V.length ∧ τ.t 14 = iA j ∧
  τ.h (k + 1, 1) = some (.cells 133 [.map (k + 1, 0)]) ∧ τ.h (k + 1, 0) = some (.map (bsE (shiftB far (V.take j)))) ∧ Fr k h0 τ.h ∧ k + 1 < τ.k ∧ j ≤ V.length ∧ (V.drop j).any (fun v => decide (v + far > 1000)) = V.any (fun v => decide (v + far > 1000))) (fun τ => V.length - (intOf' (τ.t 14)).toNat) ?_ ?_
 ·refine ⟨0, ?_⟩
  simp only [go_sem, List.take_zero, shiftB, List.map_nil, List.drop_zero, List.length_map]
  and_intros; all_goals try (first | rfl | omega | assumption | exact anA)
 ·rintro τ ⟨j, u0, u1, u6, u12, u13, u14, uh, um, uF, uk, uj, uv⟩
  have r1 := ltne uk
  rcases Nat.lt_or_ge j V.length with jlt | jge
  ·have jz : (j : Int) < (V.length : Int) := by omega
   have e2 : (V.map iD).getD j default = iD V[j] := nth_map iD jlt _
   have hpm := putM_bs (shift_none (far := far) hVn jlt) (.mk (V[j] + far) 0 [])
   rw [← shift_take jlt] at hpm
   have hv1 := hv0 _ (List.getElem_mem jlt)
   rw [List.drop_eq_getElem_cons jlt, List.any_cons] at uv
   generalize V[j] = v at *
   cases a1 : decide (v + far > 1000) with
   | true =>
    rw [a1, Bool.true_or] at uv
    repeat' (first | refine aQ fun K hK => ?_ | ((first | refine aK fun R hR => ?_ | refine aD mixed fun R hR => ?_); simp only [go_sem, u0, u1, u6, u12, u13, u14, uh, um, jz, e2, r1, a1, List.length_map, Int.toNat_natCast]) | ((first | (refine hR _ ?_; clear hR R) | refine aZ rfl ?_); try refine aP ?_) | ((repeat (fail_if_success refine hK _ ?_); clear hK K); refine hK _ ?_; clear hK K) | refine aT ?_ | refine aF ?_ | refine aB ?_ | refine aN ?_ | fail)
    rw [if_pos uv.symm]
    (first | refine ret_pure ?_ ?_ ?_ | refine ret_ro ?_ ?_ ?_); focus exact (okA Tryz.ntmps101 Tryz.results101)
    rotate_left; focus exact frA
    simp only [resA, resV, Tryz.results101, go_sem]
    all_goals try exact coA
    all_goals exact .t2 (.dat rfl) (.dat rfl)
   | false =>
    rw [a1, Bool.false_or] at uv
    repeat' (first | refine aQ fun K hK => ?_ | ((first | refine aK fun R hR => ?_ | refine aD mixed fun R hR => ?_); simp only [go_sem, u0, u1, u6, u12, u13, u14, uh, um, jz, e2, r1, a1, hpm, tm_leaf, List.length_map, Int.toNat_natCast]) | ((first | (refine hR _ ?_; clear hR R) | refine aZ rfl ?_); try refine aP ?_) | ((repeat (fail_if_success refine hK _ ?_); clear hK K); refine hK _ ?_; clear hK K) | refine aT ?_ | refine aF ?_ | refine aB ?_ | refine aN ?_ | fail)
    refine ⟨⟨j + 1, ?_⟩, ?_⟩
    rotate_left
    ·simp only [go_sem, u0, u1, u6, u12, u13, u14, uh, um, r1]; omega
    simp only [go_sem, u0, u1, u6, u12, u13, u14, uh, um, r1]
    and_intros; all_goals try (first | rfl | omega | assumption | exact anA)
  ·have jz : ¬ ((j : Int) < (V.length : Int)) := by omega
   obtain rfl : j = V.length := by omega
   rw [List.take_length] at um
   rw [List.drop_length, List.any_nil] at uv
   have hbs : ∀ p ∈ shiftB far V, p.2.size ≤ 4000000 := fun p hp => by
    obtain ⟨v, _, rfl⟩ := List.mem_map.1 hp
    simp [Tm.size, Tm.size.sizes]
   have hea := each_tri 125 [.ptr (k + 1, 1) 0] (bsO (k + 1, 1) (k + 1, 0) (shiftB far V)) (mapM (madeS (shiftB far V))) (enter125) (by simp) c (by omega) (fun l hl => ⟨moved1_tri _ _ _ hbs l.a (by have := hc.a l hl; omega), moved1_tri _ _ _ hbs l.b (by have := hc.b l hl; omega)⟩)
   repeat' (first | refine aQ fun K hK => ?_ | ((first | refine aK fun R hR => ?_ | refine aD mixed fun R hR => ?_); simp only [go_sem, u0, u1, u6, u12, u13, u14, uh, um, jz, r1, List.length_map]) | ((first | (refine hR _ ?_; clear hR R) | refine aZ rfl ?_); try refine aP ?_) | ((repeat (fail_if_success refine hK _ ?_); clear hK K); refine hK _ ?_; clear hK K) | refine aT ?_ | refine aF ?_ | refine aB ?_ | ((first | refine CallK.look (enter25) (hea) ?_ (roBs (k := τ.k) (by show k + 1 < τ.k; omega) (by show k + 1 < τ.k; omega) (by simp only [go_sem, uh]) (by simp only [go_sem, um])) (Fr.rfl' _ _) ?_ | refine CallD.look (enter25) (hea) ?_ (roBs (k := τ.k) (by show k + 1 < τ.k; omega) (by show k + 1 < τ.k; omega) (by simp only [go_sem, uh]) (by simp only [go_sem, um])) (Fr.rfl' _ _) (by first | assumption | exact List.cons_ne_nil _ _) ?_); (focus exact aC); simp only [go_sem, u0, u1, u6, u12, u13, u14, uh, um, jz, r1, List.length_map]) | refine aN ?_ | fail)
   rw [if_neg (by rw [← uv]; decide)]
   (first | refine ret_pure ?_ ?_ ?_ | refine ret_ro ?_ ?_ ?_); focus exact (okA Tryz.ntmps101 Tryz.results101)
   rotate_left; focus exact frA
   simp only [resA, resV, Tryz.results101, go_sem]
   all_goals try exact coA
   all_goals exact .t2 (.dat rfl) (.dat rfl)
def isB (n : Int) (m : Nat) : Bool := decide (0 ≤ n) && decide (n < m)
theorem isB_true {n : Int} {m : Nat} (h : isB n m = true) : ∃ k : Nat, n = k ∧ k < m := by
 unfold isB at h
 rw [Bool.and_eq_true, decide_eq_true_iff, decide_eq_true_iff] at h
 exact ⟨n.toNat, by omega, by omega⟩
def clAt (l : List (List Lt)) (n : Int) : List Lt := l.getD n.toNat []
def ltAt (c : List Lt) (n : Int) : Lt := c.getD n.toNat ⟨false, tm0, tm0⟩
def namedB (l : List (List Lt)) (i : Inf) : Bool :=
 isB i.left l.length && (isB i.leftAt (clAt l i.left).length && (if i.kind = 2 then isB i.rightAt (clAt l i.left).length else if i.kind = 3 then isB i.right l.length && (isB i.rightAt (clAt l i.right).length && thereB (ltAt (clAt l i.right) i.rightAt) i) else true))
theorem clAt_nat {l : List (List Lt)} {n : Nat} (h : n < l.length) : clAt l n = l[n] := by unfold clAt; rw [Int.toNat_natCast, List.getD_eq_getElem?_getD, List.getElem?_eq_getElem h]; rfl
theorem ltAt_nat {c : List Lt} {n : Nat} (h : n < c.length) : ltAt c n = c[n] := by unfold ltAt; rw [Int.toNat_natCast, List.getD_eq_getElem?_getD, List.getElem?_eq_getElem h]; rfl
set_option maxHeartbeats 4000000 in
set_option maxRecDepth 20000 in
theorem named_tri (l : List (List Lt)) (i : Inf) (hl : l.length ≤ 4000000) (hc : ∀ c ∈ l, c.length ≤ 4000000) (hs : ∀ c ∈ l, ∀ x ∈ c, x.a.size ≤ 4000000 ∧ x.b.size ≤ 4000000) (hp : i.place.length ≤ 4000000) : Tri Tryz.prog 61 [.d (.sl (l.map clDV)), .d (ifDV i)] (pure' (bA (namedB l i))) := by
 have i1 := is_tri i.left l.length
 obtain ⟨kind, left, right, leftAt, rightAt, lt, rt, place⟩ := i
 simp only at i1 hp
 unfold namedB
 simp only
 cases a1 : isB left l.length with
 | false =>
  rw [show (decide (0 ≤ left) && decide (left < (l.length : Int))) = false from a1] at i1
  rw [Bool.false_and]
  refine aE Tryz.func61 rfl Tryz.ntmps61 fun w0 h0 k hrd hwr => ?_
  repeat' (first | refine aQ fun K hK => ?_ | ((first | refine aK fun R hR => ?_ | refine aD mixed fun R hR => ?_); simp only [go_sem, List.length_map]) | ((first | (refine hR _ ?_; clear hR R) | refine aZ rfl ?_); try refine aP ?_) | ((repeat (fail_if_success refine hK _ ?_); clear hK K); refine hK _ ?_; clear hK K) | refine aT ?_ | refine aF ?_ | refine aB ?_ | ((first | refine CallK.pure (enter45) (i1) ?_ ?_ | refine CallD.pure (enter45) (i1) ?_ ?_); (focus exact aC); simp only [go_sem, List.length_map]) | refine aN ?_ | fail)
  (first | refine ret_pure ?_ ?_ ?_ | refine ret_ro ?_ ?_ ?_); focus exact (okA Tryz.ntmps61 Tryz.results61)
  rotate_left; focus exact frA
  simp only [resA, resV, Tryz.results61, go_sem]
  all_goals try exact coA
  all_goals exact .dat rfl
 | true =>
  rw [show (decide (0 ≤ left) && decide (left < (l.length : Int))) = true from a1] at i1
  obtain ⟨n, rfl, hn⟩ := isB_true a1
  rw [Bool.true_and, clAt_nat hn]
  have hz : (n : Int) < (l.length : Int) := by omega
  have e1 : (l.map clDV).getD n default = clDV l[n] := nth_map clDV hn _
  have hc1 := hc _ (List.getElem_mem hn)
  have i2 := is_tri leftAt l[n].length
  have i3 := is_tri rightAt l[n].length
  generalize l[n] = c at *
  cases a2 : isB leftAt c.length with
  | false =>
   rw [show (decide (0 ≤ leftAt) && decide (leftAt < (c.length : Int))) = false from a2] at i2
   rw [Bool.false_and]
   refine aE Tryz.func61 rfl Tryz.ntmps61 fun w0 h0 k hrd hwr => ?_
   repeat' (first | refine aQ fun K hK => ?_ | ((first | refine aK fun R hR => ?_ | refine aD mixed fun R hR => ?_); simp only [go_sem, List.length_map, hz, e1, Int.toNat_natCast]) | ((first | (refine hR _ ?_; clear hR R) | refine aZ rfl ?_); try refine aP ?_) | ((repeat (fail_if_success refine hK _ ?_); clear hK K); refine hK _ ?_; clear hK K) | refine aT ?_ | refine aF ?_ | refine aB ?_ | ((first | refine CallK.pure (enter45) (i1) ?_ ?_ | refine CallD.pure (enter45) (i1) ?_ ?_); (focus exact aC); simp only [go_sem, List.length_map, hz, e1, Int.toNat_natCast]) | ((first | refine CallK.pure (enter45) (i2) ?_ ?_ | refine CallD.pure (enter45) (i2) ?_ ?_); (focus exact aC); simp only [go_sem, List.length_map, hz, e1, Int.toNat_natCast]) | refine aN ?_ | fail)
   (first | refine ret_pure ?_ ?_ ?_ | refine ret_ro ?_ ?_ ?_); focus exact (okA Tryz.ntmps61 Tryz.results61)
   rotate_left; focus exact frA
   simp only [resA, resV, Tryz.results61, go_sem]
   all_goals try exact coA
   all_goals exact .dat rfl
  | true =>
   rw [show (decide (0 ≤ leftAt) && decide (leftAt < (c.length : Int))) = true from a2] at i2
   rw [Bool.true_and]
   cases k2 : kind == 2 with
   | true =>
    rw [if_pos (by simpa using k2)]
    change Tri _ _ _ (pure' (bA (isB rightAt c.length))) 
    refine aE Tryz.func61 rfl Tryz.ntmps61 fun w0 h0 k hrd hwr => ?_
    repeat' (first | refine aQ fun K hK => ?_ | ((first | refine aK fun R hR => ?_ | refine aD mixed fun R hR => ?_); simp only [go_sem, List.length_map, hz, e1, k2, Int.toNat_natCast]) | ((first | (refine hR _ ?_; clear hR R) | refine aZ rfl ?_); try refine aP ?_) | ((repeat (fail_if_success refine hK _ ?_); clear hK K); refine hK _ ?_; clear hK K) | refine aT ?_ | refine aF ?_ | refine aB ?_ | ((first | refine CallK.pure (enter45) (i1) ?_ ?_ | refine CallD.pure (enter45) (i1) ?_ ?_); (focus exact aC); simp only [go_sem, List.length_map, hz, e1, k2, Int.toNat_natCast]) | ((first | refine CallK.pure (enter45) (i2) ?_ ?_ | refine CallD.pure (enter45) (i2) ?_ ?_); (focus exact aC); simp only [go_sem, List.length_map, hz, e1, k2, Int.toNat_natCast]) | ((first | refine CallK.pure (enter45) (i3) ?_ ?_ | refine CallD.pure (enter45) (i3) ?_ ?_); (focus exact aC); simp only [go_sem, List.length_map, hz, e1, k2, Int.toNat_natCast]) | refine aN ?_ | fail)
    (first | refine ret_pure ?_ ?_ ?_ | refine ret_ro ?_ ?_ ?_); focus exact (okA Tryz.ntmps61 Tryz.results61)
    rotate_left; focus exact frA
    simp only [resA, resV, Tryz.results61, go_sem]
    all_goals try exact coA
    all_goals exact .dat rfl
   | false =>
    rw [if_neg (by simpa using k2)]
    cases k3 : kind == 3 with
    | false =>
     rw [if_neg (by simpa using k3)]
     refine aE Tryz.func61 rfl Tryz.ntmps61 fun w0 h0 k hrd hwr => ?_
     repeat' (first | refine aQ fun K hK => ?_ | ((first | refine aK fun R hR => ?_ | refine aD mixed fun R hR => ?_); simp only [go_sem, List.length_map, hz, e1, k2, k3, Int.toNat_natCast]) | ((first | (refine hR _ ?_; clear hR R) | refine aZ rfl ?_); try refine aP ?_) | ((repeat (fail_if_success refine hK _ ?_); clear hK K); refine hK _ ?_; clear hK K) | refine aT ?_ | refine aF ?_ | refine aB ?_ | ((first | refine CallK.pure (enter45) (i1) ?_ ?_ | refine CallD.pure (enter45) (i1) ?_ ?_); (focus exact aC); simp only [go_sem, List.length_map, hz, e1, k2, k3, Int.toNat_natCast]) | ((first | refine CallK.pure (enter45) (i2) ?_ ?_ | refine CallD.pure (enter45) (i2) ?_ ?_); (focus exact aC); simp only [go_sem, List.length_map, hz, e1, k2, k3, Int.toNat_natCast]) | refine aN ?_ | fail)
     (first | refine ret_pure ?_ ?_ ?_ | refine ret_ro ?_ ?_ ?_); focus exact (okA Tryz.ntmps61 Tryz.results61)
     rotate_left; focus exact frA
     simp only [resA, resV, Tryz.results61, go_sem]
     all_goals try exact coA
     all_goals exact .dat rfl
    | true =>
     rw [if_pos (by simpa using k3)]
     have i4 := is_tri right l.length
     cases a4 : isB right l.length with
     | false =>
      rw [show (decide (0 ≤ right) && decide (right < (l.length : Int))) = false from a4] at i4
      rw [Bool.false_and]
      refine aE Tryz.func61 rfl Tryz.ntmps61 fun w0 h0 k hrd hwr => ?_
      repeat' (first | refine aQ fun K hK => ?_ | ((first | refine aK fun R hR => ?_ | refine aD mixed fun R hR => ?_); simp only [go_sem, List.length_map, hz, e1, k2, k3, Int.toNat_natCast]) | ((first | (refine hR _ ?_; clear hR R) | refine aZ rfl ?_); try refine aP ?_) | ((repeat (fail_if_success refine hK _ ?_); clear hK K); refine hK _ ?_; clear hK K) | refine aT ?_ | refine aF ?_ | refine aB ?_ | ((first | refine CallK.pure (enter45) (i1) ?_ ?_ | refine CallD.pure (enter45) (i1) ?_ ?_); (focus exact aC); simp only [go_sem, List.length_map, hz, e1, k2, k3, Int.toNat_natCast]) | ((first | refine CallK.pure (enter45) (i2) ?_ ?_ | refine CallD.pure (enter45) (i2) ?_ ?_); (focus exact aC); simp only [go_sem, List.length_map, hz, e1, k2, k3, Int.toNat_natCast]) | ((first | refine CallK.pure (enter45) (i4) ?_ ?_ | refine CallD.pure (enter45) (i4) ?_ ?_); (focus exact aC); simp only [go_sem, List.length_map, hz, e1, k2, k3, Int.toNat_natCast]) | refine aN ?_ | fail)
      (first | refine ret_pure ?_ ?_ ?_ | refine ret_ro ?_ ?_ ?_); focus exact (okA Tryz.ntmps61 Tryz.results61)
      rotate_left; focus exact frA
      simp only [resA, resV, Tryz.results61, go_sem]
      all_goals try exact coA
      all_goals exact .dat rfl
     | true =>
      rw [show (decide (0 ≤ right) && decide (right < (l.length : Int))) = true from a4] at i4
      obtain ⟨m, rfl, hm⟩ := isB_true a4
      rw [Bool.true_and, clAt_nat hm]
      have hz' : (m : Int) < (l.length : Int) := by omega
      have e1' : (l.map clDV).getD m default = clDV l[m] := nth_map clDV hm _
      have hc1' := hc _ (List.getElem_mem hm)
      have hs' := hs _ (List.getElem_mem hm)
      have i5 := is_tri rightAt l[m].length
      generalize l[m] = d at *
      cases a5 : isB rightAt d.length with
      | false =>
       rw [show (decide (0 ≤ rightAt) && decide (rightAt < (d.length : Int))) = false from a5] at i5
       rw [Bool.false_and]
       refine aE Tryz.func61 rfl Tryz.ntmps61 fun w0 h0 k hrd hwr => ?_
       repeat' (first | refine aQ fun K hK => ?_ | ((first | refine aK fun R hR => ?_ | refine aD mixed fun R hR => ?_); simp only [go_sem, List.length_map, hz, e1, hz', e1', k2, k3, Int.toNat_natCast]) | ((first | (refine hR _ ?_; clear hR R) | refine aZ rfl ?_); try refine aP ?_) | ((repeat (fail_if_success refine hK _ ?_); clear hK K); refine hK _ ?_; clear hK K) | refine aT ?_ | refine aF ?_ | refine aB ?_ | ((first | refine CallK.pure (enter45) (i1) ?_ ?_ | refine CallD.pure (enter45) (i1) ?_ ?_); (focus exact aC); simp only [go_sem, List.length_map, hz, e1, hz', e1', k2, k3, Int.toNat_natCast]) | ((first | refine CallK.pure (enter45) (i2) ?_ ?_ | refine CallD.pure (enter45) (i2) ?_ ?_); (focus exact aC); simp only [go_sem, List.length_map, hz, e1, hz', e1', k2, k3, Int.toNat_natCast]) | ((first | refine CallK.pure (enter45) (i4) ?_ ?_ | refine CallD.pure (enter45) (i4) ?_ ?_); (focus exact aC); simp only [go_sem, List.length_map, hz, e1, hz', e1', k2, k3, Int.toNat_natCast]) | ((first | refine CallK.pure (enter45) (i5) ?_ ?_ | refine CallD.pure (enter45) (i5) ?_ ?_); (focus exact aC); simp only [go_sem, List.length_map, hz, e1, hz', e1', k2, k3, Int.toNat_natCast]) | refine aN ?_ | fail)
       (first | refine ret_pure ?_ ?_ ?_ | refine ret_ro ?_ ?_ ?_); focus exact (okA Tryz.ntmps61 Tryz.results61)
       rotate_left; focus exact frA
       simp only [resA, resV, Tryz.results61, go_sem]
       all_goals try exact coA
       all_goals exact .dat rfl
      | true =>
       rw [show (decide (0 ≤ rightAt) && decide (rightAt < (d.length : Int))) = true from a5] at i5
       obtain ⟨q, rfl, hq⟩ := isB_true a5
       rw [Bool.true_and, ltAt_nat hq]
       have hz2 : (q : Int) < (d.length : Int) := by omega
       have e2 : (d.map ltDV).getD q default = ltDV d[q] := nth_map ltDV hq _
       have hs2 := hs' _ (List.getElem_mem hq)
       have ht := there_tri d[q] ⟨kind, n, m, leftAt, q, lt, rt, place⟩ hp (by unfold sideG; split; exact hs2.2; exact hs2.1)
       generalize d[q] = x at *
       refine aE Tryz.func61 rfl Tryz.ntmps61 fun w0 h0 k hrd hwr => ?_
       repeat' (first | refine aQ fun K hK => ?_ | ((first | refine aK fun R hR => ?_ | refine aD mixed fun R hR => ?_); simp only [go_sem, List.length_map, hz, e1, hz', e1', hz2, e2, k2, k3, Int.toNat_natCast]) | ((first | (refine hR _ ?_; clear hR R) | refine aZ rfl ?_); try refine aP ?_) | ((repeat (fail_if_success refine hK _ ?_); clear hK K); refine hK _ ?_; clear hK K) | refine aT ?_ | refine aF ?_ | refine aB ?_ | ((first | refine CallK.pure (enter45) (i1) ?_ ?_ | refine CallD.pure (enter45) (i1) ?_ ?_); (focus exact aC); simp only [go_sem, List.length_map, hz, e1, hz', e1', hz2, e2, k2, k3, Int.toNat_natCast]) | ((first | refine CallK.pure (enter45) (i2) ?_ ?_ | refine CallD.pure (enter45) (i2) ?_ ?_); (focus exact aC); simp only [go_sem, List.length_map, hz, e1, hz', e1', hz2, e2, k2, k3, Int.toNat_natCast]) | ((first | refine CallK.pure (enter45) (i4) ?_ ?_ | refine CallD.pure (enter45) (i4) ?_ ?_); (focus exact aC); simp only [go_sem, List.length_map, hz, e1, hz', e1', hz2, e2, k2, k3, Int.toNat_natCast]) | ((first | refine CallK.pure (enter45) (i5) ?_ ?_ | refine CallD.pure (enter45) (i5) ?_ ?_); (focus exact aC); simp only [go_sem, List.length_map, hz, e1, hz', e1', hz2, e2, k2, k3, Int.toNat_natCast]) | ((first | refine CallK.pure (enter94) (ht) ?_ ?_ | refine CallD.pure (enter94) (ht) ?_ ?_); (focus exact aC); simp only [go_sem, List.length_map, hz, e1, hz', e1', hz2, e2, k2, k3, Int.toNat_natCast]) | refine aN ?_ | fail)
       (first | refine ret_pure ?_ ?_ ?_ | refine ret_ro ?_ ?_ ?_); focus exact (okA Tryz.ntmps61 Tryz.results61)
       rotate_left; focus exact frA
       simp only [resA, resV, Tryz.results61, go_sem]
       all_goals try exact coA
       all_goals exact .dat rfl
theorem wpList_ran {P : Program} {ops : Array Oper} {rest : List Oper} {o : Oper} {a : Act} {w w' : World} {Q : Exit → Act → World → Prop} (hgd : o.guard = none) (s x : Operand) (t : TypeId)
  (ho : o.op = .call { callee := .builtin .append, args := #[s, x], argTypes := #[t, t] }) {vs vx v : Value} (hs : a.eval s = vs) (hx : a.eval x = vx) (hrun : (Builtin.append_ #[t, t] o.type #[vs, vx]).run P w = .ok v w')
  (k : wpList P ops Q rest (a.put o.dst v) w') : wpList P ops Q (o :: rest) a w :=
 wpList_plain hgd fun _ hK => by
  unfold Oper.wp execOp
  simp only [ho, resolve, invoke, builtin, Sem.run_bind, Sem.run_pure, Result.andThen_ok, List.map_toArray, List.map_cons, List.map_nil, hs, hx, hrun]
  exact hK _ _ k
theorem CallK.arr {P : Program} {ops : Array Oper} {rest : List Oper} {s : St} {K : St → Prop} {tick i : Nat} {dst : Option Tmp} {g : FuncId} {args : Array Operand} {ats : Array TypeId} {ty : TypeId} {pos : String} {after : Array Edge} {guard : Option (Nat × Bool)} {az : List AV} {e : TypeId} {len : Nat} {cs : List AV} (hi : i % 1000 = i) (hent : enterOk P g) (ht : ∀ n', Tri P g az (arrE e n' len cs))
  (hco : coL (args.toList.map s.ev) az) (hrd : s.h (tick, i) = none) (hk : runL P ops tick rest (i + 1) (s.step ⟨dst, .call ⟨.value (.func g), args, ats⟩, ty, pos, after, guard⟩ (arrE e (tick, i) len cs)) K) : CallK P ops tick i ⟨dst, .call ⟨.value (.func g), args, ats⟩, ty, pos, after, guard⟩ rest s K :=
 CallK.eff hent (ht (tick, i)) hco (fun x hx => by simp only [arrE, List.mem_cons, List.not_mem_nil, or_false] at hx; subst hx; exact hrd) (fun x hx => by simp only [arrE, List.mem_cons, List.not_mem_nil, or_false] at hx; subst hx; exact .inr ⟨rfl, hi⟩) hk
set_option maxHeartbeats 1000000 in
set_option maxRecDepth 20000 in
theorem cloneA_terms (l : List (Tm)) (hl : l.length ≤ 4000000) (h0 : 0 < l.length) (n' : Nm) : Tri Tryz.prog 126 [.d (.sl (l.map tmDV))] (arrE 63 n' l.length (flatC (l.map tmDV))) := by
 intro w0 h k m β w cargs H hrd hwr hsz hargs
 have hno : h n' = none := hrd (n', none) (by simp [arrE])
 obtain ⟨hk, hn0⟩ := hwr (n', some (.cells 63 (flatC (l.map tmDV)))) (by simp [arrE])
 have hbn : β n' = none := hn0 hno
 have hk : n'.1 < k := hk
 obtain ⟨v, rfl⟩ : ∃ v, cargs = #[v] := by
  obtain ⟨l⟩ := cargs
  match l, hsz with
  | [v], _ => exact ⟨v, rfl⟩
 have hv := (hargs 0 v (.d (.sl (l.map tmDV))) (by simp) (by simp)).dat2
 have hszs : ∀ y ∈ l.map tmDV, y.cells.length = 3 := map_sz (by intro a; simp only [go_sem])
 obtain ⟨a, cap, news, rfl, q1, q2, hN, hF, q4⟩ := loaded (P := Tryz.prog) hv hszs (fun b o v hm => (H.mem b o v hm).2)
 rw [List.length_map] at q1 hF hv ⊢
 have ha : a ≠ none := fun e => by have := q4 e; omega
 obtain ⟨⟨b, o, el⟩, rfl⟩ := Option.ne_none_iff_exists'.1 ha
 have hq := fun (w : World) (a : Option Addr) (n c n' c' : Nat) => Lib.run_eql_slice_nil (P := Tryz.prog) w 61 _ a n c n' c' Tryz.underlying61
 have eT : elT Tryz.prog 61 = 63 := by kernel_rfl
 have eS : szT Tryz.prog 63 = 3 := by kernel_rfl
 have eB : bytesT Tryz.prog 63 ≤ 1024 := by decide +kernel
 obtain ⟨i, z, hi, hz0, hzs, hsi, h1, _⟩ := zeroOk_of (P := Tryz.prog) (t := 63) (by kernel_rfl)
 rw [eS] at hzs
 have hfc : ∀ w' : World, (∀ b o v, m b o = some v → w'.cell? ⟨b, o, none⟩ = some v) → (Builtin.firstCells (szT Tryz.prog (elT Tryz.prog 61)) l.length (.slice (some ⟨b, o, el⟩) l.length cap)).run Tryz.prog w' = .ok news.toArray w' := fun w' h' => by rw [eT, eS]; exact hF w' h'
 have hcell : ∀ b o v, m b o = some v → (w.alloc (.cells #[] 63)).drew.cell? ⟨b, o, none⟩ = some v := fun b o v hv =>
  (World.cell?_alloc_lt w _ ⟨b, o, none⟩ (H.mem_lt hv)).trans (H.mem b o v hv).1
 have hap := run_app_new (P := Tryz.prog) (w := w.alloc (.cells #[] 63)) (t := 61) (base := some ⟨w.heap.size, 0, none⟩) (sLen := 0) (sCap := 0) (n := l.length) (vx := .slice (some ⟨b, o, el⟩) l.length cap) (olds := []) (news := news) (i := i) (z := z) (by kernel_rfl) (by rw [eT]; exact hi) hz0
  (by simp [Builtin.lenOf]) (hfc _ hcell) (by simp [Builtin.firstCells, loadCells, loadCellsFrom]) (by omega) (by omega) (by rw [eT]; exact eB)
 rw [eT, Nat.zero_add] at hap
 have hge := grownCap_ge (w.alloc (.cells #[] 63)) l.length 0 63
 have hle := grownCap_le_maxLen (w.alloc (.cells #[] 63)) l.length 0 63 (by unfold maxLen; omega)
 generalize grownCap (w.alloc (.cells #[] 63)) l.length 0 63 = nc at hap hge hle
 generalize hC : ([] : List Value).toArray ++ (news.toArray ++ Builtin.zeroCells z.cells (nc - l.length)) = C at hap
 have hlC : l.length * 3 ≤ C.size := by
  rw [← hC]
  simp only [Array.size_append, List.size_toArray, hN.len, List.length_map, List.length_nil]
  omega
 have hCx : ∀ q, q < l.length * 3 → C[q]? = news[q]? := fun q hq => by
  rw [← hC, Array.getElem?_append_right (by simp), Array.getElem?_append_left (by simp [hN.len]; exact hq)]
  simp
 clear hC
 go_enter Tryz.func126, Tryz.ntmps126
 go_wp2_with (at_builtin; refine wpList_ran rfl _ _ 61 rfl rfl rfl (hap _) ?_)
 go_wp2
 go_ret
 have H1 := (H.grow (w' := (w.alloc (.cells #[] 63)).drew) (Ext.one w _).draw)
 have hfl := flatC_len hszs
 have esz : ((w.alloc (.cells #[] 63)).drew).heap.size = w.heap.size + 1 := by simp
 have hdat : ∀ (q : Nat) (v : Value) (a : AV), C[q]? = some v → (flatC (l.map tmDV))[q]? = some a → v.oneCell' = true ∧ R m β v a := by
  intro q v a hq ha
  have hlt : q < l.length * 3 := by
   have := (List.getElem?_eq_some_iff.1 ha).1
   rw [hfl, List.length_map] at this; exact this
  have hi : q / 3 < l.length := Nat.div_lt_of_lt_mul (by omega)
  have hx : (l.map tmDV)[q / 3]? = some (tmDV l[q / 3]) := by rw [List.getElem?_map, List.getElem?_eq_getElem hi]; rfl
  have hlen := hszs (tmDV l[q / 3]) (List.mem_map.2 ⟨_, List.getElem_mem hi, rfl⟩)
  have hj : q % 3 < (tmDV l[q / 3]).cells.length := by rw [hlen]; exact Nat.mod_lt _ (by decide)
  have hd := List.getElem?_eq_getElem hj
  obtain ⟨_, cv, g1, g2⟩ := hN.get _ _ _ _ hx hd
  have g3 := flatC_at hszs hx hd
  have eq : q / 3 * 3 + q % 3 = q := by have := Nat.div_add_mod q 3; omega
  rw [eq] at g1 g3
  rw [g3] at ha; cases ha
  rw [hCx q hlt, g1] at hq; cases hq
  exact ⟨hN.one _ (List.mem_of_getElem? g1), .d g2⟩
 have H2 := H1.alloc hbn hk (c := C) (e := 63) (cs := flatC (l.map tmDV)) (by rw [hfl, List.length_map]; exact hlC) hdat
 rw [esz] at H2
 refine ⟨_, rfl, m, .rfl' m, updB β n' ⟨w.heap.size + 1, 0, none⟩, updB_le (le_new hbn), ?_, H2, .arr (p := ⟨w.heap.size + 1, 0, none⟩) (updB_self _ _ _) rfl hge hle (.inr rfl)⟩
 intro a b hx h0
 exact updB_none (fun e => hx e.symm) h0
set_option maxHeartbeats 1000000 in
set_option maxRecDepth 20000 in
theorem cloneA_lits (l : List (Lt)) (hl : l.length ≤ 4000000) (h0 : 0 < l.length) (n' : Nm) : Tri Tryz.prog 103 [.d (.sl (l.map ltDV))] (arrE 66 n' l.length (flatC (l.map ltDV))) := by
 intro w0 h k m β w cargs H hrd hwr hsz hargs
 have hno : h n' = none := hrd (n', none) (by simp [arrE])
 obtain ⟨hk, hn0⟩ := hwr (n', some (.cells 66 (flatC (l.map ltDV)))) (by simp [arrE])
 have hbn : β n' = none := hn0 hno
 have hk : n'.1 < k := hk
 obtain ⟨v, rfl⟩ : ∃ v, cargs = #[v] := by
  obtain ⟨l⟩ := cargs
  match l, hsz with
  | [v], _ => exact ⟨v, rfl⟩
 have hv := (hargs 0 v (.d (.sl (l.map ltDV))) (by simp) (by simp)).dat2
 have hszs : ∀ y ∈ l.map ltDV, y.cells.length = 7 := map_sz (by intro a; simp only [go_sem])
 obtain ⟨a, cap, news, rfl, q1, q2, hN, hF, q4⟩ := loaded (P := Tryz.prog) hv hszs (fun b o v hm => (H.mem b o v hm).2)
 rw [List.length_map] at q1 hF hv ⊢
 have ha : a ≠ none := fun e => by have := q4 e; omega
 obtain ⟨⟨b, o, el⟩, rfl⟩ := Option.ne_none_iff_exists'.1 ha
 have hq := fun (w : World) (a : Option Addr) (n c n' c' : Nat) => Lib.run_eql_slice_nil (P := Tryz.prog) w 35 _ a n c n' c' Tryz.underlying35
 have eT : elT Tryz.prog 35 = 66 := by kernel_rfl
 have eS : szT Tryz.prog 66 = 7 := by kernel_rfl
 have eB : bytesT Tryz.prog 66 ≤ 1024 := by decide +kernel
 obtain ⟨i, z, hi, hz0, hzs, hsi, h1, _⟩ := zeroOk_of (P := Tryz.prog) (t := 66) (by kernel_rfl)
 rw [eS] at hzs
 have hfc : ∀ w' : World, (∀ b o v, m b o = some v → w'.cell? ⟨b, o, none⟩ = some v) → (Builtin.firstCells (szT Tryz.prog (elT Tryz.prog 35)) l.length (.slice (some ⟨b, o, el⟩) l.length cap)).run Tryz.prog w' = .ok news.toArray w' := fun w' h' => by rw [eT, eS]; exact hF w' h'
 have hcell : ∀ b o v, m b o = some v → (w.alloc (.cells #[] 66)).drew.cell? ⟨b, o, none⟩ = some v := fun b o v hv =>
  (World.cell?_alloc_lt w _ ⟨b, o, none⟩ (H.mem_lt hv)).trans (H.mem b o v hv).1
 have hap := run_app_new (P := Tryz.prog) (w := w.alloc (.cells #[] 66)) (t := 35) (base := some ⟨w.heap.size, 0, none⟩) (sLen := 0) (sCap := 0) (n := l.length) (vx := .slice (some ⟨b, o, el⟩) l.length cap) (olds := []) (news := news) (i := i) (z := z) (by kernel_rfl) (by rw [eT]; exact hi) hz0
  (by simp [Builtin.lenOf]) (hfc _ hcell) (by simp [Builtin.firstCells, loadCells, loadCellsFrom]) (by omega) (by omega) (by rw [eT]; exact eB)
 rw [eT, Nat.zero_add] at hap
 have hge := grownCap_ge (w.alloc (.cells #[] 66)) l.length 0 66
 have hle := grownCap_le_maxLen (w.alloc (.cells #[] 66)) l.length 0 66 (by unfold maxLen; omega)
 generalize grownCap (w.alloc (.cells #[] 66)) l.length 0 66 = nc at hap hge hle
 generalize hC : ([] : List Value).toArray ++ (news.toArray ++ Builtin.zeroCells z.cells (nc - l.length)) = C at hap
 have hlC : l.length * 7 ≤ C.size := by
  rw [← hC]
  simp only [Array.size_append, List.size_toArray, hN.len, List.length_map, List.length_nil]
  omega
 have hCx : ∀ q, q < l.length * 7 → C[q]? = news[q]? := fun q hq => by
  rw [← hC, Array.getElem?_append_right (by simp), Array.getElem?_append_left (by simp [hN.len]; exact hq)]
  simp
 clear hC
 go_enter Tryz.func103, Tryz.ntmps103
 go_wp2_with (at_builtin; refine wpList_ran rfl _ _ 35 rfl rfl rfl (hap _) ?_)
 go_wp2
 go_ret
 have H1 := (H.grow (w' := (w.alloc (.cells #[] 66)).drew) (Ext.one w _).draw)
 have hfl := flatC_len hszs
 have esz : ((w.alloc (.cells #[] 66)).drew).heap.size = w.heap.size + 1 := by simp
 have hdat : ∀ (q : Nat) (v : Value) (a : AV), C[q]? = some v → (flatC (l.map ltDV))[q]? = some a → v.oneCell' = true ∧ R m β v a := by
  intro q v a hq ha
  have hlt : q < l.length * 7 := by
   have := (List.getElem?_eq_some_iff.1 ha).1
   rw [hfl, List.length_map] at this; exact this
  have hi : q / 7 < l.length := Nat.div_lt_of_lt_mul (by omega)
  have hx : (l.map ltDV)[q / 7]? = some (ltDV l[q / 7]) := by rw [List.getElem?_map, List.getElem?_eq_getElem hi]; rfl
  have hlen := hszs (ltDV l[q / 7]) (List.mem_map.2 ⟨_, List.getElem_mem hi, rfl⟩)
  have hj : q % 7 < (ltDV l[q / 7]).cells.length := by rw [hlen]; exact Nat.mod_lt _ (by decide)
  have hd := List.getElem?_eq_getElem hj
  obtain ⟨_, cv, g1, g2⟩ := hN.get _ _ _ _ hx hd
  have g3 := flatC_at hszs hx hd
  have eq : q / 7 * 7 + q % 7 = q := by have := Nat.div_add_mod q 7; omega
  rw [eq] at g1 g3
  rw [g3] at ha; cases ha
  rw [hCx q hlt, g1] at hq; cases hq
  exact ⟨hN.one _ (List.mem_of_getElem? g1), .d g2⟩
 have H2 := H1.alloc hbn hk (c := C) (e := 66) (cs := flatC (l.map ltDV)) (by rw [hfl, List.length_map]; exact hlC) hdat
 rw [esz] at H2
 refine ⟨_, rfl, m, .rfl' m, updB β n' ⟨w.heap.size + 1, 0, none⟩, updB_le (le_new hbn), ?_, H2, .arr (p := ⟨w.heap.size + 1, 0, none⟩) (updB_self _ _ _) rfl hge hle (.inr rfl)⟩
 intro a b hx h0
 exact updB_none (fun e => hx e.symm) h0
def groE (e : TypeId) (n' : Nm) (len : Nat) (cs : List AV) : Eff := ⟨.gro n' len, [(n', none)], [(n', some (.gro e len cs))]⟩
attribute [go_sem] groE
set_option maxHeartbeats 1000000 in
set_option maxRecDepth 20000 in
theorem cloneG_lits (l : List Lt) (hl : l.length ≤ 4000000) (h0 : 0 < l.length) (n' : Nm) : Tri Tryz.prog 103 [.d (.sl (l.map ltDV))] (groE 66 n' l.length (flatC (l.map ltDV))) := by
 intro w0 h k m β w cargs H hrd hwr hsz hargs
 have hno : h n' = none := hrd (n', none) (by simp [groE])
 obtain ⟨hk, hn0⟩ := hwr (n', some (.gro 66 l.length (flatC (l.map ltDV)))) (by simp [groE])
 have hbn : β n' = none := hn0 hno
 have hk : n'.1 < k := hk
 obtain ⟨v, rfl⟩ : ∃ v, cargs = #[v] := by
  obtain ⟨l⟩ := cargs
  match l, hsz with
  | [v], _ => exact ⟨v, rfl⟩
 have hv := (hargs 0 v (.d (.sl (l.map ltDV))) (by simp) (by simp)).dat2
 have hszs : ∀ y ∈ l.map ltDV, y.cells.length = 7 := map_sz (by intro a; simp only [go_sem])
 obtain ⟨a, cap, news, rfl, q1, q2, hN, hF, q4⟩ := loaded (P := Tryz.prog) hv hszs (fun b o v hm => (H.mem b o v hm).2)
 rw [List.length_map] at q1 hF hv ⊢
 have ha : a ≠ none := fun e => by have := q4 e; omega
 obtain ⟨⟨b, o, el⟩, rfl⟩ := Option.ne_none_iff_exists'.1 ha
 have hq := fun (w : World) (a : Option Addr) (n c n' c' : Nat) => Lib.run_eql_slice_nil (P := Tryz.prog) w 35 _ a n c n' c' Tryz.underlying35
 have eT : elT Tryz.prog 35 = 66 := by kernel_rfl
 have eS : szT Tryz.prog 66 = 7 := by kernel_rfl
 have eB : bytesT Tryz.prog 66 ≤ 1024 := by decide +kernel
 obtain ⟨i, z, hi, hz0, hzs, hsi, h1, _⟩ := zeroOk_of (P := Tryz.prog) (t := 66) (by kernel_rfl)
 rw [eS] at hzs
 have hfc : ∀ w' : World, (∀ b o v, m b o = some v → w'.cell? ⟨b, o, none⟩ = some v) → (Builtin.firstCells (szT Tryz.prog (elT Tryz.prog 35)) l.length (.slice (some ⟨b, o, el⟩) l.length cap)).run Tryz.prog w' = .ok news.toArray w' := fun w' h' => by rw [eT, eS]; exact hF w' h'
 have hcell : ∀ b o v, m b o = some v → (w.alloc (.cells #[] 66)).drew.cell? ⟨b, o, none⟩ = some v := fun b o v hv =>
  (World.cell?_alloc_lt w _ ⟨b, o, none⟩ (H.mem_lt hv)).trans (H.mem b o v hv).1
 have hap := run_app_new (P := Tryz.prog) (w := w.alloc (.cells #[] 66)) (t := 35) (base := some ⟨w.heap.size, 0, none⟩) (sLen := 0) (sCap := 0) (n := l.length) (vx := .slice (some ⟨b, o, el⟩) l.length cap) (olds := []) (news := news) (i := i) (z := z) (by kernel_rfl) (by rw [eT]; exact hi) hz0
  (by simp [Builtin.lenOf]) (hfc _ hcell) (by simp [Builtin.firstCells, loadCells, loadCellsFrom]) (by omega) (by omega) (by rw [eT]; exact eB)
 rw [eT, Nat.zero_add] at hap
 have hge := grownCap_ge (w.alloc (.cells #[] 66)) l.length 0 66
 have hle := grownCap_le_maxLen (w.alloc (.cells #[] 66)) l.length 0 66 (by unfold maxLen; omega)
 generalize grownCap (w.alloc (.cells #[] 66)) l.length 0 66 = nc at hap hge hle
 generalize hC : ([] : List Value).toArray ++ (news.toArray ++ Builtin.zeroCells z.cells (nc - l.length)) = C at hap
 have hlC : C.size = nc * 7 := by
  rw [← hC]
  simp only [Array.size_append, List.size_toArray, hN.len, List.length_map, List.length_nil, size_zeroCells, hzs]
  omega
 have hCx : ∀ q, q < l.length * 7 → C[q]? = news[q]? := fun q hq => by
  rw [← hC, Array.getElem?_append_right (by simp), Array.getElem?_append_left (by simp [hN.len]; exact hq)]
  simp
 clear hC
 go_enter Tryz.func103, Tryz.ntmps103
 go_wp2_with (at_builtin; refine wpList_ran rfl _ _ 35 rfl rfl rfl (hap _) ?_)
 go_wp2
 go_ret
 have H1 := (H.grow (w' := (w.alloc (.cells #[] 66)).drew) (Ext.one w _).draw)
 have hfl := flatC_len hszs
 have esz : ((w.alloc (.cells #[] 66)).drew).heap.size = w.heap.size + 1 := by simp
 have hdat : ∀ (q : Nat) (v : Value) (a : AV), C[q]? = some v → (flatC (l.map ltDV))[q]? = some a → v.oneCell' = true ∧ R m β v a := by
  intro q v a hq ha
  have hlt : q < l.length * 7 := by
   have := (List.getElem?_eq_some_iff.1 ha).1
   rw [hfl, List.length_map] at this; exact this
  have hi : q / 7 < l.length := Nat.div_lt_of_lt_mul (by omega)
  have hx : (l.map ltDV)[q / 7]? = some (ltDV l[q / 7]) := by rw [List.getElem?_map, List.getElem?_eq_getElem hi]; rfl
  have hlen := hszs (ltDV l[q / 7]) (List.mem_map.2 ⟨_, List.getElem_mem hi, rfl⟩)
  have hj : q % 7 < (ltDV l[q / 7]).cells.length := by rw [hlen]; exact Nat.mod_lt _ (by decide)
  have hd := List.getElem?_eq_getElem hj
  obtain ⟨_, cv, g1, g2⟩ := hN.get _ _ _ _ hx hd
  have g3 := flatC_at hszs hx hd
  have eq : q / 7 * 7 + q % 7 = q := by have := Nat.div_add_mod q 7; omega
  rw [eq] at g1 g3
  rw [g3] at ha; cases ha
  rw [hCx q hlt, g1] at hq; cases hq
  exact ⟨hN.one _ (List.mem_of_getElem? g1), .d g2⟩
 have hf := fun o => H1.fresh (Nat.le_refl _) o
 have H2 := H1.upd1 (n := n') (p := ⟨((w.alloc (.cells #[] 66)).drew).heap.size, nc, some l.length⟩) (ob := .gro 66 l.length (flatC (l.map ltDV))) (m' := m) (w' := ((w.alloc (.cells #[] 66)).drew).alloc (.cells C 66)) (le_new hbn) hk (Below.alloc H1.ext H1.size _) (.rfl' m) (fun b o v hv => ?_) ⟨rfl, .inr ⟨C, heap_alloc_new _ _, by rw [eS]; exact hlC, hge, hle, by rw [eS, hfl, List.length_map], fun i v a hi ha => ⟨(hdat i v a hi ha).1, (hdat i v a hi ha).2.mono (.rfl' m) (updB_le (le_new hbn))⟩, hf⟩⟩ (fun _ => H1.size) (fun x p' ob' _ hx hp hr => ?_)
 ·rw [esz] at H2
  refine ⟨_, rfl, m, .rfl' m, updB β n' ⟨w.heap.size + 1, nc, some l.length⟩, updB_le (le_new hbn), ?_, H2, .gro (p := ⟨w.heap.size + 1, nc, some l.length⟩) ⟨_, _, rfl⟩ (updB_self _ _ _) rfl (Nat.le_refl _) fun _ => ⟨some ⟨w.heap.size + 1, 0, none⟩, rfl, .inr rfl⟩⟩
  intro a b hx h0
  exact updB_none (fun e => hx e.symm) h0
 ·obtain ⟨h1, h2⟩ := H1.mem b o v hv
  exact ⟨(World.cell?_alloc_lt _ _ ⟨b, o, none⟩ (H1.mem_lt hv)).trans h1, h2⟩
 ·have := H1.lt hx hp hr
  exact ⟨fun _ => Nat.ne_of_lt this, heap_alloc_old _ _ this, fun _ => rfl⟩
end Go.Proofs.YtmeekpinkfpnhabGreat
