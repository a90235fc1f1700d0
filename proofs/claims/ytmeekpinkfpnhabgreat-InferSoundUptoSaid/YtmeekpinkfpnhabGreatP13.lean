/- term. -/
import Derived.Test.YtmeekpinkfpnhabGreatP08
import Derived.Test.YtmeekpinkfpnhabGreatP10
import Derived.Test.YtmeekpinkfpnhabGreatP11
import Derived.Test.YtmeekpinkfpnhabGreatP12
set_option linter.all false
namespace Go.Proofs.YtmeekpinkfpnhabGreat
open Go.RowKit
theorem nf {α : Type} {a b : α} (h : a ≠ b) : ((a = b) = False) ∧ ((b = a) = False) := ⟨eq_false h, eq_false h.symm⟩
def szS (bs : Bs) (most : Int) (x : Tm) (n : Int) : Bool × Int := (decide (n + apOne bs x ≤ most), n + apOne bs x)
mutual
theorem walk_sz (bs : Bs) (most : Int) : ∀ (t : Tm) (n : Int), ((walkS (szS bs most) t n).1 = true → (walkS (szS bs most) t n).2 = n + apS bs (pre t) ∧ n + apS bs (pre t) ≤ most) ∧ ((walkS (szS bs most) t n).1 = false → most < (walkS (szS bs most) t n).2 ∧ (walkS (szS bs most) t n).2 ≤ n + apS bs (pre t))
 | .mk v f us, n => by
  rw [walkS, pre, apS]
  have hp := apS_len bs (preL us)
  have e2 : (szS bs most (.mk v f us) n).2 = n + apOne bs (.mk v f us) := rfl
  by_cases h : n + apOne bs (.mk v f us) ≤ most
  ·rw [if_pos (show (szS bs most (.mk v f us) n).1 = true by simpa [szS] using h), e2]
   have h1 := walkL_sz bs most us (n + apOne bs (.mk v f us)) h
   rw [← Int.add_assoc]
   exact h1
  ·rw [if_neg (show ¬ (szS bs most (.mk v f us) n).1 = true by simpa [szS] using h), e2]
   refine ⟨fun h => absurd h Bool.false_ne_true, fun _ => ?_⟩
   omega
theorem walkL_sz (bs : Bs) (most : Int) : ∀ (us : List Tm) (n : Int), n ≤ most → ((walkL (szS bs most) us n).1 = true → (walkL (szS bs most) us n).2 = n + apS bs (preL us) ∧ n + apS bs (preL us) ≤ most) ∧ ((walkL (szS bs most) us n).1 = false → most < (walkL (szS bs most) us n).2 ∧ (walkL (szS bs most) us n).2 ≤ n + apS bs (preL us))
 | [], n, h => by
  rw [walkL, preL, apS]
  refine ⟨fun _ => ?_, fun h => absurd h.symm Bool.false_ne_true⟩
  omega
 | x :: xs, n, h => by
  rw [walkL, preL, apS_append]
  have hp := apS_len bs (preL xs)
  obtain ⟨h1, h2⟩ := walk_sz bs most x n
  by_cases hc : (walkS (szS bs most) x n).1 = true
  ·rw [if_pos hc]
   obtain ⟨h3, h4⟩ := h1 hc
   have h5 := walkL_sz bs most xs (walkS (szS bs most) x n).2 (by omega)
   rw [h3] at h5 ⊢
   rw [← Int.add_assoc]
   exact h5
  ·rw [if_neg hc]
   obtain ⟨h3, h4⟩ := h2 (by simpa using hc)
   refine ⟨fun h => absurd h Bool.false_ne_true, fun _ => ?_⟩
   omega
end
theorem walk_cap (bs : Bs) (t : Tm) : (walkS (szS bs 120) t 0).2 > 120 ↔ apS bs (pre t) > 120 := by
 obtain ⟨h1, h2⟩ := walk_sz bs 120 t 0
 cases hc : (walkS (szS bs 120) t 0).1 with
 | true => have := h1 hc; omega
 | false => have := h2 hc; omega
def szO (bb mm bn : Nm) (bs : Bs) (most n : Int) (x : Nm) : Ob := if x = bb then .cells 133 [.map mm] else if x = mm then .map (bsE bs) else if x = bn then .cells 3 [iA n] else .cells 3 [iA most]
section
variable {bb mm bn bm : Nm} (d1 : bb ≠ mm) (d2 : bb ≠ bn) (d3 : bb ≠ bm) (d4 : mm ≠ bn) (d5 : mm ≠ bm) (d6 : bn ≠ bm) (bs : Bs) (most n : Int)
theorem szO_bb : szO bb mm bn bs most n bb = .cells 133 [.map mm] := by simp [szO]
include d1 in
theorem szO_mm : szO bb mm bn bs most n mm = .map (bsE bs) := by simp [szO, d1.symm]
include d2 d4 in
theorem szO_bn : szO bb mm bn bs most n bn = .cells 3 [iA n] := by simp [szO, d2.symm, d4.symm]
include d3 d5 d6 in
theorem szO_bm : szO bb mm bn bs most n bm = .cells 3 [iA most] := by simp [szO, d3.symm, d5.symm, d6.symm]
theorem szO_cl (k : Nat) (h : ∀ n ∈ [bb, mm, bn, bm], n.1 < k) : Cl k [bb, mm, bn, bm] (szO bb mm bn bs most n) := by
 intro x _ y hy
 unfold szO at hy
 split at hy
 ·simp [Ob.names, namesL, AV.names] at hy; rw [hy]; exact h mm (by simp)
 ·split at hy
  ·simp [Ob.names] at hy
  ·split at hy <;> simp [Ob.names, namesL, AV.names] at hy
include d1 d2 d3 d4 d5 d6
set_option maxHeartbeats 1000000 in
set_option maxRecDepth 20000 in
theorem size1_tri (hn : 0 ≤ n) (hn2 : n ≤ 1000000000) (pl : List Int) (x : Tm) : Tri Tryz.prog 142 [.d (.sl (pl.map iD)), .d (tmDV x), .ptr bb 0, .ptr bn 0, .ptr bm 0]
  (stE [bb, mm, bn, bm] (szO bb mm bn bs most n) (szO bb mm bn bs most (n + apOne bs x)) (bA (decide (n + apOne bs x ≤ most)))) := by
 refine aES Tryz.func142 rfl Tryz.ntmps142 fun w0 h0 k hag => ?_
 obtain ⟨hb, eb⟩ := hag.get bb (by simp)
 obtain ⟨hm, em⟩ := hag.get mm (by simp)
 obtain ⟨hbn, en⟩ := hag.get bn (by simp)
 obtain ⟨hbm, eo⟩ := hag.get bm (by simp)
 rw [szO_bb] at eb
 rw [szO_mm d1] at em
 rw [szO_bn d2 d4] at en
 rw [szO_bm d3 d5 d6] at eo
 have qb := nmne hb
 have qm := nmne hm
 have qn := nmne hbn
 have qo := nmne hbm
 have fin : ∀ h : Heap, h bb = h0 bb → h mm = h0 mm → h bm = h0 bm → h bn = some (.cells 3 [iA (n + apOne bs x)]) → Ag k [bb, mm, bn, bm] (szO bb mm bn bs most (n + apOne bs x)) h := by
  intro h e1 e2 e3 e4
  refine ⟨fun y hy => ⟨(hag.get y hy).1, ?_⟩⟩
  simp only [List.mem_cons, List.not_mem_nil, or_false] at hy
  rcases hy with rfl | rfl | rfl | rfl
  ·rw [szO_bb, e1, eb]
  ·rw [szO_mm d1, e2, em]
  ·rw [szO_bn d2 d4, e4]
  ·rw [szO_bm d3 d5 d6, e3, eo]
 cases hl : lookB x.v bs with
 | none =>
  have hg : getM x.v (bsE bs) = none := by rw [getM_bs, hl]; rfl
  have ha : apOne bs x = 1 := by unfold apOne; rw [hl]; simp
  rw [ha] at fin ⊢
  cases hv : decide (x.v > 0) with
  | true =>
   repeat' (first | refine aQ fun K hK => ?_ | ((first | refine aK fun R hR => ?_ | refine aD mixed fun R hR => ?_); simp only [go_sem, eb, em, en, eo, qb, qm, qn, qo, nf d1, nf d2, nf d3, nf d4, nf d5, nf d6, hg, hv, Option.isSome_none, AV.toD, Option.getD_none]) | ((first | (refine hR _ ?_; clear hR R) | refine aZ rfl ?_); try refine aP ?_) | ((repeat (fail_if_success refine hK _ ?_); clear hK K); refine hK _ ?_; clear hK K) | refine aT ?_ | refine aF ?_ | refine aB ?_ | refine aN ?_ | fail)
   refine ret_st (okA Tryz.ntmps142 Tryz.results142) (by simp only [resA, resV, Tryz.results142, go_sem]; first | exact .dat rfl | exact Co.t2 (.dat rfl) (.dat rfl) | exact Co.t3 (.dat rfl) (.dat rfl) (.dat rfl)) ?_ ?_ ?_
   ·refine fin _ ?_ ?_ ?_ ?_ <;> simp only [go_sem, qb, qm, qn, qo, nf d1, nf d2, nf d3, nf d4, nf d5, nf d6]
   ·refine FrN.updn (by repeat (first | exact FrN.rfl' _ _ _ | assumption | refine FrN.updk ?_ (by omega) _ | refine FrN.stH ?_ _)) (by simp) _
   ·exact szO_cl _ _ _ k fun n hn => (hag.get n hn).1
  | false =>
   repeat' (first | refine aQ fun K hK => ?_ | ((first | refine aK fun R hR => ?_ | refine aD mixed fun R hR => ?_); simp only [go_sem, eb, em, en, eo, qb, qm, qn, qo, nf d1, nf d2, nf d3, nf d4, nf d5, nf d6, hg, hv, Option.isSome_none, AV.toD, Option.getD_none]) | ((first | (refine hR _ ?_; clear hR R) | refine aZ rfl ?_); try refine aP ?_) | ((repeat (fail_if_success refine hK _ ?_); clear hK K); refine hK _ ?_; clear hK K) | refine aT ?_ | refine aF ?_ | refine aB ?_ | refine aN ?_ | fail)
   refine ret_st (okA Tryz.ntmps142 Tryz.results142) (by simp only [resA, resV, Tryz.results142, go_sem]; first | exact .dat rfl | exact Co.t2 (.dat rfl) (.dat rfl) | exact Co.t3 (.dat rfl) (.dat rfl) (.dat rfl)) ?_ ?_ ?_
   ·refine fin _ ?_ ?_ ?_ ?_ <;> simp only [go_sem, qb, qm, qn, qo, nf d1, nf d2, nf d3, nf d4, nf d5, nf d6]
   ·refine FrN.updn (by repeat (first | exact FrN.rfl' _ _ _ | assumption | refine FrN.updk ?_ (by omega) _ | refine FrN.stH ?_ _)) (by simp) _
   ·exact szO_cl _ _ _ k fun n hn => (hag.get n hn).1
 | some u =>
  have hg : getM x.v (bsE bs) = some (tmDV u) := by rw [getM_bs, hl]; rfl
  cases hv : decide (x.v > 0) with
  | true =>
   have ha : apOne bs x = count u 120 := by unfold apOne; rw [hl, if_pos (by simpa using hv)]
   have := count_le u 120 (by omega)
   rw [ha] at fin ⊢
   repeat' (first | refine aQ fun K hK => ?_ | ((first | refine aK fun R hR => ?_ | refine aD mixed fun R hR => ?_); simp only [go_sem, eb, em, en, eo, qb, qm, qn, qo, nf d1, nf d2, nf d3, nf d4, nf d5, nf d6, hg, hv, Option.isSome_some]) | ((first | (refine hR _ ?_; clear hR R) | refine aZ rfl ?_); try refine aP ?_) | ((repeat (fail_if_success refine hK _ ?_); clear hK K); refine hK _ ?_; clear hK K) | refine aT ?_ | refine aF ?_ | refine aB ?_ | ((first | refine CallK.pure (enter112) (count_tri u 120 (by omega) (by omega)) ?_ ?_ | refine CallD.pure (enter112) (count_tri u 120 (by omega) (by omega)) ?_ ?_); (focus exact aC); simp only [go_sem, eb, em, en, eo, qb, qm, qn, qo, nf d1, nf d2, nf d3, nf d4, nf d5, nf d6, hg, hv, Option.isSome_some]) | refine aN ?_ | fail)
   refine ret_st (okA Tryz.ntmps142 Tryz.results142) (by simp only [resA, resV, Tryz.results142, go_sem]; first | exact .dat rfl | exact Co.t2 (.dat rfl) (.dat rfl) | exact Co.t3 (.dat rfl) (.dat rfl) (.dat rfl)) ?_ ?_ ?_
   ·refine fin _ ?_ ?_ ?_ ?_ <;> simp only [go_sem, qb, qm, qn, qo, nf d1, nf d2, nf d3, nf d4, nf d5, nf d6]
   ·refine FrN.updn (by repeat (first | exact FrN.rfl' _ _ _ | assumption | refine FrN.updk ?_ (by omega) _ | refine FrN.stH ?_ _)) (by simp) _
   ·exact szO_cl _ _ _ k fun n hn => (hag.get n hn).1
  | false =>
   have ha : apOne bs x = 1 := by unfold apOne; rw [if_neg (by simpa using hv)]
   rw [ha] at fin ⊢
   repeat' (first | refine aQ fun K hK => ?_ | ((first | refine aK fun R hR => ?_ | refine aD mixed fun R hR => ?_); simp only [go_sem, eb, em, en, eo, qb, qm, qn, qo, nf d1, nf d2, nf d3, nf d4, nf d5, nf d6, hg, hv, Option.isSome_some]) | ((first | (refine hR _ ?_; clear hR R) | refine aZ rfl ?_); try refine aP ?_) | ((repeat (fail_if_success refine hK _ ?_); clear hK K); refine hK _ ?_; clear hK K) | refine aT ?_ | refine aF ?_ | refine aB ?_ | refine aN ?_ | fail)
   refine ret_st (okA Tryz.ntmps142 Tryz.results142) (by simp only [resA, resV, Tryz.results142, go_sem]; first | exact .dat rfl | exact Co.t2 (.dat rfl) (.dat rfl) | exact Co.t3 (.dat rfl) (.dat rfl) (.dat rfl)) ?_ ?_ ?_
   ·refine fin _ ?_ ?_ ?_ ?_ <;> simp only [go_sem, qb, qm, qn, qo, nf d1, nf d2, nf d3, nf d4, nf d5, nf d6]
   ·refine FrN.updn (by repeat (first | exact FrN.rfl' _ _ _ | assumption | refine FrN.updk ?_ (by omega) _ | refine FrN.stH ?_ _)) (by simp) _
   ·exact szO_cl _ _ _ k fun n hn => (hag.get n hn).1
end
set_option maxHeartbeats 1000000 in
set_option maxRecDepth 20000 in
theorem size_tri (mm : Nm) (bs : Bs) (t : Tm) (ht : t.size ≤ 4000000) (most : Int) : Tri Tryz.prog 131 [.map mm, .d (tmDV t), iA most] (rdE [(mm, .map (bsE bs))] (iA (walkS (szS bs most) t 0).2)) := by
 refine aER Tryz.func131 rfl Tryz.ntmps131 fun w0 h0 k hro => ?_
 obtain ⟨n2, em⟩ := hro.get _ (List.mem_cons_self ..)
 have q2 := nmne n2
 dsimp only at n2 em
 have d1 : ((k, 0) : Nm) ≠ mm := fun e => by rw [← e] at n2; simp at n2
 have d2 : ((k, 0) : Nm) ≠ (k + 1, 0) := by simp
 have d3 : ((k, 0) : Nm) ≠ (k, 2) := by simp
 have d4 : mm ≠ (k + 1, 0) := fun e => by rw [e] at n2; simp only at n2; omega
 have d5 : mm ≠ (k, 2) := fun e => by rw [e] at n2; simp at n2
 have d6 : ((k + 1, 0) : Nm) ≠ (k, 2) := by simp
 have hw := walk_tri (szO (k, 0) mm (k + 1, 0) bs most) [(k, 0), mm, (k + 1, 0), (k, 2)] 142 [.ptr (k, 0) 0, .ptr (k + 1, 0) 0, .ptr (k, 2) 0] (szS bs most) (fun n s => 0 ≤ s ∧ s + 121 * n ≤ 1000000000) (fun s k' h => szO_cl bs most s k' h) (enter142) (by simp) t
  (fun x _ n s hs => ⟨by have := apOne_pos bs x; simp only [szS]; omega, fun pl => size1_tri d1 d2 d3 d4 d5 d6 bs most s hs.1 (by omega) pl x⟩) 0 0 (by omega) ht
 generalize walkS (szS bs most) t 0 = r at hw ⊢
 have hA : ∀ h : Heap, h (k, 0) = some (.cells 133 [.map mm]) → h mm = some (.map (bsE bs)) → h (k + 1, 0) = some (.cells 3 [iA 0]) → h (k, 2) = some (.cells 3 [iA most]) → Ag (k + 1 + 1) [(k, 0), mm, (k + 1, 0), (k, 2)] (szO (k, 0) mm (k + 1, 0) bs most 0) h := by
  intro h e1 e2 e3 e4
  refine ⟨fun y hy => ?_⟩
  simp only [List.mem_cons, List.not_mem_nil, or_false] at hy
  rcases hy with h1 | h1 | h1 | h1
  ·rw [h1, szO_bb, e1]; exact ⟨by simp only; omega, rfl⟩
  ·rw [h1, szO_mm d1, e2]; exact ⟨by omega, rfl⟩
  ·rw [h1, szO_bn d2 d4, e3]; exact ⟨by simp only; omega, rfl⟩
  ·rw [h1, szO_bm d3 d5 d6, e4]; exact ⟨by simp only; omega, rfl⟩
 have eN := szO_bn d2 d4 bs most r.2
 repeat' (first | refine aQ fun K hK => ?_ | ((first | refine aK fun R hR => ?_ | refine aD mixed fun R hR => ?_); simp only [go_sem, em, q2, eN]) | ((first | (refine hR _ ?_; clear hR R) | refine aZ rfl ?_); try refine aP ?_) | ((repeat (fail_if_success refine hK _ ?_); clear hK K); refine hK _ ?_; clear hK K) | refine aT ?_ | refine aF ?_ | refine aB ?_ | ((first | refine CallK.chg (enter89) (hw) ?_ (hA _ (by simp only [go_sem, ]) (by simp only [go_sem, em, q2]) (by simp only [go_sem, ]) (by simp only [go_sem, ])) (Fr.rfl' _ _) ?_ | refine CallD.chg (enter89) (hw) ?_ (hA _ (by simp only [go_sem, ]) (by simp only [go_sem, em, q2]) (by simp only [go_sem, ]) (by simp only [go_sem, ])) (Fr.rfl' _ _) (by first | assumption | exact List.cons_ne_nil _ _) ?_); (focus exact aC); simp only [go_sem, em, q2, eN]) | refine aN ?_ | fail)
 (first | refine ret_pure ?_ ?_ ?_ | refine ret_ro ?_ ?_ ?_)
 ·exact (by simp only [Tryz.results131, resOkL, resOk, Tryz.ntmps131, List.toList_toArray]; first | decide | (simp only [go_sem]; done))
 ·simp only [resA, resV, Tryz.results131, go_sem]
  exact .dat rfl
 ·intro x hx
  show stH _ _ _ x = _
  rw [stH_get]
  by_cases hxm : x = mm
  ·rw [if_pos (by simp [hxm]), hxm, szO_mm d1, em]
  ·rw [if_neg]
   ·exact (frA : Fr k h0 _) x hx
   ·simp only [List.mem_cons, List.not_mem_nil, or_false]
    rintro (h | h | h | h)
    ·rw [h] at hx; simp at hx
    ·exact hxm h
    ·rw [h] at hx; simp only at hx; omega
    ·rw [h] at hx; simp at hx
def rawAns (bs : Bs) (t : Tm) : Tm × Int := if apS bs (pre t) > 120 then (tm0, 2) else (mapM (madeS bs) t, 0)
set_option maxRecDepth 20000 in
theorem raw_tri (mm : Nm) (bs : Bs) (hbs : ∀ p ∈ bs, p.2.size ≤ 4000000) (t : Tm) (ht : t.size ≤ 4000000) : Tri Tryz.prog 119 [.map mm, .d (tmDV t)] (rdE [(mm, .map (bsE bs))] (.tup [.d (tmDV (rawAns bs t).1), iA (rawAns bs t).2])) := by
 refine aER Tryz.func119 rfl Tryz.ntmps119 fun w0 h0 k hro => ?_
 obtain ⟨n2, em⟩ := hro.get _ (List.mem_cons_self ..)
 have q2 := nmne n2
 dsimp only at n2 em
 have hs := size_tri mm bs t ht 120
 have hmd := made_tri mm bs hbs t ht
 have hro' : ∀ (k' : Nat) (h : Heap), mm.1 < k' → h mm = some (.map (bsE bs)) → RoOK k' [(mm, .map (bsE bs))] h := fun k' h h1 e => ⟨fun x hx => by simp only [List.mem_cons, List.not_mem_nil, or_false] at hx; subst hx; exact ⟨h1, e⟩⟩
 unfold rawAns
 cases hc : decide ((walkS (szS bs 120) t 0).2 > 120) with
 | true =>
  rw [if_pos ((walk_cap bs t).1 (by simpa using hc))]
  repeat' (first | refine aQ fun K hK => ?_ | ((first | refine aK fun R hR => ?_ | refine aD mixed fun R hR => ?_); simp only [go_sem, em, q2, hc]) | ((first | (refine hR _ ?_; clear hR R) | refine aZ rfl ?_); try refine aP ?_) | ((repeat (fail_if_success refine hK _ ?_); clear hK K); refine hK _ ?_; clear hK K) | refine aT ?_ | refine aF ?_ | refine aB ?_ | ((first | refine CallK.look (enter131) (hs) ?_ (hro' (k + 1) _ (by omega) (by simp only [go_sem, em, q2])) (Fr.rfl' _ _) ?_ | refine CallD.look (enter131) (hs) ?_ (hro' (k + 1) _ (by omega) (by simp only [go_sem, em, q2])) (Fr.rfl' _ _) (by first | assumption | exact List.cons_ne_nil _ _) ?_); (focus exact aC); simp only [go_sem, em, q2, hc]) | refine aN ?_ | fail)
  (first | refine ret_pure ?_ ?_ ?_ | refine ret_ro ?_ ?_ ?_); focus exact (okA Tryz.ntmps119 Tryz.results119)
  rotate_left; focus exact frA
  simp only [resA, resV, Tryz.results119, go_sem]
  all_goals try exact coA
  exact .t2 (co_tm rfl) (.dat rfl)
 | false =>
  rw [if_neg (fun h => by have := (walk_cap bs t).2 h; simp at hc; omega)]
  repeat' (first | refine aQ fun K hK => ?_ | ((first | refine aK fun R hR => ?_ | refine aD mixed fun R hR => ?_); simp only [go_sem, em, q2, hc]) | ((first | (refine hR _ ?_; clear hR R) | refine aZ rfl ?_); try refine aP ?_) | ((repeat (fail_if_success refine hK _ ?_); clear hK K); refine hK _ ?_; clear hK K) | refine aT ?_ | refine aF ?_ | refine aB ?_ | ((first | refine CallK.look (enter131) (hs) ?_ (hro' (k + 1) _ (by omega) (by simp only [go_sem, em, q2])) (Fr.rfl' _ _) ?_ | refine CallD.look (enter131) (hs) ?_ (hro' (k + 1) _ (by omega) (by simp only [go_sem, em, q2])) (Fr.rfl' _ _) (by first | assumption | exact List.cons_ne_nil _ _) ?_ | refine CallK.look (enter122) (hmd) ?_ (hro' (k + 1) _ (by omega) (by simp only [go_sem, em, q2])) (Fr.rfl' _ _) ?_ | refine CallD.look (enter122) (hmd) ?_ (hro' (k + 1) _ (by omega) (by simp only [go_sem, em, q2])) (Fr.rfl' _ _) (by first | assumption | exact List.cons_ne_nil _ _) ?_); (focus exact aC); simp only [go_sem, em, q2, hc]) | refine aN ?_ | fail)
  (first | refine ret_pure ?_ ?_ ?_ | refine ret_ro ?_ ?_ ?_); focus exact (okA Tryz.ntmps119 Tryz.results119)
  rotate_left; focus exact frA
  simp only [resA, resV, Tryz.results119, go_sem]
  all_goals try exact coA
  all_goals exact .t2 (co_tm' rfl) (.dat rfl)
def atA (t : Tm) (p : List Int) : Tm × Bool := match atG t p with | some x => (x, true) | none => (tm0, false)
theorem atA_nil (t : Tm) : atA t [] = (t, true) := rfl
theorem atA_out {t : Tm} {i : Int} {p : List Int} (h : ¬ (0 ≤ i ∧ i < t.us.length)) : atA t (i :: p) = (tm0, false) := by
 unfold atA; rw [atG, if_neg h]
theorem atA_in {t : Tm} {n : Nat} (hn : n < t.us.length) (p : List Int) : atA t ((n : Int) :: p) = atA t.us[n] p := by
 unfold atA; rw [atG_at hn]
set_option maxHeartbeats 1000000 in
set_option maxRecDepth 20000 in
theorem find_tri (p : List Int) (t : Tm) (hp : p.length ≤ 4000000) (ht : t.size ≤ 4000000) : Tri Tryz.prog 100 [.d (tmDV t), .d (.sl (p.map iD))] (pure' (.tup [.d (tmDV (atA t p).1), bA (atA t p).2])) := by
 refine aE Tryz.func100 rfl Tryz.ntmps100 fun w0 h0 k hrd hwr => ?_
 repeat' (first | refine aQ fun K hK => ?_ | ((first | refine aK fun R hR => ?_ | refine aD mixed fun R hR => ?_); simp only [go_sem]) | ((first | (refine hR _ ?_; clear hR R) | refine aZ rfl ?_); try refine aP ?_) | ((repeat (fail_if_success refine hK _ ?_); clear hK K); refine hK _ ?_; clear hK K) | refine aT ?_ | refine aF ?_ | refine aB ?_ | refine aN ?_ | fail)
 refine awp_loop (fun σ => ∃ (i : Nat) (x : Tm), σ.t 2 = .ptr (k, 0) 0 ∧ σ.t 4 = .ptr (k, 1) 0 ∧ σ.t 8 = .d (.sl (p.map iD)) ∧ σ.t 9 = iA p.length ∧ σ.t 10 = iA i ∧ σ.h (k, 0) = some (.cells 63 [iA x.v, iA x.f, .d (.sl (x.us.map tmDV))]) ∧ σ.h (k, 1) = some (.cells 63 [iA 0, iA 0, .nil]) ∧
  Fr k h0 σ.h ∧ k < σ.k ∧ i ≤ p.length ∧ x.size ≤ 4000000 ∧ atA x (p.drop i) = atA t p) (fun σ => p.length - (intOf' (σ.t 10)).toNat) ?_ ?_
 ·refine ⟨0, t, ?_⟩
  simp only [go_sem, List.drop_zero]
  and_intros; all_goals try (first | rfl | omega | assumption | exact anA)
 ·rintro σ ⟨i, x, s2, s4, s8, s9, s10, sh, sh', hF, hk, hi, hx, hv⟩
  have hne := ltne hk
  rcases Nat.lt_or_ge i p.length with hlt | hge
  ·have hz : (i : Int) < (p.length : Int) := by omega
   have e1 : (p.map iD).getD i default = iD p[i] := nth_map iD hlt _
   have hlen := x.len_lt
   rw [List.drop_eq_getElem_cons hlt] at hv
   generalize p[i] = y at *
   by_cases hc : 0 ≤ y ∧ y < x.us.length
   ·obtain ⟨n, hn⟩ : ∃ n : Nat, y = n := ⟨y.toNat, by omega⟩
    subst hn
    have hn : n < x.us.length := by omega
    have hz' : (n : Int) < (x.us.length : Int) := by omega
    have c1 : decide ((n : Int) < 0) = false := by simp
    have c2 : decide ((n : Int) ≥ (x.us.length : Int)) = false := by simp; omega
    have e2 : (x.us.map tmDV).getD n default = tmDV x.us[n] := nth_map tmDV hn _
    have hs := Tm.size_at hn
    rw [atA_in hn] at hv
    repeat' (first | refine aQ fun K hK => ?_ | ((first | refine aK fun R hR => ?_ | refine aD mixed fun R hR => ?_); simp only [go_sem, s2, s4, s8, s9, s10, sh, sh', hz, hz', e1, e2, c1, c2, hne, List.length_map, Int.toNat_natCast]) | ((first | (refine hR _ ?_; clear hR R) | refine aZ rfl ?_); try refine aP ?_) | ((repeat (fail_if_success refine hK _ ?_); clear hK K); refine hK _ ?_; clear hK K) | refine aT ?_ | refine aF ?_ | refine aB ?_ | refine aN ?_ | fail)
    refine ⟨⟨i + 1, x.us[n], ?_⟩, ?_⟩
    rotate_left
    ·simp only [go_sem, s2, s4, s8, s9, s10, sh, sh', hne]; omega
    simp only [go_sem, s2, s4, s8, s9, s10, sh, sh', hne]
    and_intros; all_goals try (first | rfl | omega | assumption | exact anA)
   ·rw [atA_out hc] at hv
    rw [← hv]
    cases c1 : decide (y < 0) with
    | true =>
     repeat' (first | refine aQ fun K hK => ?_ | ((first | refine aK fun R hR => ?_ | refine aD mixed fun R hR => ?_); simp only [go_sem, s2, s4, s8, s9, s10, sh, sh', hz, e1, c1, hne, List.length_map, Int.toNat_natCast]) | ((first | (refine hR _ ?_; clear hR R) | refine aZ rfl ?_); try refine aP ?_) | ((repeat (fail_if_success refine hK _ ?_); clear hK K); refine hK _ ?_; clear hK K) | refine aT ?_ | refine aF ?_ | refine aB ?_ | refine aN ?_ | fail)
     (first | refine ret_pure ?_ ?_ ?_ | refine ret_ro ?_ ?_ ?_); focus exact (by simp only [Tryz.results100, resOkL, resOk, Tryz.ntmps100, List.toList_toArray]; first | decide | (simp only [go_sem, s4]; done) | (simp only [go_sem, s4]; and_intros <;> first | omega | rfl | decide))
     rotate_left; focus exact frA
     simp only [resA, resV, Tryz.results100, go_sem, s4]
     all_goals try exact coA
     all_goals exact .t2 (co_tm rfl) (.dat rfl)
    | false =>
     have c2 : decide (y ≥ (x.us.length : Int)) = true := by simp at c1 ⊢; omega
     repeat' (first | refine aQ fun K hK => ?_ | ((first | refine aK fun R hR => ?_ | refine aD mixed fun R hR => ?_); simp only [go_sem, s2, s4, s8, s9, s10, sh, sh', hz, e1, c1, c2, hne, List.length_map, Int.toNat_natCast]) | ((first | (refine hR _ ?_; clear hR R) | refine aZ rfl ?_); try refine aP ?_) | ((repeat (fail_if_success refine hK _ ?_); clear hK K); refine hK _ ?_; clear hK K) | refine aT ?_ | refine aF ?_ | refine aB ?_ | refine aN ?_ | fail)
     (first | refine ret_pure ?_ ?_ ?_ | refine ret_ro ?_ ?_ ?_); focus exact (by simp only [Tryz.results100, resOkL, resOk, Tryz.ntmps100, List.toList_toArray]; first | decide | (simp only [go_sem, s4]; done) | (simp only [go_sem, s4]; and_intros <;> first | omega | rfl | decide))
     rotate_left; focus exact frA
     simp only [resA, resV, Tryz.results100, go_sem, s4]
     all_goals try exact coA
     all_goals exact .t2 (co_tm rfl) (.dat rfl)
  ·have hz : ¬ ((i : Int) < (p.length : Int)) := by omega
   rw [List.drop_eq_nil_of_le hge, atA_nil] at hv
   repeat' (first | refine aQ fun K hK => ?_ | ((first | refine aK fun R hR => ?_ | refine aD mixed fun R hR => ?_); simp only [go_sem, s2, s4, s8, s9, s10, sh, sh', hz, hne]) | ((first | (refine hR _ ?_; clear hR R) | refine aZ rfl ?_); try refine aP ?_) | ((repeat (fail_if_success refine hK _ ?_); clear hK K); refine hK _ ?_; clear hK K) | refine aT ?_ | refine aF ?_ | refine aB ?_ | refine aN ?_ | fail)
   rw [← hv]
   (first | refine ret_pure ?_ ?_ ?_ | refine ret_ro ?_ ?_ ?_); focus exact (by simp only [Tryz.results100, resOkL, resOk, Tryz.ntmps100, List.toList_toArray]; first | decide | (simp only [go_sem, s4]; done) | (simp only [go_sem, s4]; and_intros <;> first | omega | rfl | decide))
   rotate_left; focus exact frA
   simp only [resA, resV, Tryz.results100, go_sem, s4]
   all_goals try exact coA
   all_goals exact .t2 (co_tm' rfl) (.dat rfl)
end Go.Proofs.YtmeekpinkfpnhabGreat
