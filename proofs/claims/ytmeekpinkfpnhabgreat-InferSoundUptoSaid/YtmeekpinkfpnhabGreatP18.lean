/- Named objects told by a list. -/
import Derived.Test.YtmeekpinkfpnhabGreatP08
import Derived.Test.YtmeekpinkfpnhabGreatP10
import Derived.Test.YtmeekpinkfpnhabGreatP11
import Derived.Test.YtmeekpinkfpnhabGreatP17
set_option linter.all false
namespace Go.Proofs.YtmeekpinkfpnhabGreat
open Go.RowKit
def idxO {S : Type} (step : Tm → S → Option (Bool × S)) : List Tm → Int → S → Option (Int × S)
 | [], _, s => some (-1, s)
 | u :: us, i, s => match step u s with
  | none => none
  | some (true, s') => some (i, s')
  | some (false, s') => idxO step us (i + 1) s'
theorem idxO_any {S : Type} (step : Tm → S → Option (Bool × S)) : ∀ (us : List Tm) (i : Int) (s : S), 0 ≤ i → anyO step us s = (idxO step us i s).map fun r => (decide (r.1 ≥ 0), r.2)
 | [], i, s, _ => rfl
 | u :: us, i, s, h => by
  rw [anyO, idxO]
  cases step u s with
  | none => rfl
  | some r =>
   obtain ⟨b, s'⟩ := r
   cases b with
   | true => simp [h]
   | false => exact idxO_any step us (i + 1) s' (by omega)
theorem idxO_at {S : Type} {step : Tm → S → Option (Bool × S)} {us : List Tm} {i : Nat} (hi : i < us.length) {j : Int} {s : S} : idxO step (us.drop i) j s = match step us[i] s with
  | none => none
  | some (true, s') => some (j, s')
  | some (false, s') => idxO step (us.drop (i + 1)) (j + 1) s' := by rw [List.drop_eq_getElem_cons hi, idxO]
theorem eqO_at {S : Type} {step : Tm → Tm → S → Option (Bool × S)} {xs ys : List Tm} {i : Nat} (hi : i < xs.length) (hi' : i < ys.length) {s : S} : eqO step (xs.drop i) (ys.drop i) s = match step xs[i] ys[i] s with
  | none => none
  | some (true, s') => eqO step (xs.drop (i + 1)) (ys.drop (i + 1)) s'
  | some (false, s') => some (false, s') := by
 rw [List.drop_eq_getElem_cons hi, List.drop_eq_getElem_cons hi', eqO]
 all_goals rfl
section
variable {S : Type} (O : S → Nm → Ob) (N : List Nm) (g : FuncId) (first caps : List AV) (step : Tm → S → Option (Bool × S)) (hN : ∀ s (k : Nat), (∀ n ∈ N, n.1 < k) → Cl k N (O s)) (hg : enterOk Tryz.prog g)
include hN hg
set_option maxHeartbeats 1000000 in
set_option maxRecDepth 20000 in
theorem indexO_tri (xs : List Tm) (hdo : ∀ x ∈ xs, ∀ s q, step x s = some q → Tri Tryz.prog g (first ++ [.d (tmDV x)] ++ caps) (stE N (O s) (O q.2) (bA q.1))) (s : S) (r : Int × S) (hr : idxO step xs 0 s = some r) :
  Tri Tryz.prog 153 [.d (.sl (xs.map tmDV)), .fn (.func g) first caps] (stE N (O s) (O r.2) (iA r.1)) := by
 refine aES Tryz.func153 rfl Tryz.ntmps153 fun w0 h0 k hag => ?_
 refine awp_len (i := 0) (xs := xs.map tmDV) (by decide) rfl fun hl => ?_
 rw [List.length_map] at hl
 have hlt0 : ∀ n ∈ N, n.1 < k := fun n hn => (hag.get n hn).1
 repeat' (first | refine aQ fun K hK => ?_ | ((first | refine aK fun R hR => ?_ | refine aD mixed fun R hR => ?_); simp only [go_sem]) | ((first | (refine hR _ ?_; clear hR R) | refine aZ rfl ?_); try refine aP ?_) | ((repeat (fail_if_success refine hK _ ?_); clear hK K); refine hK _ ?_; clear hK K) | refine aT ?_ | refine aF ?_ | refine aB ?_ | refine aN ?_ | fail)
 refine awp_loop (fun σ => ∃ (i : Nat) (si : S), σ.t 0 = .d (.sl (xs.map tmDV)) ∧ σ.t 1 = .fn (.func g) first caps ∧ σ.t 7 = iA xs.length ∧ σ.t 8 = iA i ∧ Ag k N (O si) σ.h ∧ FrN k N h0 σ.h ∧ k < σ.k ∧ i ≤ xs.length ∧ idxO step (xs.drop i) i si = some r) (fun σ => xs.length - (intOf' (σ.t 8)).toNat) ?_ ?_
 ·refine ⟨0, s, ?_⟩
  simp only [go_sem, List.drop_zero]
  and_intros; all_goals try (first | rfl | omega | assumption | exact anA)
  all_goals first | exact hr | exact FrN.rfl' _ _ _ | exact hag
 ·rintro σ ⟨i, si, s0, s1, s7, s8, hA, hF, hk, hi, hv⟩
  rcases Nat.lt_or_ge i xs.length with hlt | hge
  ·have hz : (i : Int) < (xs.length : Int) := by omega
   have e1 : (xs.map tmDV).getD i default = tmDV xs[i] := nth_map tmDV hlt _
   have hN1 := notN hag (k' := σ.k + 1) (by omega)
   have hN2 := notN hag (k' := σ.k + 1 + 1) (by omega)
   rw [idxO_at hlt] at hv
   cases hst : step xs[i] si with
   | none => rw [hst] at hv; cases hv
   | some q =>
    have hT := hdo _ (List.getElem_mem hlt) si q hst
    rw [hst] at hv
    obtain ⟨qb, qs⟩ := q
    have hcl := hN qs k hlt0
    cases qb with
    | true =>
     cases hv
     repeat' (first | refine aQ fun K hK => ?_ | ((first | refine aK fun R hR => ?_ | refine aD mixed fun R hR => ?_); simp only [go_sem, s0, s1, s7, s8, hz, e1, hN1, hN2, Int.toNat_natCast]) | ((first | (refine hR _ ?_; clear hR R) | refine aZ rfl ?_); try refine aP ?_) | ((repeat (fail_if_success refine hK _ ?_); clear hK K); refine hK _ ?_; clear hK K) | refine aT ?_ | refine aF ?_ | refine aB ?_ | ((first | refine CallK.vchg rfl (hg) (hT) ?_ (by assumption) frA ?_ | refine CallD.vchg rfl (hg) (hT) ?_ (by assumption) frA (by assumption) ?_); (focus exact aC); simp only [go_sem, s0, s1, s7, s8, hz, e1, hN1, hN2, Int.toNat_natCast]) | refine aN ?_ | fail)
     refine ret_st (okA Tryz.ntmps153 Tryz.results153) ?_ (by repeat (first | assumption | exact Ag.stN (by assumption) _ _ | refine Ag.updk ?_ (by omega) _)) (by repeat (first | exact FrN.rfl' _ _ _ | assumption | refine FrN.updk ?_ (by omega) _ | refine FrN.stH ?_ _)) (by assumption)
     simp only [resA, resV, Tryz.results153, go_sem]
     all_goals try (first | exact .dat rfl | exact Co.t2 (.dat rfl) (.dat rfl) | exact Co.t3 (.dat rfl) (.dat rfl) (.dat rfl))
    | false =>
     have hv2 : idxO step (xs.drop (i + 1)) ((i + 1 : Nat) : Int) qs = some r := by
      have e : ((i + 1 : Nat) : Int) = (i : Int) + 1 := by omega
      rw [e]; exact hv
     clear hv
     repeat' (first | refine aQ fun K hK => ?_ | ((first | refine aK fun R hR => ?_ | refine aD mixed fun R hR => ?_); simp only [go_sem, s0, s1, s7, s8, hz, e1, hN1, hN2, Int.toNat_natCast]) | ((first | (refine hR _ ?_; clear hR R) | refine aZ rfl ?_); try refine aP ?_) | ((repeat (fail_if_success refine hK _ ?_); clear hK K); refine hK _ ?_; clear hK K) | refine aT ?_ | refine aF ?_ | refine aB ?_ | ((first | refine CallK.vchg rfl (hg) (hT) ?_ (by assumption) frA ?_ | refine CallD.vchg rfl (hg) (hT) ?_ (by assumption) frA (by assumption) ?_); (focus exact aC); simp only [go_sem, s0, s1, s7, s8, hz, e1, hN1, hN2, Int.toNat_natCast]) | refine aN ?_ | fail)
     refine ⟨⟨i + 1, qs, ?_⟩, ?_⟩
     ·simp only [go_sem, s0, s1, s7, s8]
      and_intros; all_goals try (first | rfl | omega | assumption | exact anA)
      ·exact (by repeat (first | assumption | exact Ag.stN (by assumption) _ _ | refine Ag.updk ?_ (by omega) _))
      ·exact (by repeat (first | exact FrN.rfl' _ _ _ | assumption | refine FrN.updk ?_ (by omega) _ | refine FrN.stH ?_ _))
     ·simp only [go_sem, s8]; omega
  ·have hz : ¬ ((i : Int) < (xs.length : Int)) := by omega
   rw [List.drop_eq_nil_of_le hge, idxO] at hv
   cases hv
   have hcl := hN si k hlt0
   repeat' (first | refine aQ fun K hK => ?_ | ((first | refine aK fun R hR => ?_ | refine aD mixed fun R hR => ?_); simp only [go_sem, s0, s1, s7, s8, hz]) | ((first | (refine hR _ ?_; clear hR R) | refine aZ rfl ?_); try refine aP ?_) | ((repeat (fail_if_success refine hK _ ?_); clear hK K); refine hK _ ?_; clear hK K) | refine aT ?_ | refine aF ?_ | refine aB ?_ | refine aN ?_ | fail)
   refine ret_st (okA Tryz.ntmps153 Tryz.results153) ?_ (by repeat (first | assumption | exact Ag.stN (by assumption) _ _ | refine Ag.updk ?_ (by omega) _)) (by repeat (first | exact FrN.rfl' _ _ _ | assumption | refine FrN.updk ?_ (by omega) _ | refine FrN.stH ?_ _)) (by assumption)
   simp only [resA, resV, Tryz.results153, go_sem]
   all_goals try (first | exact .dat rfl | exact Co.t2 (.dat rfl) (.dat rfl) | exact Co.t3 (.dat rfl) (.dat rfl) (.dat rfl))
set_option maxRecDepth 20000 in
theorem containsO_tri (xs : List Tm) (hdo : ∀ x ∈ xs, ∀ s q, step x s = some q → Tri Tryz.prog g (first ++ [.d (tmDV x)] ++ caps) (stE N (O s) (O q.2) (bA q.1))) (s : S) (r : Bool × S) (hr : anyO step xs s = some r) :
  Tri Tryz.prog 149 [.d (.sl (xs.map tmDV)), .fn (.func g) first caps] (stE N (O s) (O r.2) (bA r.1)) := by
 rw [idxO_any step xs 0 s (by omega)] at hr
 obtain ⟨q, hq, rfl⟩ := Option.map_eq_some_iff.1 hr
 have hT := indexO_tri O N g first caps step hN hg xs hdo s q hq
 refine aES Tryz.func149 rfl Tryz.ntmps149 fun w0 h0 k hag => ?_
 have hlt0 : ∀ n ∈ N, n.1 < k := fun n hn => (hag.get n hn).1
 have hcl := hN q.2 k hlt0
 repeat' (first | refine aQ fun K hK => ?_ | ((first | refine aK fun R hR => ?_ | refine aD mixed fun R hR => ?_); simp only [go_sem]) | ((first | (refine hR _ ?_; clear hR R) | refine aZ rfl ?_); try refine aP ?_) | ((repeat (fail_if_success refine hK _ ?_); clear hK K); refine hK _ ?_; clear hK K) | refine aT ?_ | refine aF ?_ | refine aB ?_ | ((first | refine CallK.chg (enter153) (hT) ?_ (by assumption) frA ?_ | refine CallD.chg (enter153) (hT) ?_ (by assumption) frA (by assumption) ?_); (focus exact aC); simp only [go_sem]) | refine aN ?_ | fail)
 refine ret_st (okA Tryz.ntmps149 Tryz.results149) ?_ (by repeat (first | assumption | exact Ag.stN (by assumption) _ _ | refine Ag.updk ?_ (by omega) _)) (by repeat (first | exact FrN.rfl' _ _ _ | assumption | refine FrN.updk ?_ (by omega) _ | refine FrN.stH ?_ _)) (by assumption)
 simp only [resA, resV, Tryz.results149, go_sem]
 all_goals try (first | exact .dat rfl | exact Co.t2 (.dat rfl) (.dat rfl) | exact Co.t3 (.dat rfl) (.dat rfl) (.dat rfl))
end
section
variable {S : Type} (O : S → Nm → Ob) (N : List Nm) (g : FuncId) (first caps : List AV) (step : Tm → Tm → S → Option (Bool × S)) (hN : ∀ s (k : Nat), (∀ n ∈ N, n.1 < k) → Cl k N (O s)) (hg : enterOk Tryz.prog g)
include hN hg
set_option maxHeartbeats 1000000 in
set_option maxRecDepth 20000 in
theorem equalO_tri (xs ys : List Tm) (hdo : ∀ x ∈ xs, ∀ y ∈ ys, ∀ s q, step x y s = some q → Tri Tryz.prog g (first ++ [.d (tmDV x), .d (tmDV y)] ++ caps) (stE N (O s) (O q.2) (bA q.1))) (s : S) (r : Bool × S) (hr : (if xs.length = ys.length then eqO step xs ys s else some (false, s)) = some r) :
  Tri Tryz.prog 139 [.d (.sl (xs.map tmDV)), .d (.sl (ys.map tmDV)), .fn (.func g) first caps] (stE N (O s) (O r.2) (bA r.1)) := by
 refine aES Tryz.func139 rfl Tryz.ntmps139 fun w0 h0 k hag => ?_
 refine awp_len (i := 0) (xs := xs.map tmDV) (by decide) rfl fun hl => ?_
 rw [List.length_map] at hl
 have hlt0 : ∀ n ∈ N, n.1 < k := fun n hn => (hag.get n hn).1
 cases h1 : ((xs.length : Int) != (ys.length : Int)) with
 | true =>
  rw [if_neg (by simp at h1; omega)] at hr
  cases hr
  have hcl := hN s k hlt0
  repeat' (first | refine aQ fun K hK => ?_ | ((first | refine aK fun R hR => ?_ | refine aD mixed fun R hR => ?_); simp only [go_sem, h1]) | ((first | (refine hR _ ?_; clear hR R) | refine aZ rfl ?_); try refine aP ?_) | ((repeat (fail_if_success refine hK _ ?_); clear hK K); refine hK _ ?_; clear hK K) | refine aT ?_ | refine aF ?_ | refine aB ?_ | refine aN ?_ | fail)
  refine ret_st (okA Tryz.ntmps139 Tryz.results139) ?_ (by repeat (first | assumption | exact Ag.stN (by assumption) _ _ | refine Ag.updk ?_ (by omega) _)) (by repeat (first | exact FrN.rfl' _ _ _ | assumption | refine FrN.updk ?_ (by omega) _ | refine FrN.stH ?_ _)) (by assumption)
  simp only [resA, resV, Tryz.results139, go_sem]
  all_goals try (first | exact .dat rfl | exact Co.t2 (.dat rfl) (.dat rfl) | exact Co.t3 (.dat rfl) (.dat rfl) (.dat rfl))
 | false =>
  have hll : xs.length = ys.length := by simp at h1; omega
  rw [if_pos hll] at hr
  repeat' (first | refine aQ fun K hK => ?_ | ((first | refine aK fun R hR => ?_ | refine aD mixed fun R hR => ?_); simp only [go_sem, h1]) | ((first | (refine hR _ ?_; clear hR R) | refine aZ rfl ?_); try refine aP ?_) | ((repeat (fail_if_success refine hK _ ?_); clear hK K); refine hK _ ?_; clear hK K) | refine aT ?_ | refine aF ?_ | refine aB ?_ | refine aN ?_ | fail)
  refine awp_loop (fun σ => ∃ (i : Nat) (si : S), σ.t 1 = .d (.sl (ys.map tmDV)) ∧ σ.t 2 = .fn (.func g) first caps ∧ σ.t 15 = .d (.sl (xs.map tmDV)) ∧ σ.t 16 = iA xs.length ∧ σ.t 17 = iA i ∧ Ag k N (O si) σ.h ∧ FrN k N h0 σ.h ∧ k < σ.k ∧ i ≤ xs.length ∧ eqO step (xs.drop i) (ys.drop i) si = some r) (fun σ => xs.length - (intOf' (σ.t 17)).toNat) ?_ ?_
  ·refine ⟨0, s, ?_⟩
   simp only [go_sem, List.drop_zero]
   and_intros; all_goals try (first | rfl | omega | assumption | exact anA)
   all_goals first | exact hr | exact FrN.rfl' _ _ _
  ·rintro σ ⟨i, si, s1, s2, s15, s16, s17, hA, hF, hk, hi, hv⟩
   rcases Nat.lt_or_ge i xs.length with hlt | hge
   ·have hlt' : i < ys.length := by omega
    have hz : (i : Int) < (xs.length : Int) := by omega
    have hz' : (i : Int) < (ys.length : Int) := by omega
    have e1 : (xs.map tmDV).getD i default = tmDV xs[i] := nth_map tmDV hlt _
    have e2 : (ys.map tmDV).getD i default = tmDV ys[i] := nth_map tmDV hlt' _
    have hN1 := notN hag (k' := σ.k + 1) (by omega)
    have hN2 := notN hag (k' := σ.k + 1 + 1) (by omega)
    rw [eqO_at hlt hlt'] at hv
    cases hst : step xs[i] ys[i] si with
    | none => rw [hst] at hv; cases hv
    | some q =>
     have hT := hdo _ (List.getElem_mem hlt) _ (List.getElem_mem hlt') si q hst
     rw [hst] at hv
     obtain ⟨qb, qs⟩ := q
     have hcl := hN qs k hlt0
     cases qb with
     | true =>
      have hv2 : eqO step (xs.drop (i + 1)) (ys.drop (i + 1)) qs = some r := hv
      clear hv
      repeat' (first | refine aQ fun K hK => ?_ | ((first | refine aK fun R hR => ?_ | refine aD mixed fun R hR => ?_); simp only [go_sem, s1, s2, s15, s16, s17, hz, hz', e1, e2, hN1, hN2, Int.toNat_natCast]) | ((first | (refine hR _ ?_; clear hR R) | refine aZ rfl ?_); try refine aP ?_) | ((repeat (fail_if_success refine hK _ ?_); clear hK K); refine hK _ ?_; clear hK K) | refine aT ?_ | refine aF ?_ | refine aB ?_ | ((first | refine CallK.vchg rfl (hg) (hT) ?_ (by assumption) frA ?_ | refine CallD.vchg rfl (hg) (hT) ?_ (by assumption) frA (by assumption) ?_); (focus exact aC); simp only [go_sem, s1, s2, s15, s16, s17, hz, hz', e1, e2, hN1, hN2, Int.toNat_natCast]) | refine aN ?_ | fail)
      refine ⟨⟨i + 1, qs, ?_⟩, ?_⟩
      ·simp only [go_sem, s1, s2, s15, s16, s17]
       and_intros; all_goals try (first | rfl | omega | assumption | exact anA)
       ·exact (by repeat (first | assumption | exact Ag.stN (by assumption) _ _ | refine Ag.updk ?_ (by omega) _))
       ·exact (by repeat (first | exact FrN.rfl' _ _ _ | assumption | refine FrN.updk ?_ (by omega) _ | refine FrN.stH ?_ _))
      ·simp only [go_sem, s17]; omega
     | false =>
      cases hv
      repeat' (first | refine aQ fun K hK => ?_ | ((first | refine aK fun R hR => ?_ | refine aD mixed fun R hR => ?_); simp only [go_sem, s1, s2, s15, s16, s17, hz, hz', e1, e2, hN1, hN2, Int.toNat_natCast]) | ((first | (refine hR _ ?_; clear hR R) | refine aZ rfl ?_); try refine aP ?_) | ((repeat (fail_if_success refine hK _ ?_); clear hK K); refine hK _ ?_; clear hK K) | refine aT ?_ | refine aF ?_ | refine aB ?_ | ((first | refine CallK.vchg rfl (hg) (hT) ?_ (by assumption) frA ?_ | refine CallD.vchg rfl (hg) (hT) ?_ (by assumption) frA (by assumption) ?_); (focus exact aC); simp only [go_sem, s1, s2, s15, s16, s17, hz, hz', e1, e2, hN1, hN2, Int.toNat_natCast]) | refine aN ?_ | fail)
      refine ret_st (okA Tryz.ntmps139 Tryz.results139) ?_ (by repeat (first | assumption | exact Ag.stN (by assumption) _ _ | refine Ag.updk ?_ (by omega) _)) (by repeat (first | exact FrN.rfl' _ _ _ | assumption | refine FrN.updk ?_ (by omega) _ | refine FrN.stH ?_ _)) (by assumption)
      simp only [resA, resV, Tryz.results139, go_sem]
      all_goals try (first | exact .dat rfl | exact Co.t2 (.dat rfl) (.dat rfl) | exact Co.t3 (.dat rfl) (.dat rfl) (.dat rfl))
   ·have hz : ¬ ((i : Int) < (xs.length : Int)) := by omega
    rw [List.drop_eq_nil_of_le hge] at hv
    have hv' : some (true, si) = some r := hv
    cases hv'
    have hcl := hN si k hlt0
    repeat' (first | refine aQ fun K hK => ?_ | ((first | refine aK fun R hR => ?_ | refine aD mixed fun R hR => ?_); simp only [go_sem, s16, s17, hz]) | ((first | (refine hR _ ?_; clear hR R) | refine aZ rfl ?_); try refine aP ?_) | ((repeat (fail_if_success refine hK _ ?_); clear hK K); refine hK _ ?_; clear hK K) | refine aT ?_ | refine aF ?_ | refine aB ?_ | refine aN ?_ | fail)
    refine ret_st (okA Tryz.ntmps139 Tryz.results139) ?_ (by repeat (first | assumption | exact Ag.stN (by assumption) _ _ | refine Ag.updk ?_ (by omega) _)) (by repeat (first | exact FrN.rfl' _ _ _ | assumption | refine FrN.updk ?_ (by omega) _ | refine FrN.stH ?_ _)) (by assumption)
    simp only [resA, resV, Tryz.results139, go_sem]
    all_goals try (first | exact .dat rfl | exact Co.t2 (.dat rfl) (.dat rfl) | exact Co.t3 (.dat rfl) (.dat rfl) (.dat rfl))
end
def oL : List (Nm × Ob) → Nm → Ob
 | [], _ => .map []
 | p :: l, x => if x = p.1 then p.2 else oL l x
theorem oL_mem : ∀ {l : List (Nm × Ob)} {p : Nm × Ob}, (l.map (·.1)).Nodup → p ∈ l → oL l p.1 = p.2
 | q :: l, p, hnd, hp => by
  rw [oL]
  rw [List.map_cons, List.nodup_cons] at hnd
  rcases List.mem_cons.1 hp with rfl | hp
  ·rw [if_pos rfl]
  ·rw [if_neg (fun e => hnd.1 (by rw [← e]; exact List.mem_map.2 ⟨p, hp, rfl⟩))]
   exact oL_mem hnd.2 hp
theorem Ag.ofL {k : Nat} {l : List (Nm × Ob)} {h : Heap} (hnd : (l.map (·.1)).Nodup) (hh : ∀ p ∈ l, p.1.1 < k ∧ h p.1 = some p.2) : Ag k (l.map (·.1)) (oL l) h := ⟨fun n hn => by
 obtain ⟨p, hp, rfl⟩ := List.mem_map.1 hn
 rw [oL_mem hnd hp]; exact hh p hp⟩
theorem Ag.toL {k : Nat} {l : List (Nm × Ob)} {h : Heap} (hnd : (l.map (·.1)).Nodup) (ha : Ag k (l.map (·.1)) (oL l) h) : ∀ p ∈ l, p.1.1 < k ∧ h p.1 = some p.2 := fun p hp => by
 have := ha.get p.1 (List.mem_map.2 ⟨p, hp, rfl⟩)
 rw [oL_mem hnd hp] at this; exact this
theorem Cl.ofL {k : Nat} {N : List Nm} {l : List (Nm × Ob)} (hh : ∀ p ∈ l, ∀ x ∈ p.2.names, x.1 < k) : Cl k N (oL l) := fun n _ x hx => by
 induction l with
 | nil => simp [oL, Ob.names] at hx
 | cons p l ih =>
  rw [oL] at hx
  split at hx
  ·exact hh p (by simp) x hx
  ·exact ih (fun q hq => hh q (by simp [hq])) hx
theorem stH_in {N : List Nm} {O : Nm → Ob} {h : Heap} {x : Nm} (hx : x ∈ N) : stH N O h x = some (O x) := by rw [stH_get, if_pos hx]
end Go.Proofs.YtmeekpinkfpnhabGreat
