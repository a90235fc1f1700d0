/- Bindings in whatever order, made to rise. -/
import Derived.Test.YtmeekpinkfpnhabGreatP04
import Derived.Test.YtmeekpinkfpnhabGreatP08
import Derived.Test.YtmeekpinkfpnhabGreatP10
import Derived.Test.YtmeekpinkfpnhabGreatP12
import Derived.Test.YtmeekpinkfpnhabGreatP14
import Derived.Test.YtmeekpinkfpnhabGreatP17
import Derived.Test.YtmeekpinkfpnhabGreatP19
import Derived.Test.YtmeekpinkfpnhabGreatP20
set_option linter.all false
namespace Go.Proofs.YtmeekpinkfpnhabGreat
open Go.RowKit
abbrev knE (kn : List (Int × Int)) : List (Int × DV) := mapE' iD kn
abbrev szL (u mm km : Nm) (b : Bs) (kn : List (Int × Int)) : List (Nm × Ob) := [(u, .cells 161 [.map mm]), (mm, .map (bsE b)), (km, .map (knE kn))]
theorem szL_cl {u mm km : Nm} {b : Bs} {kn : List (Int × Int)} {k : Nat} (h : mm.1 < k) : Cl k [u, mm, km] (oL (szL u mm km b kn)) := Cl.ofL fun p hp x hx => by
 simp only [szL, List.mem_cons, List.not_mem_nil, or_false] at hp
 rcases hp with rfl | rfl | rfl
 ·simp [Ob.names, namesL, AV.names] at hx; rw [hx]; exact h
 ·simp [Ob.names] at hx
 ·simp [Ob.names] at hx
section
variable {u mm km : Nm} {b : Bs} {kn : List (Int × Int)} {k : Nat} {h : Heap} (hnd : [u, mm, km].Nodup)
include hnd
theorem szL_ag (h1 : u.1 < k) (h2 : mm.1 < k) (h3 : km.1 < k) (e1 : h u = some (.cells 161 [.map mm])) (e2 : h mm = some (.map (bsE b))) (e3 : h km = some (.map (knE kn))) : Ag k [u, mm, km] (oL (szL u mm km b kn)) h := Ag.ofL (l := szL u mm km b kn) hnd fun p hp => by
 simp only [szL, List.mem_cons, List.not_mem_nil, or_false] at hp
 rcases hp with rfl | rfl | rfl
 ·exact ⟨h1, e1⟩
 ·exact ⟨h2, e2⟩
 ·exact ⟨h3, e3⟩
theorem szL_get (ha : Ag k [u, mm, km] (oL (szL u mm km b kn)) h) : (u.1 < k ∧ h u = some (.cells 161 [.map mm])) ∧ (mm.1 < k ∧ h mm = some (.map (bsE b))) ∧ (km.1 < k ∧ h km = some (.map (knE kn))) := by
 have hg := Ag.toL (l := szL u mm km b kn) hnd ha
 exact ⟨hg (u, .cells 161 [.map mm]) (by simp), hg (mm, .map (bsE b)) (by simp), hg (km, .map (knE kn)) (by simp)⟩
theorem szL_st : stH [u, mm, km] (oL (szL u mm km b kn)) h u = some (.cells 161 [.map mm]) ∧ stH [u, mm, km] (oL (szL u mm km b kn)) h mm = some (.map (bsE b)) ∧ stH [u, mm, km] (oL (szL u mm km b kn)) h km = some (.map (knE kn)) :=
 ⟨by rw [stH_in (by simp), oL_mem (l := szL u mm km b kn) (p := (u, _)) hnd (List.mem_cons_self ..)], by rw [stH_in (by simp), oL_mem (l := szL u mm km b kn) (p := (mm, _)) hnd (List.mem_cons_of_mem _ (List.mem_cons_self ..))], by rw [stH_in (by simp), oL_mem (l := szL u mm km b kn) (p := (km, _)) hnd (List.mem_cons_of_mem _ (List.mem_cons_of_mem _ (List.mem_cons_self ..)))]⟩
end
def KnOk (kn : List (Int × Int)) : Prop := ∀ p ∈ kn, 0 ≤ p.2 ∧ p.2 ≤ 1000
theorem look_kn {kn : List (Int × Int)} (h : KnOk kn) {v s : Int} (hs : lookA v kn = some s) : 0 ≤ s ∧ s ≤ 1000 := by
 induction kn with
 | nil => cases hs
 | cons p kn ih =>
  rw [lookA] at hs
  by_cases hv : v = p.1
  ·rw [if_pos hv] at hs; cases hs; exact h p (by simp)
  ·rw [if_neg hv] at hs; exact ih (fun q hq => h q (by simp [hq])) hs
theorem put_kn {kn : List (Int × Int)} (h : KnOk kn) {v s : Int} (hs : 0 ≤ s ∧ s ≤ 1000) : KnOk (putA v s kn) := by
 induction kn with
 | nil => intro p hp; simp [putA] at hp; subst hp; exact hs
 | cons p kn ih =>
  rw [putA]
  split
  ·intro q hq
   rcases List.mem_cons.1 hq with rfl | hq
   ·exact hs
   ·exact h q (by simp [hq])
  ·intro q hq
   rcases List.mem_cons.1 hq with rfl | hq
   ·exact h _ (by simp)
   ·exact ih (fun q hq => h q (by simp [hq])) q hq
def StepBd (step : Tm → List (Int × Int) → Option (Int × List (Int × Int))) : Prop := ∀ t kn q, KnOk kn → step t kn = some q → (0 ≤ q.1 ∧ q.1 ≤ 1000) ∧ KnOk q.2
theorem sizeL_bd {step : Tm → List (Int × Int) → Option (Int × List (Int × Int))} (hs : StepBd step) : ∀ (us : List Tm) (a : Int) (kn : List (Int × Int)) (q : Int × List (Int × Int)), KnOk kn → 0 ≤ a ∧ a ≤ 1000 → sizeL step us a kn = some q → (0 ≤ q.1 ∧ q.1 ≤ 1000) ∧ KnOk q.2
 | [], a, kn, q, h, ha, hq => by rw [sizeL] at hq; cases hq; exact ⟨ha, h⟩
 | t :: us, a, kn, q, h, ha, hq => by
  rw [sizeL] at hq
  cases hst : step t kn with
  | none => rw [hst] at hq; cases hq
  | some r =>
   rw [hst] at hq
   obtain ⟨h1, h2⟩ := hs t kn r h hst
   exact sizeL_bd hs us _ r.2 q h2 (by split <;> omega) hq
theorem sizeF_bd (b : Bs) : ∀ n, StepBd (sizeF n b)
 | 0, t, kn, q, _, h => by simp [sizeF] at h
 | n + 1, t, kn, q, hk, h => by
  rw [sizeF] at h
  split at h
  ·split at h
   ·cases h; exact ⟨by omega, hk⟩
   ·rename_i x _
    split at h
    ·rename_i s hs; cases h; exact ⟨look_kn hk hs, hk⟩
    ·obtain ⟨r, hr, rfl⟩ := Option.map_eq_some_iff.1 h
     obtain ⟨h1, h2⟩ := sizeF_bd b n x kn r hk hr
     exact ⟨h1, put_kn h2 h1⟩
  ·exact sizeL_bd (sizeF_bd b n) t.us 1 kn q hk (by omega) h
theorem sizeL_at {step : Tm → List (Int × Int) → Option (Int × List (Int × Int))} {us : List Tm} {i : Nat} (hi : i < us.length) {a : Int} {kn : List (Int × Int)} : sizeL step (us.drop i) a kn = match step us[i] kn with
  | none => none
  | some r => sizeL step (us.drop (i + 1)) (if 1000 < a + r.1 then 1000 else a + r.1) r.2 := by
 rw [List.drop_eq_getElem_cons hi, sizeL]
 all_goals rfl
def USizeSpec (u mm km : Nm) (b : Bs) (n : Nat) (t : Tm) : Prop := ∀ kn q, KnOk kn → sizeF n b t kn = some q → Tri Tryz.prog 129 [.ptr u 0, .d (tmDV t), .map km] (stE [u, mm, km] (oL (szL u mm km b kn)) (oL (szL u mm km b q.2)) (iA q.1))
set_option maxHeartbeats 4000000 in
set_option maxRecDepth 20000 in
theorem usize_tri (u mm km : Nm) (hnd : [u, mm, km].Nodup) (b : Bs) : ∀ (n : Nat) (t : Tm), USizeSpec u mm km b n t := by
 intro n
 induction n with
 | zero => intro t kn q _ h; simp [sizeF] at h
 | succ n ih =>
  intro t kn q hk h
  refine aES Tryz.func129 rfl Tryz.ntmps129 fun w0 h0 k hag => ?_
  obtain ⟨g1, g2, g3⟩ := szL_get hnd hag
  have n1 := nmne g1.1
  have n2 := nmne g2.1
  have n3 := nmne g3.1
  have hd := hnd
  simp only [List.nodup_cons, List.mem_cons, not_or, List.not_mem_nil, or_false] at hd
  have d1 : (u = km) = False := eq_false hd.1.2
  have d2 : (mm = km) = False := eq_false hd.2.1
  have hcl := fun kn' => szL_cl (u := u) (mm := mm) (km := km) (b := b) (kn := kn') g2.1
  have hcq := hcl q.2
  have hA := fun (kn' : List (Int × Int)) (h : Heap) => szL_ag (b := b) (kn := kn') (h := h) hnd g1.1 g2.1 g3.1
  rw [sizeF] at h
  cases h1 : decide (t.v > 0) with
  | true =>
   rw [if_pos (by simpa using h1)] at h
   cases hl : lookB t.v b with
   | none =>
    have hga := lookB_no hl
    rw [hl] at h
    cases h
    have hcn := hcl kn
    repeat' (first | refine aQ fun K hK => ?_ | ((first | refine aK fun R hR => ?_ | refine aD mixed fun R hR => ?_); simp only [go_sem, n1, n2, n3, g1.2, g2.2, g3.2, h1, hga, AV.toD, Option.getD_none, Option.isSome_none]) | ((first | (refine hR _ ?_; clear hR R) | refine aZ rfl ?_); try refine aP ?_) | ((repeat (fail_if_success refine hK _ ?_); clear hK K); refine hK _ ?_; clear hK K) | refine aT ?_ | refine aF ?_ | refine aB ?_ | refine aN ?_ | fail)
    refine ret_st (okA Tryz.ntmps129 Tryz.results129) ?_ (by repeat (first | assumption | exact Ag.stN (by assumption) _ _ | refine Ag.updk ?_ (by omega) _)) (by repeat (first | exact FrN.rfl' _ _ _ | assumption | refine FrN.updk ?_ (by omega) _ | refine FrN.stH ?_ _)) (by assumption)
    simp only [resA, resV, Tryz.results129, go_sem]
    all_goals try (first | exact .dat rfl | exact Co.t2 (.dat rfl) (.dat rfl) | exact Co.t3 (.dat rfl) (.dat rfl) (.dat rfl))
   | some x =>
    have hga := lookB_key hl
    rw [hl] at h
    dsimp only at h
    cases hs : lookA t.v kn with
    | some s =>
     rw [hs] at h
     cases h
     have hgk : getM t.v (knE kn) = some (iD s) := by rw [getM_A, hs]; rfl
     have hcn := hcl kn
     repeat' (first | refine aQ fun K hK => ?_ | ((first | refine aK fun R hR => ?_ | refine aD mixed fun R hR => ?_); simp only [go_sem, n1, n2, n3, g1.2, g2.2, g3.2, h1, hga, hgk, Option.isSome_some]) | ((first | (refine hR _ ?_; clear hR R) | refine aZ rfl ?_); try refine aP ?_) | ((repeat (fail_if_success refine hK _ ?_); clear hK K); refine hK _ ?_; clear hK K) | refine aT ?_ | refine aF ?_ | refine aB ?_ | refine aN ?_ | fail)
     refine ret_st (okA Tryz.ntmps129 Tryz.results129) ?_ (by repeat (first | assumption | exact Ag.stN (by assumption) _ _ | refine Ag.updk ?_ (by omega) _)) (by repeat (first | exact FrN.rfl' _ _ _ | assumption | refine FrN.updk ?_ (by omega) _ | refine FrN.stH ?_ _)) (by assumption)
     simp only [resA, resV, Tryz.results129, go_sem]
     all_goals try (first | exact .dat rfl | exact Co.t2 (.dat rfl) (.dat rfl) | exact Co.t3 (.dat rfl) (.dat rfl) (.dat rfl))
    | none =>
     rw [hs] at h
     dsimp only at h
     obtain ⟨r, hr, rfl⟩ := Option.map_eq_some_iff.1 h
     have hgk : getM t.v (knE kn) = none := by rw [getM_A, hs]; rfl
     have hT := ih x kn r hk hr
     have hpm : putM t.v (.v (.int .i64 r.1)) (knE r.2) = knE (putA t.v r.1 r.2) := putM_A iD t.v r.1 r.2
     repeat' (first | refine aQ fun K hK => ?_ | ((first | refine aK fun R hR => ?_ | refine aD mixed fun R hR => ?_); simp only [go_sem, n1, n2, n3, g1.2, g2.2, g3.2, h1, hga, hgk, Option.isSome_some, Option.isSome_none, AV.toD, Option.getD_none, Option.getD_some, (szL_st hnd).2.2, hpm]) | ((first | (refine hR _ ?_; clear hR R) | refine aZ rfl ?_); try refine aP ?_) | ((repeat (fail_if_success refine hK _ ?_); clear hK K); refine hK _ ?_; clear hK K) | refine aT ?_ | refine aF ?_ | refine aB ?_ | ((first | refine CallK.chg (enter129) (hT) ?_ (hA kn _ (by simp only [go_sem, n1, g1.2]) (by simp only [go_sem, n2, g2.2]) (by simp only [go_sem, n3, g3.2])) (Fr.rfl' _ _) ?_ | refine CallD.chg (enter129) (hT) ?_ (hA kn _ (by simp only [go_sem, n1, g1.2]) (by simp only [go_sem, n2, g2.2]) (by simp only [go_sem, n3, g3.2])) (Fr.rfl' _ _) (by first | assumption | exact List.cons_ne_nil _ _) ?_); (focus exact aC); simp only [go_sem, n1, n2, n3, g1.2, g2.2, g3.2, h1, hga, hgk, Option.isSome_some, Option.isSome_none, AV.toD, Option.getD_none, Option.getD_some, (szL_st hnd).2.2, hpm]) | refine aN ?_ | fail)
     refine ret_st (okA Tryz.ntmps129 Tryz.results129) (by simp only [resA, resV, Tryz.results129, go_sem]; first | exact .dat rfl | exact Co.t2 (.dat rfl) (.dat rfl) | exact Co.t3 (.dat rfl) (.dat rfl) (.dat rfl)) ?_ ?_ ?_
     ·refine hA _ _ ?_ ?_ ?_
      ·show upd _ _ _ _ = _
       rw [upd_ne _ _ (by simpa using hd.1.2)]; exact (szL_st hnd).1
      ·show upd _ _ _ _ = _
       rw [upd_ne _ _ (by simpa using hd.2.1)]; exact (szL_st hnd).2.1
      ·show upd _ _ _ _ = _
       rw [upd_self]
     ·exact (by repeat (first | exact FrN.rfl' _ _ _ | assumption | refine FrN.updk ?_ (by omega) _ | refine FrN.updn ?_ (by simp) _ | refine FrN.stH ?_ _))
     ·exact hcq
  | false =>
   rw [if_neg (by simpa using h1)] at h
   repeat' (first | refine aQ fun K hK => ?_ | ((first | refine aK fun R hR => ?_ | refine aD mixed fun R hR => ?_); simp only [go_sem, n1, n2, n3, g1.2, g2.2, g3.2, h1]) | ((first | (refine hR _ ?_; clear hR R) | refine aZ rfl ?_); try refine aP ?_) | ((repeat (fail_if_success refine hK _ ?_); clear hK K); refine hK _ ?_; clear hK K) | refine aT ?_ | refine aF ?_ | refine aB ?_ | refine aN ?_ | fail)
   refine awp_len (i := 47) (xs := t.us.map tmDV) (by decide) (by simp only [go_sem, ]) fun hl => ?_
   rw [List.length_map] at hl
   refine awp_loop (fun σ => ∃ (i : Nat) (a : Int) (kn' : List (Int × Int)), σ.t 0 = .ptr u 0 ∧ σ.t 2 = .map km ∧ σ.t 10 = iA a ∧ σ.t 47 = .d (.sl (t.us.map tmDV)) ∧ σ.t 48 = iA t.us.length ∧ σ.t 49 = iA i ∧ Ag k [u, mm, km] (oL (szL u mm km b kn')) σ.h ∧ FrN k [u, mm, km] h0 σ.h ∧ k < σ.k ∧ i ≤ t.us.length ∧ KnOk kn' ∧ (0 ≤ a ∧ a ≤ 1000) ∧ sizeL (sizeF n b) (t.us.drop i) a kn' = some q) (fun σ => t.us.length - (intOf' (σ.t 49)).toNat) ?_ ?_
   ·refine ⟨0, 1, kn, ?_⟩
    simp only [go_sem, List.drop_zero]
    and_intros; all_goals try (first | rfl | omega | assumption | exact anA)
    ·exact hA kn _ (by simp only [go_sem, n1, g1.2]) (by simp only [go_sem, n2, g2.2]) (by simp only [go_sem, n3, g3.2])
    ·exact (by repeat (first | exact FrN.rfl' _ _ _ | assumption | refine FrN.updk ?_ (by omega) _ | refine FrN.stH ?_ _))
   ·rintro σ ⟨i, a, kn', s0, s2, s10, s47, s48, s49, hAg, hF, hkk, hi, hk', ha, hv⟩
    rcases Nat.lt_or_ge i t.us.length with hlt | hge
    ·have hz : (i : Int) < (t.us.length : Int) := by omega
     have e1 : (t.us.map tmDV).getD i default = tmDV t.us[i] := nth_map tmDV hlt _
     rw [sizeL_at hlt] at hv
     cases hst : sizeF n b t.us[i] kn' with
     | none => rw [hst] at hv; cases hv
     | some r =>
      rw [hst] at hv
      dsimp only at hv
      have hT := ih t.us[i] kn' r hk' hst
      obtain ⟨hb1, hb2⟩ := sizeF_bd b n t.us[i] kn' r hk' hst
      have hne := ltne hkk
      have hlt0 : ∀ n ∈ [u, mm, km], n.1 < k := fun n hn => (hag.get n hn).1
      repeat' (first | refine aQ fun K hK => ?_ | ((first | refine aK fun R hR => ?_ | refine aD mixed fun R hR => ?_); simp only [go_sem, s0, s2, s10, s47, s48, s49, hz, e1, Int.toNat_natCast]) | ((first | (refine hR _ ?_; clear hR R) | refine aZ rfl ?_); try refine aP ?_) | ((repeat (fail_if_success refine hK _ ?_); clear hK K); refine hK _ ?_; clear hK K) | refine aT ?_ | refine aF ?_ | refine aB ?_ | ((first | refine CallK.chg (enter129) (hT) ?_ (by assumption) frA ?_ | refine CallD.chg (enter129) (hT) ?_ (by assumption) frA (by assumption) ?_); (focus exact aC); simp only [go_sem, s0, s2, s10, s47, s48, s49, hz, e1, Int.toNat_natCast]) | refine aN ?_ | fail)
      refine ⟨⟨i + 1, (if 1000 < a + r.1 then 1000 else a + r.1), r.2, ?_⟩, ?_⟩
      ·simp only [go_sem, s0, s2, s10, s47, s48, s49]
       and_intros; all_goals try (first | rfl | omega | assumption | exact anA)
       ·exact (by repeat (first | assumption | exact Ag.stN (by assumption) _ _ | refine Ag.updk ?_ (by omega) _))
       ·exact (by repeat (first | exact FrN.rfl' _ _ _ | assumption | refine FrN.updk ?_ (by omega) _ | refine FrN.stH ?_ _))
       all_goals (split <;> omega)
      ·simp only [go_sem, s49]; omega
    ·have hz : ¬ ((i : Int) < (t.us.length : Int)) := by omega
     rw [List.drop_eq_nil_of_le hge, sizeL] at hv
     cases hv
     have hcn := hcl kn'
     repeat' (first | refine aQ fun K hK => ?_ | ((first | refine aK fun R hR => ?_ | refine aD mixed fun R hR => ?_); simp only [go_sem, s0, s2, s10, s47, s48, s49, hz]) | ((first | (refine hR _ ?_; clear hR R) | refine aZ rfl ?_); try refine aP ?_) | ((repeat (fail_if_success refine hK _ ?_); clear hK K); refine hK _ ?_; clear hK K) | refine aT ?_ | refine aF ?_ | refine aB ?_ | refine aN ?_ | fail)
     refine ret_st (okA Tryz.ntmps129 Tryz.results129) ?_ (by repeat (first | assumption | exact Ag.stN (by assumption) _ _ | refine Ag.updk ?_ (by omega) _)) (by repeat (first | exact FrN.rfl' _ _ _ | assumption | refine FrN.updk ?_ (by omega) _ | refine FrN.stH ?_ _)) (by assumption)
     simp only [resA, resV, Tryz.results129, go_sem]
     all_goals try (first | exact .dat rfl | exact Co.t2 (.dat rfl) (.dat rfl) | exact Co.t3 (.dat rfl) (.dat rfl) (.dat rfl))
abbrev thR (bu u mm : Nm) (b : Bs) : List (Nm × Ob) := [(bu, .cells 159 [.ptr u 0]), (u, .cells 161 [.map mm]), (mm, .map (bsE b))]
theorem thR_ok {bu u mm : Nm} {b : Bs} {k : Nat} {h : Heap} (h0 : bu.1 < k) (h1 : u.1 < k) (h2 : mm.1 < k) (e0 : h bu = some (.cells 159 [.ptr u 0])) (e1 : h u = some (.cells 161 [.map mm])) (e2 : h mm = some (.map (bsE b))) : RoOK k (thR bu u mm b) h := ⟨fun x hx => by
 simp only [List.mem_cons, List.not_mem_nil, or_false] at hx
 rcases hx with rfl | rfl | rfl
 ·exact ⟨h0, e0⟩
 ·exact ⟨h1, e1⟩
 ·exact ⟨h2, e2⟩⟩
def ThruSpec (u mm : Nm) (b : Bs) (n : Nat) : Prop := ∀ x : Tm, x.size ≤ 4000000 → thruOk n b x = true → Tri Tryz.prog 130 [.ptr u 0, .d (tmDV x)] (rdE (unR u mm b) (.d (tmDV (thruT n b x))))
section
variable {u mm : Nm} {b : Bs} {n : Nat} (hb : ∀ p ∈ b, p.2.size ≤ 4000000) (ih : ThruSpec u mm b n)
include hb ih
set_option maxHeartbeats 2000000 in
set_option maxRecDepth 20000 in
theorem through1_tri (bu : Nm) (x : Tm) (hok : ∀ y, lookB x.v b = some y → x.v > 0 → thruOk n b y = true) : Tri Tryz.prog 141 [.d (tmDV x), .ptr bu 0] (rdE (thR bu u mm b) (.tup [.d (tmDV (thruS (thruT n b) b x).1), bA (thruS (thruT n b) b x).2])) := by
 refine aER Tryz.func141 rfl Tryz.ntmps141 fun w0 h0 k hro => ?_
 obtain ⟨n0, e0⟩ := hro.get (bu, .cells 159 [.ptr u 0]) (by simp)
 obtain ⟨n1, e1⟩ := hro.get (u, .cells 161 [.map mm]) (by simp)
 obtain ⟨n2, e2⟩ := hro.get (mm, .map (bsE b)) (by simp)
 have q0 := nmne n0
 have q1 := nmne n1
 have q2 := nmne n2
 have hr2 := unR_ok (u := u) (mm := mm) (b := b) n1 n2 e1 e2
 unfold thruS
 cases hl : lookB x.v b with
 | none =>
  have hg := lookB_no hl
  dsimp only
  repeat' (first | refine aQ fun K hK => ?_ | ((first | refine aK fun R hR => ?_ | refine aD mixed fun R hR => ?_); simp only [go_sem, e0, e1, e2, q0, q1, q2, hg, Option.isSome_none, AV.toD, Option.getD_none]) | ((first | (refine hR _ ?_; clear hR R) | refine aZ rfl ?_); try refine aP ?_) | ((repeat (fail_if_success refine hK _ ?_); clear hK K); refine hK _ ?_; clear hK K) | refine aT ?_ | refine aF ?_ | refine aB ?_ | refine aN ?_ | fail)
  (first | refine ret_pure ?_ ?_ ?_ | refine ret_ro ?_ ?_ ?_); focus exact (okA Tryz.ntmps141 Tryz.results141)
  rotate_left; focus exact frA
  simp only [resA, resV, Tryz.results141, go_sem]
  all_goals try exact coA
  exact .t2 (co_tm' rfl) (.dat rfl)
 | some y =>
  have hg := lookB_key hl
  dsimp only
  cases hv : decide (x.v > 0) with
  | false =>
   rw [if_neg (by simpa using hv)]
   repeat' (first | refine aQ fun K hK => ?_ | ((first | refine aK fun R hR => ?_ | refine aD mixed fun R hR => ?_); simp only [go_sem, e0, e1, e2, q0, q1, q2, hg, hv, Option.isSome_some]) | ((first | (refine hR _ ?_; clear hR R) | refine aZ rfl ?_); try refine aP ?_) | ((repeat (fail_if_success refine hK _ ?_); clear hK K); refine hK _ ?_; clear hK K) | refine aT ?_ | refine aF ?_ | refine aB ?_ | refine aN ?_ | fail)
   (first | refine ret_pure ?_ ?_ ?_ | refine ret_ro ?_ ?_ ?_); focus exact (okA Tryz.ntmps141 Tryz.results141)
   rotate_left; focus exact frA
   simp only [resA, resV, Tryz.results141, go_sem]
   all_goals try exact coA
   exact .t2 (co_tm' rfl) (.dat rfl)
  | true =>
   rw [if_pos (by simpa using hv)]
   obtain ⟨p, hp, hpe⟩ := lookB_in hl
   have hT := ih y (by rw [← hpe]; exact hb p hp) (hok y hl (by simpa using hv))
   repeat' (first | refine aQ fun K hK => ?_ | ((first | refine aK fun R hR => ?_ | refine aD mixed fun R hR => ?_); simp only [go_sem, e0, e1, e2, q0, q1, q2, hg, hv, Option.isSome_some]) | ((first | (refine hR _ ?_; clear hR R) | refine aZ rfl ?_); try refine aP ?_) | ((repeat (fail_if_success refine hK _ ?_); clear hK K); refine hK _ ?_; clear hK K) | refine aT ?_ | refine aF ?_ | refine aB ?_ | ((first | refine CallK.look (enter130) (hT) ?_ (by assumption) frA ?_ | refine CallD.look (enter130) (hT) ?_ (by assumption) frA (by first | assumption | exact List.cons_ne_nil _ _) ?_); (focus exact aC); simp only [go_sem, e0, e1, e2, q0, q1, q2, hg, hv, Option.isSome_some]) | refine aN ?_ | fail)
   (first | refine ret_pure ?_ ?_ ?_ | refine ret_ro ?_ ?_ ?_); focus exact (okA Tryz.ntmps141 Tryz.results141)
   rotate_left; focus exact frA
   simp only [resA, resV, Tryz.results141, go_sem]
   all_goals try exact coA
   all_goals exact .t2 (co_tm' rfl) (.dat rfl)
end
theorem thruOk_at {n : Nat} {b : Bs} {t : Tm} (h : thruOk (n + 1) b t = true) {x : Tm} (hx : x ∈ pre t) : ∀ y, lookB x.v b = some y → x.v > 0 → thruOk n b y = true := by
 intro y hy hv
 rw [thruOk] at h
 have := List.all_eq_true.1 h x hx
 rw [hy] at this
 simpa [hv] using this
set_option maxHeartbeats 1000000 in
set_option maxRecDepth 20000 in
theorem through_tri (u mm : Nm) (b : Bs) (hb : ∀ p ∈ b, p.2.size ≤ 4000000) : ∀ n : Nat, ThruSpec u mm b n := by
 intro n
 induction n with
 | zero => intro x _ h; simp [thruOk] at h
 | succ n ih =>
  intro x hx h
  refine aER Tryz.func130 rfl Tryz.ntmps130 fun w0 h0 k hro => ?_
  obtain ⟨n1, e1⟩ := hro.get (u, .cells 161 [.map mm]) (by simp)
  obtain ⟨n2, e2⟩ := hro.get (mm, .map (bsE b)) (by simp)
  have q1 := nmne n1
  have q2 := nmne n2
  have hT := mapped_tri 141 [.ptr (k, 0) 0] (thR (k, 0) u mm b) (thruS (thruT n b) b) (enter141) x hx (fun y hy => through1_tri hb ih (k, 0) y (thruOk_at h hy))
  rw [thruT]
  repeat' (first | refine aQ fun K hK => ?_ | ((first | refine aK fun R hR => ?_ | refine aD mixed fun R hR => ?_); simp only [go_sem, e1, e2, q1, q2]) | ((first | (refine hR _ ?_; clear hR R) | refine aZ rfl ?_); try refine aP ?_) | ((repeat (fail_if_success refine hK _ ?_); clear hK K); refine hK _ ?_; clear hK K) | refine aT ?_ | refine aF ?_ | refine aB ?_ | ((first | refine CallK.look (enter66) (hT) ?_ (thR_ok (k := k + 1) (Nat.lt_succ_self k) (Nat.lt_succ_of_lt n1) (Nat.lt_succ_of_lt n2) (by simp only [go_sem, ]) (by simp only [go_sem, e1, q1]) (by simp only [go_sem, e2, q2])) (Fr.rfl' _ _) ?_ | refine CallD.look (enter66) (hT) ?_ (thR_ok (k := k + 1) (Nat.lt_succ_self k) (Nat.lt_succ_of_lt n1) (Nat.lt_succ_of_lt n2) (by simp only [go_sem, ]) (by simp only [go_sem, e1, q1]) (by simp only [go_sem, e2, q2])) (Fr.rfl' _ _) (by first | assumption | exact List.cons_ne_nil _ _) ?_); (focus exact aC); simp only [go_sem, e1, e2, q1, q2]) | refine aN ?_ | fail)
  (first | refine ret_pure ?_ ?_ ?_ | refine ret_ro ?_ ?_ ?_); focus exact (okA Tryz.ntmps130 Tryz.results130)
  rotate_left; focus exact frA
  simp only [resA, resV, Tryz.results130, go_sem]
  all_goals try exact coA
  all_goals exact co_tm' rfl
section
variable {P : Program} {w0 w : World} {m : Mem} {β : Bl} {s : St} {a : Act} {n : Nat}
def comesE (nm src : Nm) (sz : Nat) (seen : List Nat) (es : List (Int × DV)) (i : Nat) : Eff :=
 ⟨.tup [.d (.v (.bool true)), .d (.v (.int .i64 (es.getD i default).1)), .d (es.getD i default).2], [], [(nm, some (.iter src sz (seen ++ [i])))]⟩
def endE : Eff := ⟨.tup [.d (.v (.bool false))], [], []⟩
theorem next_run {ty : TypeId} {p q : Bk} {l : Array MapEntry} {sn : Array Nat} {sz : Nat} (hp : w.heap[p.1]? = some (.mapIter (some q.1) sz sn sz)) (hq : w.heap[q.1]? = some (.map l sz)) (hl : l.size = sz) (hb : ∀ (i : Nat) (x : MapEntry), l[i]? = some x → x.born = i) :
  ((∀ i, i < sz → sn.contains i = true) ∧ (Instr.next (.pointer (some ⟨p.1, 0, none⟩)) false ty).run P w = .ok (.tuple #[.bool false]) w) ∨
  ∃ (i : Nat) (e : MapEntry) (d : Nat), l[i]? = some e ∧ sn.contains i = false ∧ (Instr.next (.pointer (some ⟨p.1, 0, none⟩)) false ty).run P w = .ok (.tuple #[.bool true, e.key, e.val]) { w.drewN d with heap := w.heap.setIfInBounds p.1 (.mapIter (some q.1) sz (sn.push i) sz) } := by
 have hold : ∀ x ∈ l.toList, x.born < sz := fun x hx => by
  obtain ⟨i, hi, rfl⟩ := List.mem_iff_getElem.1 hx
  have hi' : i < l.size := by simpa using hi
  have := hb i l[i] (Array.getElem?_eq_getElem hi')
  simp only [Array.getElem_toList] at this ⊢
  omega
 simp only [Instr.next, getObj, Sem.run_bind, Sem.run, hp, hq, Result.andThen, next_test_false sn l sz sz hold (Nat.le_refl _), Bool.false_eq_true, if_false]
 have hmem : ∀ x ∈ (Array.filter (fun e => !sn.contains e.born) l).toList, x.born < sz := fun x hx => hold x (by simp at hx ⊢; exact hx.1)
 have hin : ∀ x ∈ (Array.filter (fun e => !sn.contains e.born) l).toList, l[x.born]? = some x ∧ sn.contains x.born = false := fun x hx => by
  simp at hx
  obtain ⟨hx, hs⟩ := hx
  obtain ⟨i, hi, rfl⟩ := Array.mem_iff_getElem.1 hx
  have := hb i l[i] (Array.getElem?_eq_getElem hi)
  rw [this] at hs ⊢
  exact ⟨Array.getElem?_eq_getElem hi, by simpa using hs⟩
 have hall : Array.filter (fun e => !sn.contains e.born) l = #[] → ∀ i, i < sz → sn.contains i = true := fun h i hi => by
  rw [Array.filter_eq_empty_iff] at h
  have hi' : i < l.size := by omega
  have h1 := h l[i] (Array.getElem_mem hi')
  rw [hb i l[i] (Array.getElem?_eq_getElem hi')] at h1
  simpa using h1
 generalize Array.filter (fun e => !sn.contains e.born) l = L at hmem hin hall ⊢
 have e1 : L.filter (fun x => decide (x.born < sz)) = L := Array.filter_eq_self.2 (fun x hx => by simpa using hmem x (by simpa using hx))
 have e2 : L.filter (fun x => decide (x.born ≥ sz)) = #[] := by
  rw [Array.filter_eq_empty_iff]
  intro x hx
  have := hmem x (by simpa using hx)
  simp
  omega
 simp only [e1, e2, Array.append_empty]
 by_cases h0 : L.size = 0
 ·left
  have : L = #[] := Array.eq_empty_of_size_eq_zero h0
  subst this
  refine ⟨hall rfl, ?_⟩
  simp [choose, Sem.run, Question.forced]
 ·right
  have hne : L.isEmpty = false := by simp [Array.isEmpty, h0]
  simp only [hne, Bool.false_eq_true, if_false, Array.empty_append, Array.size_map]
  have hch : ∃ (j d : Nat), j < L.size ∧ (choose (Question.mapNext L.size)).run P w = .ok j (w.drewN d) := by
   by_cases hf : L.size ≤ 1
   ·exact ⟨0, 0, by omega, by simp [choose, Sem.run, Question.forced, hf, World.drewN]⟩
   ·exact ⟨_, 1, Nat.mod_lt _ (by omega), by
     simp only [choose, Sem.run, Question.forced, decide_eq_true_eq, hf, if_false, Question.cut]
     rfl⟩
  obtain ⟨j, d, hj, hrun⟩ := hch
  obtain ⟨i1, i2⟩ := hin L[j] (by simp)
  refine ⟨L[j].born, L[j], d, i1, i2, ?_⟩
  have hpd : (w.drewN d).heap[p.1]? = some (.mapIter (some q.1) sz sn sz) := hp
  simp only [hrun, Array.getElem?_map, Array.getElem?_eq_getElem hj, Option.map_some, Sem.run_bind, setObj, Sem.run, hpd, Result.andThen]
  rfl
theorem awp_next {id sz : Nat} {nm src : Nm} {d : Tmp} {x : Operand} {ty : TypeId} {pos : String} {after : Array Edge} {rest : List Oper} {Q : Exit → St → Prop} {seen : List Nat} {es : List (Int × DV)}
  (hreg : regOk n (⟨some d, .next x false, ty, pos, after, none⟩ :: rest) = true) (hx : s.ev x = .ptr nm 0) (h1 : s.h nm = some (.iter src sz seen)) (h2 : s.h src = some (.map es)) (h3 : es.length = sz)
  (hE : (∀ i, i < es.length → i ∈ seen) → runL P (⟨some d, .next x false, ty, pos, after, none⟩ :: rest).toArray s.k rest 1 (St.step { s with k := s.k + 1 } ⟨some d, .next x false, ty, pos, after, none⟩ endE) (fun s' => Q .normal s'))
  (hN : ∀ i, i < es.length → i ∉ seen → runL P (⟨some d, .next x false, ty, pos, after, none⟩ :: rest).toArray s.k rest 1 (St.step { s with k := s.k + 1 } ⟨some d, .next x false, ty, pos, after, none⟩ (comesE nm src sz seen es i)) (fun s' => Q .normal s')) :
  awp P w0 n (.region id (⟨some d, .next x false, ty, pos, after, none⟩ :: rest).toArray false) Q s := by
 intro m β a w g1 H hT
 simp only [regOk, Bool.and_eq_true, List.all_eq_true, decide_eq_true_eq] at hreg
 obtain ⟨hreg, hlen⟩ := hreg
 refine wp_region_list ?_
 have hop := hreg _ (List.mem_cons_self ..)
 have hxv : R m β (a.eval x) (.ptr nm 0) := by
  rw [← hx]; exact ev_ok hT g1 (by have := hop.1; simp only [opOk, Array.all_eq_true_iff_forall_mem] at this; exact this x (by simp [Op.operands]))
 have hxe : ∃ p : Bk, a.eval x = .pointer (some ⟨p.1, 0, none⟩) ∧ β nm = some p := by
  generalize a.eval x = v at hxv
  cases hxv with
  | ptr hb hv => exact ⟨_, rfl, hb⟩
 obtain ⟨p, hxe, hbp⟩ := hxe
 obtain ⟨p', hp', _, q, sn, f1, f2, f3, f4⟩ := H.obj nm _ h1
 rw [hbp] at hp'; cases hp'
 obtain ⟨q', hq', _, l, clock, k1, ⟨k2, kc, kb⟩, k3⟩ := H.obj src _ h2
 rw [f1] at hq'; cases hq'
 have hcl : clock = sz := by rw [kc, h3]
 subst hcl
 have hne : p.1 ≠ q.1 := fun e => by rw [e, k1] at f3; cases f3
 have hcont : ∀ i, sn.contains i = true ↔ i ∈ seen := fun i => by rw [← f4]; simp
 have go : ∀ (e : Eff) (v : Value) (w' : World) , runL P (⟨some d, .next x false, ty, pos, after, none⟩ :: rest).toArray s.k rest 1 (St.step { s with k := s.k + 1 } ⟨some d, .next x false, ty, pos, after, none⟩ e) (fun s' => Q .normal s') →
   HRel P w0 (e.ap s.h) (s.k + 1) m β w' → R m β v e.val → wpList P (⟨some d, .next x false, ty, pos, after, none⟩ :: rest).toArray (fun e' a' w'' => ∃ s' m' β', Q e' s' ∧ a'.tmps.size = n ∧ a'.defers = a.defers ∧ s.k ≤ s'.k ∧ Goes P w0 m β s' m' β' a' w'' ∧ ∀ x, x.1 < s.k → β x = none → β' x = none) rest (a.put (some d) v) w' := by
  intro e v w' hr hH hR
  refine runF_sound (tick := s.k) (n := n) (ops := (⟨some d, .next x false, ty, pos, after, none⟩ :: rest).toArray) (fun o ho => (hreg o (by simpa using ho)).2) rest 1 _ m β (a.put (some d) v) w' (runF_of _ _ _ hr) (fun o ho => (hreg o (List.mem_cons_of_mem _ ho)).1) (by simp at hlen; omega) (by rw [put_size, g1]) (Nat.lt_succ_self _) hH (step_slots (o := ⟨some d, .next x false, ty, pos, after, none⟩) (s := { s with k := s.k + 1 }) hT (.rfl' m) (.rfl' β) hR) (fun j _ => ?_) ?_
  ·cases hb : β (s.k, j) with
   | none => rfl
   | some p => have := H.dom _ _ hb; simp at this
  ·intro s' m' β' a' w'' hK j1 j2 j3 j4 j5
   exact ⟨s', m', β', hK, j1, j2.trans (put_defers _ _ _), by rw [j3]; exact Nat.le_succ _, j4, fun x hx => j5 x (by omega)⟩
 show wpList P _ _ (_ :: rest) a w
 unfold wpList
 rw [if_pos (by simp [Region.wanted])]
 refine .inl ?_
 unfold Oper.wp
 have hex : ∀ y, (execOp a.eval ⟨some d, .next x false, ty, pos, after, none⟩).run P w = y ↔ ((do let v ← Instr.next (.pointer (some ⟨p.1, 0, none⟩)) false ty; pure (.value v) : Sem Next)).run P w = y := fun y => by
  simp [execOp, hxe]
 rcases next_run (P := P) (ty := ty) f3 k1 (by rw [k2, h3]) kb with ⟨hall, hrun⟩ | ⟨i, e, dr, hie, hsn, hrun⟩
 ·have : (execOp a.eval ⟨some d, .next x false, ty, pos, after, none⟩).run P w = .ok (.value (.tuple #[.bool false])) w := by
   rw [hex]; simp [hrun]
  rw [this]
  refine go endE _ w (hE fun i hi => (hcont i).1 (hall i (by omega))) (H.tick (Nat.le_succ _)) (.tup rfl fun j v a hj ha => ?_)
  match j, hj, ha with
  | 0, hj, ha => simp at hj ha; subst hj; subst ha; exact .d (.v rfl)
  | j + 1, hj, ha => simp at hj
 ·have : (execOp a.eval ⟨some d, .next x false, ty, pos, after, none⟩).run P w = .ok (.value (.tuple #[.bool true, e.key, e.val])) { w.drewN dr with heap := w.heap.setIfInBounds p.1 (.mapIter (some q.1) clock (sn.push i) clock) } := by
   rw [hex]; simp [hrun]
  rw [this]
  have hil : i < l.size := (Array.getElem?_eq_some_iff.1 hie).1
  have hie2 : i < es.length := by omega
  have hxx := k3 i e es[i] hie (List.getElem?_eq_getElem hie2)
  have hgd : es.getD i default = es[i] := by rw [List.getD_eq_getElem?_getD, List.getElem?_eq_getElem hie2, Option.getD_some]
  have hplt : p.1 < w.heap.size := (Array.getElem?_eq_some_iff.1 f3).1
  refine go (comesE nm src clock seen es i) _ _ (hN i hie2 fun h => by rw [(hcont i).2 h] at hsn; cases hsn) ?_ (.tup rfl fun j v a hj ha => ?_)
  ·have hB : w0.heap.size ≤ p.1 := H.new nm p _ hbp h1 trivial
   have eβ : updB β nm p = β := by
    funext y; unfold updB; split
    ·subst_vars; exact hbp.symm
    ·rfl
   have hother : ∀ o b, b ≠ p.1 → ({ w.drewN dr with heap := w.heap.setIfInBounds p.1 o } : World).heap[b]? = w.heap[b]? := fun o b hne => by simp [Ne.symm hne]
   have hat : ∀ o, ({ w.drewN dr with heap := w.heap.setIfInBounds p.1 o } : World).heap[p.1]? = some o := fun o => by simp [hplt]
   have := (H.draws dr).upd1 (n := nm) (p := p) (ob := .iter src clock (seen ++ [i])) (m' := m) (w' := { w.drewN dr with heap := w.heap.setIfInBounds p.1 (.mapIter (some q.1) clock (sn.push i) clock) }) (le_old hbp) (H.dom nm p hbp) ((H.draws dr).ext.trans ⟨rfl, rfl, rfl, by simp [World.drewN], fun b hbb => hother _ b (by omega)⟩) (.rfl' m) (fun b o v hmv => ?_) ?_ (fun _ => hB) ?_
   ·rw [eβ] at this
    exact this.tick (Nat.le_succ _)
   ·obtain ⟨q1, q2⟩ := H.mem b o v hmv
    refine ⟨?_, q2⟩
    have hne : b ≠ p.1 := fun e => by
     subst e
     unfold World.cell? at q1
     simp [f3] at q1
    unfold World.cell? at q1 ⊢
    rw [hother _ b hne]; exact q1
   ·rw [eβ]
    exact ⟨by assumption, q, sn.push i, f1, f2, hat _, by simp [f4]⟩
   ·intro y p' ob' hy hob hp' hr
    have hne : p'.1 ≠ p.1 := fun e => hy (H.inj y nm p' p ob' _ hob h1 hp' hbp hr trivial e)
    exact ⟨fun _ => hne, hother _ _ hne, fun _ => rfl⟩
  ·rw [hgd] at ha
   match j, hj, ha with
   | 0, hj, ha => simp at hj ha; subst hj; subst ha; exact .d (.v rfl)
   | 1, hj, ha => simp at hj ha; subst hj; subst ha; rw [hxx.1]; exact .d (.v rfl)
   | 2, hj, ha => simp at hj ha; subst hj; subst ha; exact .d hxx.2
   | j + 3, hj, ha => simp at hj
theorem awp_next_k {id sz : Nat} {nm src : Nm} {d : Tmp} {x : Operand} {ty : TypeId} {pos : String} {after : Array Edge} {rest : List Oper} {Q : Exit → St → Prop} {seen : List Nat} {es : List (Int × DV)}
  (hreg : regOk n (⟨some d, .next x false, ty, pos, after, none⟩ :: rest) = true) (hx : s.ev x = .ptr nm 0) (h1 : s.h nm = some (.iter src sz seen)) (h2 : s.h src = some (.map es)) (h3 : es.length = sz)
  (h : ∀ R : St → Prop, (∀ s', Q .normal s' → R s') →
   ((∀ i, i < es.length → i ∈ seen) → runL P (⟨some d, .next x false, ty, pos, after, none⟩ :: rest).toArray s.k rest 1 (St.step { s with k := s.k + 1 } ⟨some d, .next x false, ty, pos, after, none⟩ endE) R) ∧
   (∀ i, i < es.length → i ∉ seen → runL P (⟨some d, .next x false, ty, pos, after, none⟩ :: rest).toArray s.k rest 1 (St.step { s with k := s.k + 1 } ⟨some d, .next x false, ty, pos, after, none⟩ (comesE nm src sz seen es i)) R)) :
  awp P w0 n (.region id (⟨some d, .next x false, ty, pos, after, none⟩ :: rest).toArray false) Q s :=
 awp_next hreg hx h1 h2 h3 (h _ fun _ h => h).1 (h _ fun _ h => h).2
end
def mapE (n' : Nm) (es : List (Int × DV)) (v : AV) : Eff := ⟨v, [(n', none)], [(n', some (.map es))]⟩
attribute [go_sem] mapE
theorem nmk1 {k i : Nat} (j : Nat) : ((k + 1, i) : Nm) ≠ (k + 1 + 1 + 1, j) := fun e => by have := congrArg Prod.fst e; simp only at this; omega
section
variable {P : Program} {w0 : World} {n : Nat} {Q : Exit → St → Prop} {s : St}
theorem HRel.retell {w : World} {h : Heap} {k : Nat} {m : Mem} {β : Bl} (H : HRel P w0 h k m β w) {x : Nm} {ob ob' : Ob} {p : Bk} (hx : h x = some ob) (hb : β x = some p) (ho : ObOK P m β w p ob') (hr : ob.real p) (hn : w0.heap.size ≤ p.1) : HRel P w0 (upd h x (some ob')) k m β w := by
 have H2 := H.upd1 (n := x) (p := p) (ob := ob') (m' := m) (w' := w) (le_old hb) (H.dom x p hb) H.ext (.rfl' m) H.mem (by rw [show updB β x p = β from by funext y; unfold updB; split; (subst_vars; exact hb.symm); rfl]; exact ho) (fun _ => hn) (fun y p' ob'' hy hoy hpy hr' => ⟨fun _ => fun e => hy (H.inj y x p' p ob'' ob hoy hx hpy hb hr' hr e), rfl, fun _ => rfl⟩)
 rw [show updB β x p = β from by funext y; unfold updB; split; (subst_vars; exact hb.symm); rfl] at H2
 exact H2
theorem ghost_bag {x : Nm} {es es' : List (Int × DV)} (hx : s.h x = some (.map es)) (hp : es'.Perm es) : Ghost P w0 n s ⟨s.t, upd s.h x (some (.bag es')), s.k⟩ := by
 intro m β a w h1 h2 h3
 obtain ⟨p, hb, hob⟩ := h2.obj x _ hx
 exact ⟨m, β, Nat.le_refl _, ⟨.rfl' m, .rfl' β, h2.retell hx hb ⟨es, hp, hob⟩ trivial (h2.new x p _ hb hx trivial), h3⟩, fun _ _ h => h⟩
theorem awp_bag {c : Code} {x : Nm} {es : List (Int × DV)} (hx : s.h x = some (.bag es)) (h : ∀ es', es.Perm es' → awp P w0 n c Q ⟨s.t, upd s.h x (some (.map es')), s.k⟩) : awp P w0 n c Q s := by
 intro m β a w h1 h2 h3
 obtain ⟨p, hb, es', hp, hob⟩ := h2.obj x _ hx
 exact h es' hp m β a w h1 (h2.retell hx hb hob trivial (h2.new x p _ hb hx trivial)) h3
end
theorem bsE_getD (b : Bs) {i : Nat} (hi : i < b.length) : (bsE b).getD i default = (b[i].1, tmDV b[i].2) := by
 unfold bsE
 rw [List.getD_eq_getElem?_getD, List.getElem?_map, List.getElem?_eq_getElem hi]; rfl
theorem bsE_len (b : Bs) : (bsE b).length = b.length := by unfold bsE; simp
end Go.Proofs.YtmeekpinkfpnhabGreat
namespace Go.Proofs.YtmeekpinkfpnhabGreat
def sortB (b : Bs) : Bs := b.mergeSort fun p q => decide (p.1 ≤ q.1)
theorem perm_unmap {α β : Type} (f : α → β) {l l' : List β} (h : l.Perm l') : ∀ b : List α, l = b.map f → ∃ b' : List α, l' = b'.map f ∧ b.Perm b' := by
 induction h with
 | nil => intro b hb; exact ⟨[], rfl, by cases b with | nil => exact .nil | cons => cases hb⟩
 | cons x _ ih =>
  intro b hb
  cases b with
  | nil => cases hb
  | cons y b =>
   rw [List.map_cons] at hb
   injection hb with h1 h2
   obtain ⟨b', h3, h4⟩ := ih b h2
   exact ⟨y :: b', by rw [List.map_cons, h1, h3], h4.cons y⟩
 | swap x y l =>
  intro b hb
  match b, hb with
  | p :: q :: b, hb =>
   simp only [List.map_cons, List.cons.injEq] at hb
   obtain ⟨h1, h2, h3⟩ := hb
   exact ⟨q :: p :: b, by simp [h1, h2, h3], .swap q p b⟩
 | trans _ _ ih1 ih2 =>
  intro b hb
  obtain ⟨b1, h1, h2⟩ := ih1 b hb
  obtain ⟨b2, h3, h4⟩ := ih2 b1 h1
  exact ⟨b2, h3, h2.trans h4⟩
def seenB (b : Bs) (seen : List Nat) : Bs := seen.map fun i => b.getD i (0, .mk 0 0 [])
theorem seenB_snoc (b : Bs) (seen : List Nat) {i : Nat} (hi : i < b.length) : seenB b (seen ++ [i]) = seenB b seen ++ [b[i]] := by
 unfold seenB
 rw [List.map_append, List.map_cons, List.map_nil, List.getD_eq_getElem?_getD, List.getElem?_eq_getElem hi, Option.getD_some]
theorem seenB_all {b : Bs} {seen : List Nat} (hnd : seen.Nodup) (hlt : ∀ i ∈ seen, i < b.length) (hall : ∀ i, i < b.length → i ∈ seen) : (seenB b seen).Perm b := by
 have hp : seen.Perm (List.range b.length) := (List.perm_ext_iff_of_nodup hnd List.nodup_range).2 fun i => ⟨fun h => List.mem_range.2 (hlt i h), fun h => hall i (List.mem_range.1 h)⟩
 have h2 := hp.map fun i => b.getD i (0, .mk 0 0 [])
 have h3 : (List.range b.length).map (fun i => b.getD i (0, .mk 0 0 [])) = b := by
  apply List.ext_getElem
  ·simp
  ·intro i h1 h2
   simp at h1
   simp [List.getD_eq_getElem?_getD, h1]
 rw [h3] at h2
 exact h2
theorem seen_le : ∀ {n : Nat} {seen : List Nat}, seen.Nodup → (∀ i ∈ seen, i < n) → seen.length ≤ n
 | 0, seen, _, h => by
  cases seen with
  | nil => simp
  | cons x l => exact absurd (h x (by simp)) (by omega)
 | n + 1, seen, hnd, h => by
  have h1 := seen_le (n := n) (seen := seen.erase n) (hnd.erase n) fun i hi => by
   rw [hnd.mem_erase_iff] at hi
   have := h i hi.2
   omega
  rw [List.length_erase] at h1
  split at h1 <;> omega
end Go.Proofs.YtmeekpinkfpnhabGreat
