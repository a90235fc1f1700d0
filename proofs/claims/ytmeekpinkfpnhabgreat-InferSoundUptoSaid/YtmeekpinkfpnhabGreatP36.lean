/- Values of terms in models: superposeref. -/
import Derived.Test.YtmeekpinkfpnhabGreatP10
set_option linter.all false
namespace Go.Proofs.YtmeekpinkfpnhabGreat
open Go.RowKit
set_option maxHeartbeats 2000000 in
set_option maxRecDepth 20000 in
theorem mdCheck_tri (g : List Int) (sz : Int) (tb : List (List Int)) (hl : tb.length ≤ 4000000) (hr : ∀ r ∈ tb, r.length ≤ 4000000) : Tri Tryz.prog 51 [.d (sgDV g), .d (mdDV sz tb)] (pure' (iA (mdOk g sz tb))) := by
 refine aE Tryz.func51 rfl Tryz.ntmps51 fun w0 h0 k hrd hwr => ?_
 cases hs : sigOk g == 0 with
 | false =>
  have hs' : (sigOk g != 0) = true := by simpa using hs
  have hv : mdOk g sz tb = sigOk g := by unfold mdOk; rw [if_pos (by simpa using hs)]
  repeat' (first | refine aQ fun K hK => ?_ | ((first | refine aK fun R hR => ?_ | refine aD mixed fun R hR => ?_); simp only [go_sem, hs']) | ((first | (refine hR _ ?_; clear hR R) | refine aZ rfl ?_); try refine aP ?_) | ((repeat (fail_if_success refine hK _ ?_); clear hK K); refine hK _ ?_; clear hK K) | refine aT ?_ | refine aF ?_ | refine aB ?_ | ((first | refine CallK.pure (enter59) (signature_tri g) ?_ ?_ | refine CallD.pure (enter59) (signature_tri g) ?_ ?_); (focus exact aC); simp only [go_sem, hs']) | refine aN ?_ | fail)
  (first | refine ret_pure ?_ ?_ ?_ | refine ret_ro ?_ ?_ ?_); focus exact (okA Tryz.ntmps51 Tryz.results51)
  rotate_left; focus exact frA
  simp only [resA, resV, Tryz.results51, go_sem]
  all_goals try exact coA
  exact co_i hv.symm
 | true =>
  have hs2 : sigOk g = 0 := by simpa using hs
  have hs' : (sigOk g != 0) = false := by simp [hs2]
  have hlen := sig_len hs2
  by_cases hsz : sz < 1 ∨ sz > 3
  ·have hv : mdOk g sz tb = 3 := by unfold mdOk; rw [if_neg (by simp [hs2]), if_pos hsz]
   cases h1 : decide (sz < 1) with
   | true =>
    repeat' (first | refine aQ fun K hK => ?_ | ((first | refine aK fun R hR => ?_ | refine aD mixed fun R hR => ?_); simp only [go_sem, hs2, bne_self_eq_false, h1]) | ((first | (refine hR _ ?_; clear hR R) | refine aZ rfl ?_); try refine aP ?_) | ((repeat (fail_if_success refine hK _ ?_); clear hK K); refine hK _ ?_; clear hK K) | refine aT ?_ | refine aF ?_ | refine aB ?_ | ((first | refine CallK.pure (enter59) (signature_tri g) ?_ ?_ | refine CallD.pure (enter59) (signature_tri g) ?_ ?_); (focus exact aC); simp only [go_sem, hs2, bne_self_eq_false, h1]) | refine aN ?_ | fail)
    (first | refine ret_pure ?_ ?_ ?_ | refine ret_ro ?_ ?_ ?_); focus exact (okA Tryz.ntmps51 Tryz.results51)
    rotate_left; focus exact frA
    simp only [resA, resV, Tryz.results51, go_sem]
    all_goals try exact coA
    exact co_i hv.symm
   | false =>
    have h2 : decide (sz > 3) = true := by simp at h1 ⊢; omega
    repeat' (first | refine aQ fun K hK => ?_ | ((first | refine aK fun R hR => ?_ | refine aD mixed fun R hR => ?_); simp only [go_sem, hs2, bne_self_eq_false, h1, h2]) | ((first | (refine hR _ ?_; clear hR R) | refine aZ rfl ?_); try refine aP ?_) | ((repeat (fail_if_success refine hK _ ?_); clear hK K); refine hK _ ?_; clear hK K) | refine aT ?_ | refine aF ?_ | refine aB ?_ | ((first | refine CallK.pure (enter59) (signature_tri g) ?_ ?_ | refine CallD.pure (enter59) (signature_tri g) ?_ ?_); (focus exact aC); simp only [go_sem, hs2, bne_self_eq_false, h1, h2]) | refine aN ?_ | fail)
    (first | refine ret_pure ?_ ?_ ?_ | refine ret_ro ?_ ?_ ?_); focus exact (okA Tryz.ntmps51 Tryz.results51)
    rotate_left; focus exact frA
    simp only [resA, resV, Tryz.results51, go_sem]
    all_goals try exact coA
    exact co_i hv.symm
  ·have h1 : decide (sz < 1) = false := by simp; omega
   have h2 : decide (sz > 3) = false := by simp; omega
   cases h3 : ((tb.length : Int) != (g.length : Int)) with
   | true =>
    have hv : mdOk g sz tb = 1 := by unfold mdOk; rw [if_neg (by simp [hs2]), if_neg hsz, if_pos (by simp at h3; omega)]
    repeat' (first | refine aQ fun K hK => ?_ | ((first | refine aK fun R hR => ?_ | refine aD mixed fun R hR => ?_); simp only [go_sem, hs2, bne_self_eq_false, h1, h2, h3]) | ((first | (refine hR _ ?_; clear hR R) | refine aZ rfl ?_); try refine aP ?_) | ((repeat (fail_if_success refine hK _ ?_); clear hK K); refine hK _ ?_; clear hK K) | refine aT ?_ | refine aF ?_ | refine aB ?_ | ((first | refine CallK.pure (enter59) (signature_tri g) ?_ ?_ | refine CallD.pure (enter59) (signature_tri g) ?_ ?_); (focus exact aC); simp only [go_sem, hs2, bne_self_eq_false, h1, h2, h3]) | refine aN ?_ | fail)
    (first | refine ret_pure ?_ ?_ ?_ | refine ret_ro ?_ ?_ ?_); focus exact (okA Tryz.ntmps51 Tryz.results51)
    rotate_left; focus exact frA
    simp only [resA, resV, Tryz.results51, go_sem]
    all_goals try exact coA
    exact co_i hv.symm
   | false =>
    have h3' : tb.length = g.length := by simp at h3; omega
    have hv : mdOk g sz tb = if rowsBad sz g tb = true then 1 else if (tb.any fun r => r.any (outOf sz)) = true then 5 else 0 := by unfold mdOk; rw [if_neg (by simp [hs2]), if_neg hsz, if_neg (by simp [h3'])]
    repeat' (first | refine aQ fun K hK => ?_ | ((first | refine aK fun R hR => ?_ | refine aD mixed fun R hR => ?_); simp only [go_sem, hs2, bne_self_eq_false, h1, h2, h3]) | ((first | (refine hR _ ?_; clear hR R) | refine aZ rfl ?_); try refine aP ?_) | ((repeat (fail_if_success refine hK _ ?_); clear hK K); refine hK _ ?_; clear hK K) | refine aT ?_ | refine aF ?_ | refine aB ?_ | ((first | refine CallK.pure (enter59) (signature_tri g) ?_ ?_ | refine CallD.pure (enter59) (signature_tri g) ?_ ?_); (focus exact aC); simp only [go_sem, hs2, bne_self_eq_false, h1, h2, h3]) | refine aN ?_ | fail)
    refine awp_loop (fun σ => ∃ i : Nat, σ.t 2 = .ptr (k, 0) 0 ∧ σ.t 3 = .ptr (k, 1) 0 ∧ σ.t 31 = .d (.sl (tb.map gI)) ∧ σ.t 32 = iA tb.length ∧ σ.t 33 = iA i ∧ σ.h (k, 0) = some (.cells 24 [.d (.sl (g.map iD))]) ∧ σ.h (k, 1) = some (.cells 53 [iA sz, .d (.sl (tb.map gI))]) ∧ Fr k h0 σ.h ∧ k < σ.k ∧ i ≤ tb.length ∧ rowsBad sz (g.drop i) (tb.drop i) = rowsBad sz g tb) (fun σ => tb.length - (intOf' (σ.t 33)).toNat) ?_ ?_
    ·refine ⟨0, ?_⟩
     simp only [go_sem, List.drop_zero]
     and_intros; all_goals try (first | rfl | omega | assumption | exact anA)
    ·rintro σ ⟨i, s2, s3, s31, s32, s33, sh, sh', hF, hk, hi, hb⟩
     have hne := ltne hk
     rcases Nat.lt_or_ge i tb.length with hlt | hge
     ·have hlt' : i < g.length := by omega
      have hz : (i : Int) < (tb.length : Int) := by omega
      have hz' : (i : Int) < (g.length : Int) := by omega
      have e1 : (tb.map gI).getD i default = gI tb[i] := nth_map gI hlt _
      have e2 : (g.map iD).getD i default = iD g[i] := nth_map iD hlt' _
      obtain ⟨g1, g2⟩ := sig_each hs2 g[i] (List.getElem_mem hlt')
      have pw := power_tri (n := sz) (by omega) (by omega) (j := g[i].toNat) (by omega)
      rw [show ((g[i].toNat : Nat) : Int) = g[i] by omega] at pw
      rw [rowsBad_at hlt' hlt] at hb
      cases hc : ((tb[i].length : Int) != sz ^ g[i].toNat) with
      | true =>
       rw [hc, Bool.true_or] at hb
       repeat' (first | refine aQ fun K hK => ?_ | ((first | refine aK fun R hR => ?_ | refine aD mixed fun R hR => ?_); simp only [go_sem, s2, s3, s31, s32, s33, sh, sh', hz, hz', e1, e2, hne, hc, Int.toNat_natCast]) | ((first | (refine hR _ ?_; clear hR R) | refine aZ rfl ?_); try refine aP ?_) | ((repeat (fail_if_success refine hK _ ?_); clear hK K); refine hK _ ?_; clear hK K) | refine aT ?_ | refine aF ?_ | refine aB ?_ | ((first | refine CallK.pure (enter54) (pw) ?_ ?_ | refine CallD.pure (enter54) (pw) ?_ ?_); (focus exact aC); simp only [go_sem, s2, s3, s31, s32, s33, sh, sh', hz, hz', e1, e2, hne, hc, Int.toNat_natCast]) | refine aN ?_ | fail)
       (first | refine ret_pure ?_ ?_ ?_ | refine ret_ro ?_ ?_ ?_); focus exact (okA Tryz.ntmps51 Tryz.results51)
       rotate_left; focus exact frA
       simp only [resA, resV, Tryz.results51, go_sem]
       all_goals try exact coA
       exact co_i (by rw [hv, ← hb]; rfl)
      | false =>
       rw [hc, Bool.false_or] at hb
       repeat' (first | refine aQ fun K hK => ?_ | ((first | refine aK fun R hR => ?_ | refine aD mixed fun R hR => ?_); simp only [go_sem, s2, s3, s31, s32, s33, sh, sh', hz, hz', e1, e2, hne, hc, Int.toNat_natCast]) | ((first | (refine hR _ ?_; clear hR R) | refine aZ rfl ?_); try refine aP ?_) | ((repeat (fail_if_success refine hK _ ?_); clear hK K); refine hK _ ?_; clear hK K) | refine aT ?_ | refine aF ?_ | refine aB ?_ | ((first | refine CallK.pure (enter54) (pw) ?_ ?_ | refine CallD.pure (enter54) (pw) ?_ ?_); (focus exact aC); simp only [go_sem, s2, s3, s31, s32, s33, sh, sh', hz, hz', e1, e2, hne, hc, Int.toNat_natCast]) | refine aN ?_ | fail)
       refine ⟨⟨i + 1, ?_⟩, ?_⟩
       rotate_left
       ·simp only [go_sem, s2, s3, s31, s32, s33, sh, sh', hne]; omega
       simp only [go_sem, s2, s3, s31, s32, s33, sh, sh', hne]
       and_intros; all_goals try (first | rfl | omega | assumption | exact anA)
     ·have hz : ¬ ((i : Int) < (tb.length : Int)) := by omega
      rw [rowsBad_end hge] at hb
      rw [← hb] at hv
      simp only [Bool.false_eq_true, if_false] at hv
      have hro : RoOK σ.k (mdO (k, 1) sz tb) σ.h := roMd hk sh'
      have hcf := containsF_rows tb (by omega) 87 (enter87) [.ptr (k, 1) 0] (mdO (k, 1) sz tb) (fun r => r.any (outOf sz)) (fun r hr' => check1_tri (k, 1) sz tb r (by have := hr r hr'; omega))
      cases h5 : tb.any fun r => r.any (outOf sz) with
      | true =>
       rw [h5] at hv hcf
       repeat' (first | refine aQ fun K hK => ?_ | ((first | refine aK fun R hR => ?_ | refine aD mixed fun R hR => ?_); simp only [go_sem, s3, s31, s32, s33, sh', hz, hne]) | ((first | (refine hR _ ?_; clear hR R) | refine aZ rfl ?_); try refine aP ?_) | ((repeat (fail_if_success refine hK _ ?_); clear hK K); refine hK _ ?_; clear hK K) | refine aT ?_ | refine aF ?_ | refine aB ?_ | ((first | refine CallK.look (enter86) (hcf) ?_ (by assumption) frA ?_ | refine CallD.look (enter86) (hcf) ?_ (by assumption) frA (by first | assumption | exact List.cons_ne_nil _ _) ?_); (focus exact aC); simp only [go_sem, s3, s31, s32, s33, sh', hz, hne]) | refine aN ?_ | fail)
       (first | refine ret_pure ?_ ?_ ?_ | refine ret_ro ?_ ?_ ?_); focus exact (okA Tryz.ntmps51 Tryz.results51)
       rotate_left; focus exact frA
       simp only [resA, resV, Tryz.results51, go_sem]
       all_goals try exact coA
       exact co_i hv.symm
      | false =>
       rw [h5] at hv hcf
       repeat' (first | refine aQ fun K hK => ?_ | ((first | refine aK fun R hR => ?_ | refine aD mixed fun R hR => ?_); simp only [go_sem, s3, s31, s32, s33, sh', hz, hne]) | ((first | (refine hR _ ?_; clear hR R) | refine aZ rfl ?_); try refine aP ?_) | ((repeat (fail_if_success refine hK _ ?_); clear hK K); refine hK _ ?_; clear hK K) | refine aT ?_ | refine aF ?_ | refine aB ?_ | ((first | refine CallK.look (enter86) (hcf) ?_ (by assumption) frA ?_ | refine CallD.look (enter86) (hcf) ?_ (by assumption) frA (by first | assumption | exact List.cons_ne_nil _ _) ?_); (focus exact aC); simp only [go_sem, s3, s31, s32, s33, sh', hz, hne]) | refine aN ?_ | fail)
       (first | refine ret_pure ?_ ?_ ?_ | refine ret_ro ?_ ?_ ?_); focus exact (okA Tryz.ntmps51 Tryz.results51)
       rotate_left; focus exact frA
       simp only [resA, resV, Tryz.results51, go_sem]
       all_goals try exact coA
       exact co_i hv.symm
section
variable {g : List Int} {sz : Int} {tb : List (List Int)} {vs : Int → Int} (hm : mdOk g sz tb = 0)
include hm
theorem md_at {t : Tm} (hf : Fine g sz vs (parts t)) (hv : ¬ t.v > 0) : t.f.toNat < tb.length ∧ 0 ≤ t.f ∧ (∀ h : t.f.toNat < tb.length, ∃ h2 : (valL sz tb vs t.us 0).toNat < tb[t.f.toNat].length, valM sz tb vs t = (tb[t.f.toNat])[(valL sz tb vs t.us 0).toNat]) ∧ 0 ≤ valL sz tb vs t.us 0 ∧ t.us.length ≤ 3 := by
 have h0 := hf t (by rw [parts_eq]; simp)
 obtain ⟨h1, _⟩ := h0
 have hL := valL_ok hm t.us 0 0 (fun x hx => hf x (by rw [parts_eq]; exact List.mem_append_left _ hx)) (by omega) (by simp)
 have hv0 := formOne_v h1
 unfold formOne at h1
 rw [if_neg (by omega)] at h1
 split at h1
 ·cases h1
 ·split at h1
  ·cases h1
  ·rename_i h3 h4
   simp only [Nat.zero_add] at hL
   obtain ⟨h5, h6, h7⟩ := md_row hm (f := t.f) (by omega) (by omega)
   have h8 : (g.getD t.f.toNat 0).toNat = t.us.length := by have h4 := Decidable.not_not.1 h4; omega
   rw [h8] at h6
   have h9 : (valL sz tb vs t.us 0).toNat < tb[t.f.toNat].length := by omega
   refine ⟨h5, by omega, fun h => ⟨h9, ?_⟩, hL.1, ?_⟩
   ·rw [valM_eq, if_neg hv, getD_at h5, getD_at h9]
   ·have h10 := (mdOk_all hm).1
    have h11 : t.f.toNat < g.length := by omega
    have := sig_each h10 _ (List.getElem_mem h11)
    rw [getD_at h11] at h8
    omega
def ValSpec (g : List Int) (sz : Int) (tb : List (List Int)) (vs : Int → Int) (f : FuncId) (caps : List AV) (ro : List (Nm × Ob)) (t : Tm) : Prop :=
 Fine g sz vs (parts t) → (∀ x ∈ parts t, x.v > 0 → Tri Tryz.prog f ([iA x.v] ++ caps) (rdE ro (iA (vs x.v)))) → Tri Tryz.prog 58 [.d (mdDV sz tb), .d (tmDV t), .fn (.func f) [] caps] (rdE ro (iA (valM sz tb vs t)))
set_option maxRecDepth 20000 in
theorem value_step (f : FuncId) (hfe : enterOk Tryz.prog f) (caps : List AV) (ro : List (Nm × Ob)) (hrn : ro ≠ []) (t : Tm) (ih : ∀ u ∈ t.us, ValSpec g sz tb vs f caps ro u) : ValSpec g sz tb vs f caps ro t := by
 intro hf his
 have hsz := mdOk_all hm
 refine aER Tryz.func58 rfl Tryz.ntmps58 fun w0 h0 k hro => ?_
 cases hv : decide (t.v > 0) with
 | true =>
  have hv' : t.v > 0 := by simpa using hv
  have h1 := his t (by rw [parts_eq]; simp) hv'
  have e : valM sz tb vs t = vs t.v := by rw [valM_eq, if_pos hv']
  rw [e]
  repeat' (first | refine aQ fun K hK => ?_ | ((first | refine aK fun R hR => ?_ | refine aD mixed fun R hR => ?_); simp only [go_sem, hv]) | ((first | (refine hR _ ?_; clear hR R) | refine aZ rfl ?_); try refine aP ?_) | ((repeat (fail_if_success refine hK _ ?_); clear hK K); refine hK _ ?_; clear hK K) | refine aT ?_ | refine aF ?_ | refine aB ?_ | ((first | refine CallK.vlook rfl (hfe) (h1) ?_ (by assumption) frA ?_ | refine CallD.vlook rfl (hfe) (h1) ?_ (by assumption) frA (by first | assumption | exact List.cons_ne_nil _ _) ?_); (focus exact aC); simp only [go_sem, hv]) | refine aN ?_ | fail)
  (first | refine ret_pure ?_ ?_ ?_ | refine ret_ro ?_ ?_ ?_); focus exact (okA Tryz.ntmps58 Tryz.results58)
  rotate_left; focus exact frA
  simp only [resA, resV, Tryz.results58, go_sem]
  all_goals try exact coA
  exact .dat rfl
 | false =>
  have hv' : ¬ t.v > 0 := by simpa using hv
  obtain ⟨a1, a2, a3, a4, a5⟩ := md_at hm hf hv'
  obtain ⟨a6, a7⟩ := a3 a1
  repeat' (first | refine aQ fun K hK => ?_ | ((first | refine aK fun R hR => ?_ | refine aD mixed fun R hR => ?_); simp only [go_sem, hv]) | ((first | (refine hR _ ?_; clear hR R) | refine aZ rfl ?_); try refine aP ?_) | ((repeat (fail_if_success refine hK _ ?_); clear hK K); refine hK _ ?_; clear hK K) | refine aT ?_ | refine aF ?_ | refine aB ?_ | refine aN ?_ | fail)
  refine awp_loop (fun σ => ∃ i : Nat, σ.t 2 = .fn (.func f) [] caps ∧ σ.t 3 = .ptr (k, 0) 0 ∧ σ.t 4 = .ptr (k, 1) 0 ∧ σ.t 7 = iA (valL sz tb vs (t.us.take i) 0) ∧ σ.t 18 = .d (.sl (t.us.map tmDV)) ∧ σ.t 19 = iA t.us.length ∧ σ.t 20 = iA i ∧ σ.h (k, 0) = some (.cells 53 [iA sz, .d (.sl (tb.map gI))]) ∧ σ.h (k, 1) = some (.cells 63 [iA t.v, iA t.f, .d (.sl (t.us.map tmDV))]) ∧ Fr k h0 σ.h ∧ k < σ.k ∧ i ≤ t.us.length) (fun σ => t.us.length - (intOf' (σ.t 20)).toNat) ?_ ?_
  ·refine ⟨0, ?_⟩
   simp only [go_sem, List.take_zero]
   and_intros; all_goals try (first | rfl | omega | assumption | exact anA)
  ·rintro σ ⟨i, s2, s3, s4, s7, s18, s19, s20, sh, sh', hF, hk, hi⟩
   have hne := ltne hk
   have hb := valL_ok hm (t.us.take i) 0 0 (hf.take i) (by omega) (by simp)
   simp only [Nat.zero_add, List.length_take] at hb
   have hp := pw_le hsz.2.1 hsz.2.2.1 (i := min i t.us.length) (by omega)
   rcases Nat.lt_or_ge i t.us.length with hlt | hge
   ·have hz : (i : Int) < (t.us.length : Int) := by omega
    have e1 : (t.us.map tmDV).getD i default = tmDV t.us[i] := nth_map tmDV hlt _
    have hu := List.getElem_mem hlt
    have h1 := ih _ hu (fun x hx => hf x (parts_sub hu x hx)) (fun x hx => his x (parts_sub hu x hx))
    have hb' := valM_ok hm t.us[i] (fun x hx => hf x (parts_sub hu x hx))
    have e2 := valL_take (sz := sz) (tb := tb) (vs := vs) hlt 0
    generalize valL sz tb vs (t.us.take i) 0 = a at *
    have hbd : 0 ≤ a * sz ∧ a * sz ≤ 20000 := by
     have : sz = 1 ∨ sz = 2 ∨ sz = 3 := by omega
     rcases this with h | h | h <;> rw [h] at hb hp ⊢ <;> omega
    repeat' (first | refine aQ fun K hK => ?_ | ((first | refine aK fun R hR => ?_ | refine aD mixed fun R hR => ?_); simp only [go_sem, s2, s3, s4, s7, s18, s19, s20, sh, sh', hz, e1, hne, ← e2, Nat.reduceBEq, ite_self, implies_true, Int.toNat_natCast]) | ((first | (refine hR _ ?_; clear hR R) | refine aZ rfl ?_); try refine aP ?_) | ((repeat (fail_if_success refine hK _ ?_); clear hK K); refine hK _ ?_; clear hK K) | refine aT ?_ | refine aF ?_ | refine aB ?_ | ((first | refine CallK.look (enter58) (h1) ?_ (by assumption) frA ?_ | refine CallD.look (enter58) (h1) ?_ (by assumption) frA (by first | assumption | exact List.cons_ne_nil _ _) ?_); (focus exact aC); simp only [go_sem, s2, s3, s4, s7, s18, s19, s20, sh, sh', hz, e1, hne, ← e2, Nat.reduceBEq, ite_self, implies_true, Int.toNat_natCast]) | refine aN ?_ | fail)
    refine ⟨⟨i + 1, ?_⟩, ?_⟩
    rotate_left
    ·simp only [go_sem, s2, s3, s4, s7, s18, s19, s20, sh, sh', hne]; omega
    simp only [go_sem, s2, s3, s4, s7, s18, s19, s20, sh, sh', hne]
    and_intros; all_goals try (first | rfl | omega | assumption | exact anA)
   ·have hz : ¬ ((i : Int) < (t.us.length : Int)) := by omega
    obtain rfl : i = t.us.length := by omega
    rw [List.take_length] at s7
    have e1 : (tb.map gI).getD t.f.toNat default = gI tb[t.f.toNat] := nth_map gI a1 _
    have e2 : (tb[t.f.toNat].map iD).getD (valL sz tb vs t.us 0).toNat default = iD tb[t.f.toNat][(valL sz tb vs t.us 0).toNat] := nth_map iD a6 _
    have hz1 : t.f < (tb.length : Int) := by omega
    have hz2 : valL sz tb vs t.us 0 < (tb[t.f.toNat].length : Int) := by omega
    repeat' (first | refine aQ fun K hK => ?_ | ((first | refine aK fun R hR => ?_ | refine aD mixed fun R hR => ?_); simp only [go_sem, s3, s4, s7, s19, s20, sh, sh', hz, hz1, hz2, e1, e2, hne]) | ((first | (refine hR _ ?_; clear hR R) | refine aZ rfl ?_); try refine aP ?_) | ((repeat (fail_if_success refine hK _ ?_); clear hK K); refine hK _ ?_; clear hK K) | refine aT ?_ | refine aF ?_ | refine aB ?_ | refine aN ?_ | fail)
    (first | refine ret_pure ?_ ?_ ?_ | refine ret_ro ?_ ?_ ?_); focus exact (okA Tryz.ntmps58 Tryz.results58)
    rotate_left; focus exact frA
    simp only [resA, resV, Tryz.results58, go_sem]
    all_goals try exact coA
    exact co_i a7.symm
theorem value_tri (f : FuncId) (hfe : enterOk Tryz.prog f) (caps : List AV) (ro : List (Nm × Ob)) (hrn : ro ≠ []) : ∀ t : Tm, ValSpec g sz tb vs f caps ro t := Tm.ind (value_step hm f hfe caps ro hrn)
end
def byL (vars : List Int) (v : Int) : Int := vars.getD (v - 1).toNat 0
end Go.Proofs.YtmeekpinkfpnhabGreat
