/- What model. -/
import Derived.Test.YtmeekpinkfpnhabGreatP10
import Derived.Test.YtmeekpinkfpnhabGreatP11
import Derived.Test.YtmeekpinkfpnhabGreatP25
import Derived.Test.YtmeekpinkfpnhabGreatP37
set_option linter.all false
namespace Go.Proofs.YtmeekpinkfpnhabGreat
open Go.RowKit
theorem roLit {m f b mm : Nm} {sz : Int} {tb : List (List Int)} {es : List (Int × DV)} {k : Nat} {h : Heap} (h1 : m.1 < k) (h2 : f.1 < k) (h3 : b.1 < k) (h4 : mm.1 < k) (e1 : h m = some (.cells 53 [iA sz, .d (.sl (tb.map gI))]))
  (e2 : h f = some (.cells 99 [.fn (.func 55) [] [.ptr b 0]])) (e3 : h b = some (.cells 98 [.map mm])) (e4 : h mm = some (.map es)) : RoOK k (litO m f b mm sz tb es) h := ⟨fun x hx => by
 simp only [litO, List.mem_cons, List.not_mem_nil, or_false] at hx
 rcases hx with rfl | rfl | rfl | rfl
 ·exact ⟨h1, e1⟩
 ·exact ⟨h2, e2⟩
 ·exact ⟨h3, e3⟩
 ·exact ⟨h4, e4⟩⟩
theorem nd_at {names : List Int} (hnd : names.Nodup) {i : Nat} (hi : i < names.length) : (∀ v ∈ names.take i, v ≠ names[i]) ∧ ∀ v ∈ names.drop (i + 1), v ≠ names[i] := by
 have h : names = names.take i ++ names[i] :: names.drop (i + 1) := by rw [← List.drop_eq_getElem_cons hi, List.take_append_drop]
 rw [h] at hnd
 obtain ⟨_, h2, h3⟩ := List.nodup_append.1 hnd
 exact ⟨fun v hv e => h3 v hv names[i] (List.mem_cons_self ..) e, fun v hv e => by
  have := (List.nodup_cons.1 h2).1
  rw [← e] at this
  exact this hv⟩
theorem step_I {names : List Int} (hnd : names.Nodup) {i : Nat} (hi : i < names.length) {sz ni n : Int} {es : List (Int × DV)} (uI : ∀ v ∈ names.take i, getM v es = some (iD (dig sz names n v))) (uD : ∀ v ∈ names.drop i, dig sz (names.drop i) ni v = dig sz names n v) :
  ∀ v ∈ names.take (i + 1), getM v (putM names[i] (iD (ni.tmod sz)) es) = some (iD (dig sz names n v)) := by
 intro v hv
 rw [List.take_succ_eq_append_getElem hi, List.mem_append] at hv
 rw [getM_put]
 rcases hv with hv | hv
 ·rw [if_neg ((nd_at hnd hi).1 v hv)]; exact uI v hv
 ·simp at hv
  subst hv
  rw [if_pos rfl]
  have := uD names[i] (by rw [List.drop_eq_getElem_cons hi]; exact List.mem_cons_self ..)
  rw [List.drop_eq_getElem_cons hi, dig, if_pos rfl] at this
  rw [← this]
theorem step_D {names : List Int} (hnd : names.Nodup) {i : Nat} (hi : i < names.length) {sz ni n : Int} (uD : ∀ v ∈ names.drop i, dig sz (names.drop i) ni v = dig sz names n v) :
  ∀ v ∈ names.drop (i + 1), dig sz (names.drop (i + 1)) (ni.tdiv sz) v = dig sz names n v := by
 intro v hv
 have := uD v (by rw [List.drop_eq_getElem_cons hi]; exact List.mem_cons_of_mem _ hv)
 rw [List.drop_eq_getElem_cons hi, dig, if_neg ((nd_at hnd hi).2 v hv)] at this
 exact this
def hldAns (g : List Int) (sz : Int) (tb : List (List Int)) (c : List Lt) : Bool × Int :=
 if mdOk g sz tb ≠ 0 then (false, mdOk g sz tb) else if clsOk g [c] ≠ 0 then (false, clsOk g [c]) else if (firstVars (termsOf c)).length > 8 then (false, 2) else (holdsC sz tb c, 0)
set_option maxHeartbeats 4000000 in
set_option maxRecDepth 20000 in
theorem mdHolds_tri (g : List Int) (sz : Int) (tb : List (List Int)) (c : List Lt) (hl : tb.length ≤ 4000000) (hr : ∀ r ∈ tb, r.length ≤ 4000000) (hcl : c.length ≤ 4000000) :
  Tri Tryz.prog 21 [.d (sgDV g), .d (mdDV sz tb), .d (clDV c)] (pure' (.tup [bA (hldAns g sz tb c).1, iA (hldAns g sz tb c).2])) := by
 have hcc := clCheck_tri g [c] (by simp) (by simpa using hcl)
 refine aE Tryz.func21 rfl Tryz.ntmps21 fun w0 h0 k hrd hwr => ?_
 cases hm : mdOk g sz tb == 0 with
 | false =>
  have hm' : (mdOk g sz tb != 0) = true := by simpa using hm
  have ha : hldAns g sz tb c = (false, mdOk g sz tb) := by unfold hldAns; rw [if_pos (by simpa using hm)]
  repeat' (first | refine aQ fun K hK => ?_ | ((first | refine aK fun R hR => ?_ | refine aD mixed fun R hR => ?_); simp only [go_sem, hm, hm']) | ((first | (refine hR _ ?_; clear hR R) | refine aZ rfl ?_); try refine aP ?_) | ((repeat (fail_if_success refine hK _ ?_); clear hK K); refine hK _ ?_; clear hK K) | refine aT ?_ | refine aF ?_ | refine aB ?_ | ((first | refine CallK.pure (enter51) (mdCheck_tri g sz tb hl hr) ?_ ?_ | refine CallD.pure (enter51) (mdCheck_tri g sz tb hl hr) ?_ ?_); (focus exact aC); simp only [go_sem, hm, hm']) | refine aN ?_ | fail)
  rw [ha]
  (first | refine ret_pure ?_ ?_ ?_ | refine ret_ro ?_ ?_ ?_); focus exact (okA Tryz.ntmps21 Tryz.results21)
  rotate_left; focus exact frA
  simp only [resA, resV, Tryz.results21, go_sem]
  all_goals try exact coA
 | true =>
  have hm2 : mdOk g sz tb = 0 := by simpa using hm
  cases ho : clsOk g [c] == 0 with
  | false =>
   have ho' : (clsOk g [c] != 0) = true := by simpa using ho
   have ha : hldAns g sz tb c = (false, clsOk g [c]) := by unfold hldAns; rw [if_neg (by simp [hm2]), if_pos (by simpa using ho)]
   repeat' (first | refine aQ fun K hK => ?_ | ((first | refine aK fun R hR => ?_ | refine aD mixed fun R hR => ?_); simp only [go_sem, hm2, ho', beq_self_eq_true]) | ((first | (refine hR _ ?_; clear hR R) | refine aZ rfl ?_); try refine aP ?_) | ((repeat (fail_if_success refine hK _ ?_); clear hK K); refine hK _ ?_; clear hK K) | refine aT ?_ | refine aF ?_ | refine aB ?_ | ((first | refine CallK.pure (enter51) (mdCheck_tri g sz tb hl hr) ?_ ?_ | refine CallD.pure (enter51) (mdCheck_tri g sz tb hl hr) ?_ ?_ | refine CallK.pure (enter22) (hcc) ?_ ?_ | refine CallD.pure (enter22) (hcc) ?_ ?_); (focus exact aC); simp only [go_sem, hm2, ho', beq_self_eq_true]) | refine aN ?_ | fail)
   rw [ha]
   (first | refine ret_pure ?_ ?_ ?_ | refine ret_ro ?_ ?_ ?_); focus exact (okA Tryz.ntmps21 Tryz.results21)
   rotate_left; focus exact frA
   simp only [resA, resV, Tryz.results21, go_sem]
   all_goals try exact coA
  | true =>
   have ho2 : clsOk g [c] = 0 := by simpa using ho
   obtain ⟨hc8, hc⟩ := clsOk_one ho2
   have hts := termsOf_size hc
   have hst := stands_tri (termsOf c) (by omega)
   rw [stands_cl hc] at hst
   have hin := names_in hc
   have hnd : (firstVars (termsOf c)).Nodup := addVs_nodup List.nodup_nil
   have hC : ∀ N : Nat, N = (sz ^ (firstVars (termsOf c)).length).toNat → holdsC sz tb c = holdsF sz tb c (firstVars (termsOf c)) N 0 := fun N h => by rw [h]; rfl
   have hfine := fun (n : Int) (hn : 0 ≤ n) (l : Lt) (hl : l ∈ c) => fine_lit (mdOk_all hm2).2.1 hn hc hl
   unfold hldAns
   rw [if_neg (by simp [hm2]), if_neg (by simp [ho2])]
   have hn16 : (firstVars (termsOf c)).length ≤ 2000 := by have := firstVars_len (termsOf c); omega
   generalize hnames : firstVars (termsOf c) = names at *
   cases h8 : decide ((names.length : Int) > 8) with
   | true =>
    rw [if_pos (by simp at h8; omega)]
    repeat' (first | refine aQ fun K hK => ?_ | ((first | refine aK fun R hR => ?_ | refine aD mixed fun R hR => ?_); simp only [go_sem, hm2, ho2, beq_self_eq_true, bne_self_eq_false, h8]) | ((first | (refine hR _ ?_; clear hR R) | refine aZ rfl ?_); try refine aP ?_) | ((repeat (fail_if_success refine hK _ ?_); clear hK K); refine hK _ ?_; clear hK K) | refine aT ?_ | refine aF ?_ | refine aB ?_ | ((first | refine CallK.pure (enter51) (mdCheck_tri g sz tb hl hr) ?_ ?_ | refine CallD.pure (enter51) (mdCheck_tri g sz tb hl hr) ?_ ?_ | refine CallK.pure (enter22) (hcc) ?_ ?_ | refine CallD.pure (enter22) (hcc) ?_ ?_ | refine CallK.pure (enter53) (terms_tri c hcl) ?_ ?_ | refine CallD.pure (enter53) (terms_tri c hcl) ?_ ?_ | refine CallK.pure (enter52) (hst) ?_ ?_ | refine CallD.pure (enter52) (hst) ?_ ?_); (focus exact aC); simp only [go_sem, hm2, ho2, beq_self_eq_true, bne_self_eq_false, h8]) | refine aN ?_ | fail)
    (first | refine ret_pure ?_ ?_ ?_ | refine ret_ro ?_ ?_ ?_); focus exact (okA Tryz.ntmps21 Tryz.results21)
    rotate_left; focus exact frA
    simp only [resA, resV, Tryz.results21, go_sem]
    all_goals try exact coA
   | false =>
    have h8' : ¬ names.length > 8 := by simp at h8; omega
    rw [if_neg h8']
    obtain ⟨m1, m2, m3, _⟩ := mdOk_all hm2
    have pw := power_tri (n := sz) (by omega) (by omega) (j := names.length) (by omega)
    obtain ⟨p1, p2⟩ := pw_le (n := sz) (by omega) (by omega) (i := names.length) (by omega)
    obtain ⟨N, hN⟩ : ∃ N : Nat, sz ^ names.length = (N : Int) := ⟨(sz ^ names.length).toNat, by omega⟩
    rw [hN] at pw p1 p2
    have hC := hC N (by rw [hN]; rfl)
    repeat' (first | refine aQ fun K hK => ?_ | ((first | refine aK fun R hR => ?_ | refine aD mixed fun R hR => ?_); simp only [go_sem, hm2, ho2, beq_self_eq_true, bne_self_eq_false, h8]) | ((first | (refine hR _ ?_; clear hR R) | refine aZ rfl ?_); try refine aP ?_) | ((repeat (fail_if_success refine hK _ ?_); clear hK K); refine hK _ ?_; clear hK K) | refine aT ?_ | refine aF ?_ | refine aB ?_ | ((first | refine CallK.pure (enter51) (mdCheck_tri g sz tb hl hr) ?_ ?_ | refine CallD.pure (enter51) (mdCheck_tri g sz tb hl hr) ?_ ?_ | refine CallK.pure (enter22) (hcc) ?_ ?_ | refine CallD.pure (enter22) (hcc) ?_ ?_ | refine CallK.pure (enter53) (terms_tri c hcl) ?_ ?_ | refine CallD.pure (enter53) (terms_tri c hcl) ?_ ?_ | refine CallK.pure (enter52) (hst) ?_ ?_ | refine CallD.pure (enter52) (hst) ?_ ?_ | refine CallK.pure (enter54) (pw) ?_ ?_ | refine CallD.pure (enter54) (pw) ?_ ?_); (focus exact aC); simp only [go_sem, hm2, ho2, beq_self_eq_true, bne_self_eq_false, h8]) | refine aN ?_ | fail)
    refine awp_loop (fun σ => ∃ n : Nat, σ.t 2 = .d (clDV c) ∧ σ.t 4 = .ptr (k, 1) 0 ∧ σ.t 9 = .d (.sl (names.map iD)) ∧ σ.t 37 = iA N ∧ σ.t 38 = iA n ∧ σ.h (k, 1) = some (.cells 53 [iA sz, .d (.sl (tb.map gI))]) ∧ Fr k h0 σ.h ∧ k < σ.k ∧ n ≤ N ∧ holdsF sz tb c names N n = holdsC sz tb c) (fun σ => N - (intOf' (σ.t 38)).toNat) ?_ ?_
    ·refine ⟨0, ?_⟩
     simp only [go_sem]
     and_intros; all_goals try (first | rfl | omega | assumption | exact anA)
     exact hC.symm
    ·rintro σ ⟨n, s2, s4, s9, s37, s38, sh, hF, hk, hn, hv⟩
     have hne := ltne hk
     rcases Nat.lt_or_ge n N with hlt | hge
     ·have hz : (n : Int) < (N : Int) := by omega
      rw [holdsF_at hlt] at hv
      repeat' (first | refine aQ fun K hK => ?_ | ((first | refine aK fun R hR => ?_ | refine aD mixed fun R hR => ?_); simp only [go_sem, s2, s4, s9, s37, s38, sh, hz, hne]) | ((first | (refine hR _ ?_; clear hR R) | refine aZ rfl ?_); try refine aP ?_) | ((repeat (fail_if_success refine hK _ ?_); clear hK K); refine hK _ ?_; clear hK K) | refine aT ?_ | refine aF ?_ | refine aB ?_ | refine aN ?_ | fail)
      refine awp_loop (fun τ => ∃ (i : Nat) (ni : Int) (es : List (Int × DV)), τ.t 2 = .d (clDV c) ∧ τ.t 4 = .ptr (k, 1) 0 ∧ τ.t 9 = .d (.sl (names.map iD)) ∧ τ.t 37 = iA N ∧ τ.t 38 = iA n ∧ τ.t 11 = .ptr (σ.k + 1 + 1, 1) 0 ∧ τ.t 42 = .d (.sl (names.map iD)) ∧ τ.t 43 = iA names.length ∧ τ.t 44 = iA i ∧ τ.t 10 = iA ni ∧
       τ.h (k, 1) = some (.cells 53 [iA sz, .d (.sl (tb.map gI))]) ∧ τ.h (σ.k + 1 + 1, 1) = some (.cells 98 [.map (σ.k + 1 + 1, 0)]) ∧ τ.h (σ.k + 1 + 1, 0) = some (.map es) ∧ Fr k h0 τ.h ∧ σ.k + 1 + 1 < τ.k ∧ i ≤ names.length ∧ 0 ≤ ni ∧ ni ≤ n ∧
       (∀ v ∈ names.take i, getM v es = some (iD (dig sz names n v))) ∧ (∀ v ∈ names.drop i, dig sz (names.drop i) ni v = dig sz names n v)) (fun τ => names.length - (intOf' (τ.t 44)).toNat) ?_ ?_
      ·refine ⟨0, n, [], ?_⟩
       simp only [go_sem, s2, s4, s9, s37, s38, sh, hne, List.drop_zero, List.take_zero]
       and_intros; all_goals try (first | rfl | omega | assumption | exact anA)
      ·rintro τ ⟨i, ni, es, u2, u4, u9, u37, u38, u11, u42, u43, u44, u10, uh, ub, um, uF, uk, ui, u0, un, uI, uD⟩
       have hne' := ltne (show k < τ.k by omega)
       have hne2 := ltne uk
       have hne3 := ltne (show k < σ.k + 1 + 1 by omega)
       rcases Nat.lt_or_ge i names.length with hlt' | hge'
       ·have hz' : (i : Int) < (names.length : Int) := by omega
        have e1 : (names.map iD).getD i default = iD names[i] := nth_map iD hlt' _
        have hszne : ¬ (sz = 0) := by omega
        obtain ⟨d1, d2⟩ := tdiv_in u0 m2
        repeat' (first | refine aQ fun K hK => ?_ | ((first | refine aK fun R hR => ?_ | refine aD mixed fun R hR => ?_); simp only [go_sem, u2, u4, u9, u11, u42, u43, u44, u10, uh, ub, um, hz', e1, hne', hne2, hne3, hszne, Int.toNat_natCast]) | ((first | (refine hR _ ?_; clear hR R) | refine aZ rfl ?_); try refine aP ?_) | ((repeat (fail_if_success refine hK _ ?_); clear hK K); refine hK _ ?_; clear hK K) | refine aT ?_ | refine aF ?_ | refine aB ?_ | refine aN ?_ | fail)
        refine ⟨⟨i + 1, ni.tdiv sz, putM names[i] (iD (ni.tmod sz)) es, ?_⟩, ?_⟩
        rotate_left
        ·simp only [go_sem, u2, u4, u9, u37, u38, u11, u42, u43, u44, u10, uh, ub, um, hne', hne2, hne3]; omega
        simp only [go_sem, u2, u4, u9, u37, u38, u11, u42, u43, u44, u10, uh, ub, um, hne', hne2, hne3]
        and_intros; all_goals try (first | rfl | omega | assumption | exact anA)
        ·exact step_I hnd hlt' uI uD
        ·exact step_D hnd hlt' uD
       ·have hz' : ¬ ((i : Int) < (names.length : Int)) := by omega
        obtain rfl : i = names.length := by omega
        rw [List.take_length] at uI
        have hcf := containsF_lits c (by omega) 57 (enter57) [.ptr (k, 1) 0, .ptr (τ.k + 1, 1) 0] (litO (k, 1) (τ.k + 1, 1) (σ.k + 1 + 1, 1) (σ.k + 1 + 1, 0) sz tb es) (litIn sz tb (dig sz names n)) (fun l hl => by
         obtain ⟨⟨f1, f2⟩, f3, f4⟩ := hfine n (by omega) l hl
         exact holds2_tri hm2 (k, 1) (τ.k + 1, 1) (σ.k + 1 + 1, 1) (σ.k + 1 + 1, 0) es (dig sz names n) l f1 f3 (fun x hx hv => uI _ (f2 x hx hv)) (fun x hx hv => uI _ (f4 x hx hv)))
        cases ha : c.any (litIn sz tb (dig sz names n)) with
        | true =>
         rw [ha] at hcf hv
         rw [Bool.true_and] at hv
         repeat' (first | refine aQ fun K hK => ?_ | ((first | refine aK fun R hR => ?_ | refine aD mixed fun R hR => ?_); simp only [go_sem, u2, u4, u9, u37, u38, u11, u42, u43, u44, u10, uh, ub, um, hz', hne', hne2, hne3]) | ((first | (refine hR _ ?_; clear hR R) | refine aZ rfl ?_); try refine aP ?_) | ((repeat (fail_if_success refine hK _ ?_); clear hK K); refine hK _ ?_; clear hK K) | refine aT ?_ | refine aF ?_ | refine aB ?_ | ((first | refine CallK.look (enter56) (hcf) ?_ (roLit (k := τ.k + 1 + 1) (by simp only; omega) (by simp only; omega) (by simp only; omega) (by simp only; omega) (by simp only [go_sem, uh, hne', hne2, hne3]) (by simp only [go_sem, uh, hne', hne2, hne3]) (by simp only [go_sem, ub, hne', hne2, hne3]) (by simp only [go_sem, um, hne', hne2, hne3])) (Fr.rfl' _ _) ?_ | refine CallD.look (enter56) (hcf) ?_ (roLit (k := τ.k + 1 + 1) (by simp only; omega) (by simp only; omega) (by simp only; omega) (by simp only; omega) (by simp only [go_sem, uh, hne', hne2, hne3]) (by simp only [go_sem, uh, hne', hne2, hne3]) (by simp only [go_sem, ub, hne', hne2, hne3]) (by simp only [go_sem, um, hne', hne2, hne3])) (Fr.rfl' _ _) (by first | assumption | exact List.cons_ne_nil _ _) ?_); (focus exact aC); simp only [go_sem, u2, u4, u9, u37, u38, u11, u42, u43, u44, u10, uh, ub, um, hz', hne', hne2, hne3]) | refine aN ?_ | fail)
         refine ⟨⟨n + 1, ?_⟩, ?_⟩
         rotate_left
         ·simp only [go_sem, u2, u4, u9, u37, u38, uh, hne', s38]; omega
         simp only [go_sem, u2, u4, u9, u37, u38, uh, hne', s38]
         and_intros; all_goals try (first | rfl | omega | assumption | exact anA)
        | false =>
         rw [ha] at hcf hv
         rw [Bool.false_and] at hv
         repeat' (first | refine aQ fun K hK => ?_ | ((first | refine aK fun R hR => ?_ | refine aD mixed fun R hR => ?_); simp only [go_sem, u2, u4, u9, u37, u38, u11, u42, u43, u44, u10, uh, ub, um, hz', hne', hne2, hne3]) | ((first | (refine hR _ ?_; clear hR R) | refine aZ rfl ?_); try refine aP ?_) | ((repeat (fail_if_success refine hK _ ?_); clear hK K); refine hK _ ?_; clear hK K) | refine aT ?_ | refine aF ?_ | refine aB ?_ | ((first | refine CallK.look (enter56) (hcf) ?_ (roLit (k := τ.k + 1 + 1) (by simp only; omega) (by simp only; omega) (by simp only; omega) (by simp only; omega) (by simp only [go_sem, uh, hne', hne2, hne3]) (by simp only [go_sem, uh, hne', hne2, hne3]) (by simp only [go_sem, ub, hne', hne2, hne3]) (by simp only [go_sem, um, hne', hne2, hne3])) (Fr.rfl' _ _) ?_ | refine CallD.look (enter56) (hcf) ?_ (roLit (k := τ.k + 1 + 1) (by simp only; omega) (by simp only; omega) (by simp only; omega) (by simp only; omega) (by simp only [go_sem, uh, hne', hne2, hne3]) (by simp only [go_sem, uh, hne', hne2, hne3]) (by simp only [go_sem, ub, hne', hne2, hne3]) (by simp only [go_sem, um, hne', hne2, hne3])) (Fr.rfl' _ _) (by first | assumption | exact List.cons_ne_nil _ _) ?_); (focus exact aC); simp only [go_sem, u2, u4, u9, u37, u38, u11, u42, u43, u44, u10, uh, ub, um, hz', hne', hne2, hne3]) | refine aN ?_ | fail)
         rw [← hv]
         (first | refine ret_pure ?_ ?_ ?_ | refine ret_ro ?_ ?_ ?_); focus exact (okA Tryz.ntmps21 Tryz.results21)
         rotate_left; focus exact frA
         simp only [resA, resV, Tryz.results21, go_sem]
         all_goals try exact coA
     ·have hz : ¬ ((n : Int) < (N : Int)) := by omega
      rw [holdsF_end hge] at hv
      repeat' (first | refine aQ fun K hK => ?_ | ((first | refine aK fun R hR => ?_ | refine aD mixed fun R hR => ?_); simp only [go_sem, s37, s38, hz, hne]) | ((first | (refine hR _ ?_; clear hR R) | refine aZ rfl ?_); try refine aP ?_) | ((repeat (fail_if_success refine hK _ ?_); clear hK K); refine hK _ ?_; clear hK K) | refine aT ?_ | refine aF ?_ | refine aB ?_ | refine aN ?_ | fail)
      rw [← hv]
      (first | refine ret_pure ?_ ?_ ?_ | refine ret_ro ?_ ?_ ?_); focus exact (okA Tryz.ntmps21 Tryz.results21)
      rotate_left; focus exact frA
      simp only [resA, resV, Tryz.results21, go_sem]
      all_goals try exact coA
theorem mb1 : mdOk [0, 1] 2 [[0], [1, 0]] = 0 := by decide
theorem mb2 : valAns [0, 1] 2 [[0], [1, 0]] (.mk 0 1 [.mk 1 0 []]) [1] = (0, 0) := by decide
theorem mb3 : hldAns [0, 1] 2 [[0], [1, 0]] [⟨false, .mk 0 1 [.mk 1 0 []], .mk 1 0 []⟩] = (true, 0) := by decide +kernel
set_option maxRecDepth 20000 in
theorem modelBegun_tri : Tri Tryz.prog 20 [] (pure' (bA true)) := by
 have v1 := mdValue_tri [0, 1] 2 [[0], [1, 0]] (.mk 0 1 [.mk 1 0 []]) [1] (by decide) (by decide) (by decide) (by decide)
 have v2 := mdHolds_tri [0, 1] 2 [[0], [1, 0]] [⟨false, .mk 0 1 [.mk 1 0 []], .mk 1 0 []⟩] (by decide) (by decide) (by decide)
 have v3 := mdCheck_tri [0, 1] 2 [[0], [1, 0]] (by decide) (by decide)
 rw [mb2] at v1
 rw [mb3] at v2
 rw [mb1] at v3
 refine aE Tryz.func20 rfl Tryz.ntmps20 fun w0 h0 k hrd hwr => ?_
 repeat' (first | refine aQ fun K hK => ?_ | ((first | refine aK fun R hR => ?_ | refine aD mixed fun R hR => ?_); simp only [go_sem, beq_self_eq_true]) | ((first | (refine hR _ ?_; clear hR R) | refine aZ rfl ?_); try refine aP ?_) | ((repeat (fail_if_success refine hK _ ?_); clear hK K); refine hK _ ?_; clear hK K) | refine aT ?_ | refine aF ?_ | refine aB ?_ | ((first | refine CallK.pure (enter30) (small_tri) ?_ ?_ | refine CallD.pure (enter30) (small_tri) ?_ ?_ | refine CallK.pure (enter44) (va_tri 1) ?_ ?_ | refine CallD.pure (enter44) (va_tri 1) ?_ ?_ | refine CallK.pure (enter29) (fn_tri 1 [.mk 1 0 []]) ?_ ?_ | refine CallD.pure (enter29) (fn_tri 1 [.mk 1 0 []]) ?_ ?_ | refine CallK.pure (enter50) (v1) ?_ ?_ | refine CallD.pure (enter50) (v1) ?_ ?_ | refine CallK.pure (enter21) (v2) ?_ ?_ | refine CallD.pure (enter21) (v2) ?_ ?_ | refine CallK.pure (enter51) (v3) ?_ ?_ | refine CallD.pure (enter51) (v3) ?_ ?_); (focus exact aC); simp only [go_sem, beq_self_eq_true]) | refine aN ?_ | fail)
 (first | refine ret_pure ?_ ?_ ?_ | refine ret_ro ?_ ?_ ?_); focus exact (okA Tryz.ntmps20 Tryz.results20)
 rotate_left; focus exact frA
 simp only [resA, resV, Tryz.results20, go_sem]
 all_goals try exact coA
 exact .dat rfl
theorem hldAns_ok {g : List Int} {sz : Int} {tb : List (List Int)} {c : List Lt} (h : (hldAns g sz tb c).2 = 0) : mdOk g sz tb = 0 ∧ clsOk g [c] = 0 ∧ (varsC c).length ≤ 8 ∧ hldAns g sz tb c = (holdsC sz tb c, 0) := by
 unfold hldAns at h ⊢
 by_cases h1 : mdOk g sz tb = 0
 ·rw [if_neg (by simp [h1])] at h ⊢
  by_cases h2 : clsOk g [c] = 0
  ·rw [if_neg (by simp [h2])] at h ⊢
   by_cases h3 : (firstVars (termsOf c)).length > 8
   ·rw [if_pos h3] at h; cases h
   ·rw [if_neg h3]; exact ⟨h1, h2, by show (firstVars (termsOf c)).length ≤ 8; omega, rfl⟩
  ·rw [if_pos h2] at h; exact absurd h h2
 ·rw [if_pos h1] at h; exact absurd h h1
theorem hld_true {g : List Int} {sz : Int} {tb : List (List Int)} {c : List Lt} (h : hldAns g sz tb c = (true, 0)) : mdOk g sz tb = 0 ∧ HoldsA sz tb c := by
 obtain ⟨h1, _, _, h2⟩ := hldAns_ok (g := g) (sz := sz) (tb := tb) (c := c) (by rw [h])
 rw [h] at h2
 obtain ⟨_, m1, m3, _⟩ := mdOk_all h1
 exact ⟨h1, (holds_iff m1 m3).1 (by have := (Prod.mk.inj h2).1; exact this.symm)⟩
theorem hld_of {g : List Int} {sz : Int} {tb : List (List Int)} {c : List Lt} (h : (hldAns g sz tb c).2 = 0) (hh : HoldsA sz tb c) : (hldAns g sz tb c).1 = true := by
 obtain ⟨h1, _, _, h2⟩ := hldAns_ok h
 obtain ⟨_, m1, m3, _⟩ := mdOk_all h1
 rw [h2]; exact (holds_iff m1 m3).2 hh
end Go.Proofs.YtmeekpinkfpnhabGreat
