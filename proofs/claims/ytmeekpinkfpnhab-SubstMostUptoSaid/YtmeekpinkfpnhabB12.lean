/- subst.Of, subst.Apply. substBegun. FRSTH A nil list in a cell of a box, taken as one that may be appended to. superposeref.ApplyOf. superposelaw.termIs. The law SubstApplies: its walk. -/
import Derived.Test.YtmeekpinkfpnhabB06
import Derived.Test.YtmeekpinkfpnhabB08
import Derived.Test.YtmeekpinkfpnhabB10
import Derived.Test.YtmeekpinkfpnhabB11
set_option linter.unusedSimpArgs false
set_option linter.unusedSectionVars false
set_option linter.unusedVariables false
set_option linter.unnecessarySimpa false
set_option linter.all false
namespace Go.Proofs.Ytmeekpinkfpnhab
open Go.RowKit
theorem bsE_take {b : Bs} (hnd : (b.map (·.1)).Nodup) {i : Nat} (hi : i < b.length) : putM b[i].1 (tmDV b[i].2) (bsE (b.take i)) = bsE (b.take (i + 1)) := by
  rw [putM_bs (look_take hnd hi), List.take_succ_eq_append_getElem hi]
set_option maxHeartbeats 2000000 in
set_option maxRecDepth 20000 in
theorem of_tri (b : Bs) (hb : b.length ≤ 4000000) (hnd : (b.map (·.1)).Nodup) (n' : Nm) : Tri Try.prog 34 [.d (bsDV b)] (mapE n' (bsE b) (.map n')) := by
  refine tri_enter Try.func34 rfl Try.ntmps34 (by simp only [List.length_cons, List.length_nil]; omega) fun w0 h0 k hrd hwr => ?_
  have hn1 : n'.1 < k := hwr (n', some (.map (bsE b))) (by simp [mapE])
  have hn2 : h0 n' = none := hrd (n', none) (by simp [mapE])
  clear hrd hwr
  repeat' (first | refine awp_seq_k fun K hK => ?_ | ((first | refine awp_region_k (by kernel_rfl) fun R hR => ?_ | refine awp_draw mixed (by kernel_rfl) (by kernel_rfl) fun R hR => ?_); simp only [go_sem]) | ((first | (refine hR _ ?_; clear hR R) | refine awp_skip ?_ | refine awp_exit ?_ | refine awp_ret ?_); try simp only [thenA, inBlockA, reduceIte, reduceCtorEq, Nat.reduceEqDiff, if_false, if_true]) | ((first | refine hK _ ?_ | (clear hK K; first | refine hK _ ?_ | (clear hK K; first | refine hK _ ?_ | (clear hK K; first | refine hK _ ?_ | (clear hK K; refine hK _ ?_))))); clear hK K) | refine awp_true rfl rfl ?_ | refine awp_false rfl rfl ?_ | refine awp_block ?_ | refine And.intro (by first | ((repeat' first | omega | exact trivial | rfl | assumption | (intro a e; subst e; rfl) | exact map_sz fun a => (by simp only [go_sem]) | refine And.intro ?_ ?_); done) | fail) ?_ | fail)
  refine awp_loop (fun σ => ∃ i : Nat, σ.t 3 = .map (k + 1, 0) ∧ σ.t 7 = .d (bsDV b) ∧ σ.t 8 = iA b.length ∧ σ.t 9 = iA i ∧ σ.h (k + 1, 0) = some (.map (bsE (b.take i))) ∧ Fr k h0 σ.h ∧ k + 1 < σ.k ∧ i ≤ b.length) (fun σ => b.length - (intOf' (σ.t 9)).toNat) ?_ ?_
  · refine ⟨0, ?_⟩
    simp only [go_sem, List.take_zero, List.length_map]
    and_intros; all_goals try (first | rfl | omega | assumption | ((repeat (first | exact Fr.rfl' _ _ | assumption | refine Fr.updk ?_ (by omega) _)); done))
  · rintro σ ⟨i, s3, s7, s8, s9, sh, hF, hk, hi⟩
    have hne := ltne hk
    rcases Nat.lt_or_ge i b.length with hlt | hge
    · have hz : (i : Int) < (b.length : Int) := by omega
      have e1 : (b.map bdDV).getD i default = bdDV b[i] := nth_map bdDV hlt _
      have e2 := bsE_take hnd hlt
      repeat' (first | refine awp_seq_k fun K hK => ?_ | ((first | refine awp_region_k (by kernel_rfl) fun R hR => ?_ | refine awp_draw mixed (by kernel_rfl) (by kernel_rfl) fun R hR => ?_); simp only [go_sem, s3, s7, s8, s9, sh, hz, e1, e2, hne, AV.toD, Option.getD_some, Int.toNat_natCast]) | ((first | (refine hR _ ?_; clear hR R) | refine awp_skip ?_ | refine awp_exit ?_ | refine awp_ret ?_); try simp only [thenA, inBlockA, reduceIte, reduceCtorEq, Nat.reduceEqDiff, if_false, if_true]) | ((first | refine hK _ ?_ | (clear hK K; first | refine hK _ ?_ | (clear hK K; first | refine hK _ ?_ | (clear hK K; first | refine hK _ ?_ | (clear hK K; refine hK _ ?_))))); clear hK K) | refine awp_true rfl rfl ?_ | refine awp_false rfl rfl ?_ | refine awp_block ?_ | refine And.intro (by first | ((repeat' first | omega | exact trivial | rfl | assumption | (intro a e; subst e; rfl) | exact map_sz fun a => (by simp only [go_sem]) | refine And.intro ?_ ?_); done) | fail) ?_ | fail)
      refine ⟨⟨i + 1, ?_⟩, ?_⟩
      rotate_left
      · simp only [go_sem, s3, s7, s8, s9, hne, e2]; omega
      simp only [go_sem, s3, s7, s8, s9, hne, e2]
      and_intros; all_goals try (first | rfl | omega | assumption | ((repeat (first | exact Fr.rfl' _ _ | assumption | refine Fr.updk ?_ (by omega) _)); done))
    · have hz : ¬ ((i : Int) < (b.length : Int)) := by omega
      obtain rfl : i = b.length := by omega
      rw [List.take_length] at sh
      repeat' (first | refine awp_seq_k fun K hK => ?_ | ((first | refine awp_region_k (by kernel_rfl) fun R hR => ?_ | refine awp_draw mixed (by kernel_rfl) (by kernel_rfl) fun R hR => ?_); simp only [go_sem, s3, s7, s8, s9, hz]) | ((first | (refine hR _ ?_; clear hR R) | refine awp_skip ?_ | refine awp_exit ?_ | refine awp_ret ?_); try simp only [thenA, inBlockA, reduceIte, reduceCtorEq, Nat.reduceEqDiff, if_false, if_true]) | ((first | refine hK _ ?_ | (clear hK K; first | refine hK _ ?_ | (clear hK K; first | refine hK _ ?_ | (clear hK K; first | refine hK _ ?_ | (clear hK K; refine hK _ ?_))))); clear hK K) | refine awp_true rfl rfl ?_ | refine awp_false rfl rfl ?_ | refine awp_block ?_ | refine And.intro (by first | ((repeat' first | omega | exact trivial | rfl | assumption | (intro a e; subst e; rfl) | exact map_sz fun a => (by simp only [go_sem]) | refine And.intro ?_ ?_); done) | fail) ?_ | fail)
      refine ret_mapE (q := (k + 1, 0)) (by simp only [Try.results34, resOkL, resOk, Try.ntmps34, List.toList_toArray]; decide) (by simp only [resA, resV, Try.results34, go_sem, s3]) (.map rfl) (by simp only; omega) hn1 hn2 ?_ ?_
      · simp only [go_sem, sh, hne]
      · exact (by repeat (first | exact Fr.rfl' _ _ | assumption | refine Fr.updk ?_ (by omega) _))
def applyAns (g : List Int) (b : Bs) (t : Tm) : Tm × Int := if bOk g b ≠ 0 then (tm0, bOk g b) else if own g t ≠ 0 then (tm0, own g t) else rawAns b t
theorem apply_bad {g : List Int} {b : Bs} {t : Tm} {c : Int} (hs : sigOk g = 0) (h : bOkL g none b = c) (hc : c ≠ 0) : applyAns g b t = (tm0, c) := by
  have h2 : bOk g b = c := by unfold bOk; rw [if_neg (by simp [hs])]; exact h
  unfold applyAns
  rw [h2, if_pos hc]
set_option maxHeartbeats 8000000 in
set_option maxRecDepth 20000 in
theorem sapply_tri (g : List Int) (b : Bs) (t : Tm) (hb : b.length ≤ 4000000) : Tri Try.prog 8 [.d (sgDV g), .d (bsDV b), .d (tmDV t)] (pure' (.tup [.d (tmDV (applyAns g b t).1), iA (applyAns g b t).2])) := by
  refine tri_enter Try.func8 rfl Try.ntmps8 (by simp only [List.length_cons, List.length_nil]; omega) fun w0 h0 k hrd hwr => ?_
  refine awp_new fun hnew => ?_
  have hnn : NoNew h0 k := hnew
  have hnn := hnn.at
  cases hs : (sigOk g != 0) with
  | true =>
    have e0 : applyAns g b t = (tm0, sigOk g) := by
      have h1 : sigOk g ≠ 0 := by simpa using hs
      have h2 : bOk g b = sigOk g := by unfold bOk; rw [if_pos h1]
      unfold applyAns
      rw [h2, if_pos h1]
    rw [e0]
    repeat' (first | refine awp_seq_k fun K hK => ?_ | ((first | refine awp_region_k (by kernel_rfl) fun R hR => ?_ | refine awp_draw mixed (by kernel_rfl) (by kernel_rfl) fun R hR => ?_); simp only [go_sem, hs]) | ((first | (refine hR _ ?_; clear hR R) | refine awp_skip ?_ | refine awp_exit ?_ | refine awp_ret ?_); try simp only [thenA, inBlockA, reduceIte, reduceCtorEq, Nat.reduceEqDiff, if_false, if_true]) | ((first | refine hK _ ?_ | (clear hK K; first | refine hK _ ?_ | (clear hK K; first | refine hK _ ?_ | (clear hK K; first | refine hK _ ?_ | (clear hK K; refine hK _ ?_))))); clear hK K) | refine awp_true rfl rfl ?_ | refine awp_false rfl rfl ?_ | refine awp_block ?_ | ((first | refine CallK.pure (enter31) (signature_tri (g := g)) ?_ ?_ | refine CallD.pure (enter31) (signature_tri (g := g)) ?_ ?_); (focus first | ((repeat (first | exact trivial | refine ⟨(by first | exact Or.inl rfl | exact Or.inr rfl), ?_⟩)); done) | (simp only [coL, AV.dat, true_or, or_true, AV.d.injEq, go_sem]; done)); simp only [go_sem, hs]) | refine And.intro (by first | ((repeat' first | omega | exact trivial | rfl | assumption | (intro a e; subst e; rfl) | exact map_sz fun a => (by simp only [go_sem]) | refine And.intro ?_ ?_); done) | fail) ?_ | fail)
    (first | refine ret_pure ?_ ?_ ?_ | refine ret_ro ?_ ?_ ?_); focus exact (by simp only [Try.results8, resOkL, resOk, Try.ntmps8, List.toList_toArray]; first | decide | (simp only [go_sem]; done) | (simp only [go_sem]; and_intros <;> first | omega | rfl | decide))
    rotate_left; focus exact (by repeat (first | exact Fr.rfl' _ _ | assumption | refine Fr.updk ?_ (by omega) _))
    simp only [resA, resV, Try.results8, go_sem]
    all_goals try (first | exact Co.t2 (.dat rfl) (.dat rfl) | exact Co.t3 (.dat rfl) (.dat rfl) (.dat rfl))
    all_goals exact .t2 (co_tm rfl) (.dat rfl)
  | false =>
    have hs0 : sigOk g = 0 := by simpa using hs
    have hbo : bOk g b = bOkL g none b := by unfold bOk; rw [if_neg (by simp [hs0])]
    repeat' (first | refine awp_seq_k fun K hK => ?_ | ((first | refine awp_region_k (by kernel_rfl) fun R hR => ?_ | refine awp_draw mixed (by kernel_rfl) (by kernel_rfl) fun R hR => ?_); simp only [go_sem, hs]) | ((first | (refine hR _ ?_; clear hR R) | refine awp_skip ?_ | refine awp_exit ?_ | refine awp_ret ?_); try simp only [thenA, inBlockA, reduceIte, reduceCtorEq, Nat.reduceEqDiff, if_false, if_true]) | ((first | refine hK _ ?_ | (clear hK K; first | refine hK _ ?_ | (clear hK K; first | refine hK _ ?_ | (clear hK K; first | refine hK _ ?_ | (clear hK K; refine hK _ ?_))))); clear hK K) | refine awp_true rfl rfl ?_ | refine awp_false rfl rfl ?_ | refine awp_block ?_ | ((first | refine CallK.pure (enter31) (signature_tri (g := g)) ?_ ?_ | refine CallD.pure (enter31) (signature_tri (g := g)) ?_ ?_); (focus first | ((repeat (first | exact trivial | refine ⟨(by first | exact Or.inl rfl | exact Or.inr rfl), ?_⟩)); done) | (simp only [coL, AV.dat, true_or, or_true, AV.d.injEq, go_sem]; done)); simp only [go_sem, hs]) | refine And.intro (by first | ((repeat' first | omega | exact trivial | rfl | assumption | (intro a e; subst e; rfl) | exact map_sz fun a => (by simp only [go_sem]) | refine And.intro ?_ ?_); done) | fail) ?_ | fail)
    refine awp_loop (fun σ => ∃ i : Nat, σ.t 1 = .d (bsDV b) ∧ σ.t 3 = .ptr (k, 0) 0 ∧ σ.t 5 = .ptr (k, 1) 0 ∧ σ.t 6 = .ptr (k, 2) 0 ∧ σ.t 19 = .d (bsDV b) ∧ σ.t 20 = iA b.length ∧ σ.t 21 = iA i ∧ σ.h (k, 0) = some (.cells 24 [.d (.sl (g.map iD))]) ∧ σ.h (k, 1) = some (.cells 28 [iA t.v, iA t.f, .d (.sl (t.us.map tmDV))]) ∧ σ.h (k, 2) = some (.cells 28 [iA 0, iA 0, .nil]) ∧ Fr k h0 σ.h ∧ k < σ.k ∧ i ≤ b.length ∧ bOkL g (prevOf b i) (b.drop i) = bOkL g none b) (fun σ => b.length - (intOf' (σ.t 21)).toNat) ?_ ?_
    · refine ⟨0, ?_⟩
      simp only [go_sem, List.drop_zero, List.length_map]
      and_intros; all_goals try (first | rfl | omega | assumption | ((repeat (first | exact Fr.rfl' _ _ | assumption | refine Fr.updk ?_ (by omega) _)); done))
    · rintro σ ⟨i, s1, s3, s5, s6, s19, s20, s21, sg, st, sz, hF, hk, hi, hv⟩
      have hne := ltne hk
      rcases Nat.lt_or_ge i b.length with hlt | hge
      · have hz : (i : Int) < (b.length : Int) := by omega
        have e1 : (b.map bdDV).getD i default = bdDV b[i] := nth_map bdDV hlt _
        rw [bOkL_at hlt] at hv
        have hT := own_tri (g := g) (t := b[i].2)
        unfold bAt at hv
        cases h1 : decide (b[i].1 < 1) with
        | true =>
          have hr : b[i].1 < 1 ∨ b[i].1 > 1000 := .inl (by simpa using h1)
          rw [if_pos hr, if_pos (by simp)] at hv
          rw [apply_bad hs0 hv.symm (by simp)]
          repeat' (first | refine awp_seq_k fun K hK => ?_ | ((first | refine awp_region_k (by kernel_rfl) fun R hR => ?_ | refine awp_draw mixed (by kernel_rfl) (by kernel_rfl) fun R hR => ?_); simp only [go_sem, s1, s3, s5, s6, s19, s20, s21, sg, st, sz, hz, e1, hne, Int.toNat_natCast, h1]) | ((first | (refine hR _ ?_; clear hR R) | refine awp_skip ?_ | refine awp_exit ?_ | refine awp_ret ?_); try simp only [thenA, inBlockA, reduceIte, reduceCtorEq, Nat.reduceEqDiff, if_false, if_true]) | ((first | refine hK _ ?_ | (clear hK K; first | refine hK _ ?_ | (clear hK K; first | refine hK _ ?_ | (clear hK K; first | refine hK _ ?_ | (clear hK K; refine hK _ ?_))))); clear hK K) | refine awp_true rfl rfl ?_ | refine awp_false rfl rfl ?_ | refine awp_block ?_ | refine And.intro (by first | ((repeat' first | omega | exact trivial | rfl | assumption | (intro a e; subst e; rfl) | exact map_sz fun a => (by simp only [go_sem]) | refine And.intro ?_ ?_); done) | fail) ?_ | fail)
          (first | refine ret_pure ?_ ?_ ?_ | refine ret_ro ?_ ?_ ?_); focus exact (by simp only [Try.results8, resOkL, resOk, Try.ntmps8, List.toList_toArray]; first | decide | (simp only [go_sem, s6, hne, sz]; done) | (simp only [go_sem, s6, hne, sz]; and_intros <;> first | omega | rfl | decide))
          rotate_left; focus exact (by repeat (first | exact Fr.rfl' _ _ | assumption | refine Fr.updk ?_ (by omega) _))
          simp only [resA, resV, Try.results8, go_sem, s6, hne, sz]
          all_goals try (first | exact Co.t2 (.dat rfl) (.dat rfl) | exact Co.t3 (.dat rfl) (.dat rfl) (.dat rfl))
          all_goals exact .t2 (co_tm rfl) (.dat rfl)
        | false =>
          cases h2 : decide (b[i].1 > 1000) with
          | true =>
            have hr : b[i].1 < 1 ∨ b[i].1 > 1000 := .inr (by simpa using h2)
            rw [if_pos hr, if_pos (by simp)] at hv
            rw [apply_bad hs0 hv.symm (by simp)]
            repeat' (first | refine awp_seq_k fun K hK => ?_ | ((first | refine awp_region_k (by kernel_rfl) fun R hR => ?_ | refine awp_draw mixed (by kernel_rfl) (by kernel_rfl) fun R hR => ?_); simp only [go_sem, s1, s3, s5, s6, s19, s20, s21, sg, st, sz, hz, e1, hne, Int.toNat_natCast, h1, h2]) | ((first | (refine hR _ ?_; clear hR R) | refine awp_skip ?_ | refine awp_exit ?_ | refine awp_ret ?_); try simp only [thenA, inBlockA, reduceIte, reduceCtorEq, Nat.reduceEqDiff, if_false, if_true]) | ((first | refine hK _ ?_ | (clear hK K; first | refine hK _ ?_ | (clear hK K; first | refine hK _ ?_ | (clear hK K; first | refine hK _ ?_ | (clear hK K; refine hK _ ?_))))); clear hK K) | refine awp_true rfl rfl ?_ | refine awp_false rfl rfl ?_ | refine awp_block ?_ | refine And.intro (by first | ((repeat' first | omega | exact trivial | rfl | assumption | (intro a e; subst e; rfl) | exact map_sz fun a => (by simp only [go_sem]) | refine And.intro ?_ ?_); done) | fail) ?_ | fail)
            (first | refine ret_pure ?_ ?_ ?_ | refine ret_ro ?_ ?_ ?_); focus exact (by simp only [Try.results8, resOkL, resOk, Try.ntmps8, List.toList_toArray]; first | decide | (simp only [go_sem, s6, hne, sz]; done) | (simp only [go_sem, s6, hne, sz]; and_intros <;> first | omega | rfl | decide))
            rotate_left; focus exact (by repeat (first | exact Fr.rfl' _ _ | assumption | refine Fr.updk ?_ (by omega) _))
            simp only [resA, resV, Try.results8, go_sem, s6, hne, sz]
            all_goals try (first | exact Co.t2 (.dat rfl) (.dat rfl) | exact Co.t3 (.dat rfl) (.dat rfl) (.dat rfl))
            all_goals exact .t2 (co_tm rfl) (.dat rfl)
          | false =>
            have hr : ¬ (b[i].1 < 1 ∨ b[i].1 > 1000) := by simp at h1 h2; omega
            rw [if_neg hr] at hv
            by_cases h0i : i = 0
            · subst h0i
              rw [prev_zero] at hv
              simp only [Bool.false_eq_true, if_false] at hv
              cases ho : (own g b[0].2 != 0) with
              | true =>
                rw [if_pos (by simpa using ho)] at hv
                rw [apply_bad hs0 hv.symm (by simpa using ho)]
                repeat' (first | refine awp_seq_k fun K hK => ?_ | ((first | refine awp_region_k (by kernel_rfl) fun R hR => ?_ | refine awp_draw mixed (by kernel_rfl) (by kernel_rfl) fun R hR => ?_); simp only [go_sem, s1, s3, s5, s6, s19, s20, s21, sg, st, sz, hz, e1, hne, Int.toNat_natCast, h1, h2, Int.toNat_zero, ho]) | ((first | (refine hR _ ?_; clear hR R) | refine awp_skip ?_ | refine awp_exit ?_ | refine awp_ret ?_); try simp only [thenA, inBlockA, reduceIte, reduceCtorEq, Nat.reduceEqDiff, if_false, if_true]) | ((first | refine hK _ ?_ | (clear hK K; first | refine hK _ ?_ | (clear hK K; first | refine hK _ ?_ | (clear hK K; first | refine hK _ ?_ | (clear hK K; refine hK _ ?_))))); clear hK K) | refine awp_true rfl rfl ?_ | refine awp_false rfl rfl ?_ | refine awp_block ?_ | ((first | refine CallK.pure (enter32) (hT) ?_ ?_ | refine CallD.pure (enter32) (hT) ?_ ?_); (focus first | ((repeat (first | exact trivial | refine ⟨(by first | exact Or.inl rfl | exact Or.inr rfl), ?_⟩)); done) | (simp only [coL, AV.dat, true_or, or_true, AV.d.injEq, go_sem]; done)); simp only [go_sem, s1, s3, s5, s6, s19, s20, s21, sg, st, sz, hz, e1, hne, Int.toNat_natCast, h1, h2, Int.toNat_zero, ho]) | refine And.intro (by first | ((repeat' first | omega | exact trivial | rfl | assumption | (intro a e; subst e; rfl) | exact map_sz fun a => (by simp only [go_sem]) | refine And.intro ?_ ?_); done) | fail) ?_ | fail)
                (first | refine ret_pure ?_ ?_ ?_ | refine ret_ro ?_ ?_ ?_); focus exact (by simp only [Try.results8, resOkL, resOk, Try.ntmps8, List.toList_toArray]; first | decide | (simp only [go_sem, s6, hne, sz]; done) | (simp only [go_sem, s6, hne, sz]; and_intros <;> first | omega | rfl | decide))
                rotate_left; focus exact (by repeat (first | exact Fr.rfl' _ _ | assumption | refine Fr.updk ?_ (by omega) _))
                simp only [resA, resV, Try.results8, go_sem, s6, hne, sz]
                all_goals try (first | exact Co.t2 (.dat rfl) (.dat rfl) | exact Co.t3 (.dat rfl) (.dat rfl) (.dat rfl))
                all_goals exact .t2 (co_tm rfl) (.dat rfl)
              | false =>
                rw [if_neg (by simpa using ho)] at hv
                repeat' (first | refine awp_seq_k fun K hK => ?_ | ((first | refine awp_region_k (by kernel_rfl) fun R hR => ?_ | refine awp_draw mixed (by kernel_rfl) (by kernel_rfl) fun R hR => ?_); simp only [go_sem, s1, s3, s5, s6, s19, s20, s21, sg, st, sz, hz, e1, hne, Int.toNat_natCast, h1, h2, Int.toNat_zero, ho]) | ((first | (refine hR _ ?_; clear hR R) | refine awp_skip ?_ | refine awp_exit ?_ | refine awp_ret ?_); try simp only [thenA, inBlockA, reduceIte, reduceCtorEq, Nat.reduceEqDiff, if_false, if_true]) | ((first | refine hK _ ?_ | (clear hK K; first | refine hK _ ?_ | (clear hK K; first | refine hK _ ?_ | (clear hK K; first | refine hK _ ?_ | (clear hK K; refine hK _ ?_))))); clear hK K) | refine awp_true rfl rfl ?_ | refine awp_false rfl rfl ?_ | refine awp_block ?_ | ((first | refine CallK.pure (enter32) (hT) ?_ ?_ | refine CallD.pure (enter32) (hT) ?_ ?_); (focus first | ((repeat (first | exact trivial | refine ⟨(by first | exact Or.inl rfl | exact Or.inr rfl), ?_⟩)); done) | (simp only [coL, AV.dat, true_or, or_true, AV.d.injEq, go_sem]; done)); simp only [go_sem, s1, s3, s5, s6, s19, s20, s21, sg, st, sz, hz, e1, hne, Int.toNat_natCast, h1, h2, Int.toNat_zero, ho]) | refine And.intro (by first | ((repeat' first | omega | exact trivial | rfl | assumption | (intro a e; subst e; rfl) | exact map_sz fun a => (by simp only [go_sem]) | refine And.intro ?_ ?_); done) | fail) ?_ | fail)
                refine ⟨⟨0 + 1, ?_⟩, ?_⟩
                rotate_left
                · simp only [go_sem, s1, s3, s5, s6, s19, s20, s21, sg, st, sz, hne]; omega
                simp only [go_sem, s1, s3, s5, s6, s19, s20, s21, sg, st, sz, hne]
                and_intros; all_goals try (first | rfl | omega | assumption | ((repeat (first | exact Fr.rfl' _ _ | assumption | refine Fr.updk ?_ (by omega) _)); done))
            · obtain ⟨i', rfl⟩ : ∃ i', i = i' + 1 := ⟨i - 1, by omega⟩
              have hq : ((i' + 1 : Nat) : Int) - 1 = (i' : Int) := by omega
              have hz0 : ((i' + 1 : Nat) : Int) > 0 := by omega
              have hz1 : (i' : Int) < (b.length : Int) := by omega
              have e2 : (b.map bdDV).getD i' default = bdDV b[i'] := nth_map bdDV (by omega) _
              rw [prev_succ b (by omega) (by omega)] at hv
              have e3 : i' + 1 - 1 = i' := rfl
              simp only [e3] at hv
              cases hc : decide (b[i' + 1].1 ≤ b[i'].1) with
              | true =>
                rw [hc] at hv
                rw [if_pos rfl, if_pos (by simp)] at hv
                rw [apply_bad hs0 hv.symm (by simp)]
                repeat' (first | refine awp_seq_k fun K hK => ?_ | ((first | refine awp_region_k (by kernel_rfl) fun R hR => ?_ | refine awp_draw mixed (by kernel_rfl) (by kernel_rfl) fun R hR => ?_); simp only [go_sem, s1, s3, s5, s6, s19, s20, s21, sg, st, sz, hz, e1, hne, Int.toNat_natCast, h1, h2, hq, hz0, hz1, e2, hc]) | ((first | (refine hR _ ?_; clear hR R) | refine awp_skip ?_ | refine awp_exit ?_ | refine awp_ret ?_); try simp only [thenA, inBlockA, reduceIte, reduceCtorEq, Nat.reduceEqDiff, if_false, if_true]) | ((first | refine hK _ ?_ | (clear hK K; first | refine hK _ ?_ | (clear hK K; first | refine hK _ ?_ | (clear hK K; first | refine hK _ ?_ | (clear hK K; refine hK _ ?_))))); clear hK K) | refine awp_true rfl rfl ?_ | refine awp_false rfl rfl ?_ | refine awp_block ?_ | refine And.intro (by first | ((repeat' first | omega | exact trivial | rfl | assumption | (intro a e; subst e; rfl) | exact map_sz fun a => (by simp only [go_sem]) | refine And.intro ?_ ?_); done) | fail) ?_ | fail)
                (first | refine ret_pure ?_ ?_ ?_ | refine ret_ro ?_ ?_ ?_); focus exact (by simp only [Try.results8, resOkL, resOk, Try.ntmps8, List.toList_toArray]; first | decide | (simp only [go_sem, s6, hne, sz]; done) | (simp only [go_sem, s6, hne, sz]; and_intros <;> first | omega | rfl | decide))
                rotate_left; focus exact (by repeat (first | exact Fr.rfl' _ _ | assumption | refine Fr.updk ?_ (by omega) _))
                simp only [resA, resV, Try.results8, go_sem, s6, hne, sz]
                all_goals try (first | exact Co.t2 (.dat rfl) (.dat rfl) | exact Co.t3 (.dat rfl) (.dat rfl) (.dat rfl))
                all_goals exact .t2 (co_tm rfl) (.dat rfl)
              | false =>
                rw [hc] at hv
                simp only [Bool.false_eq_true, if_false] at hv
                cases ho : (own g b[i' + 1].2 != 0) with
                | true =>
                  rw [if_pos (by simpa using ho)] at hv
                  rw [apply_bad hs0 hv.symm (by simpa using ho)]
                  repeat' (first | refine awp_seq_k fun K hK => ?_ | ((first | refine awp_region_k (by kernel_rfl) fun R hR => ?_ | refine awp_draw mixed (by kernel_rfl) (by kernel_rfl) fun R hR => ?_); simp only [go_sem, s1, s3, s5, s6, s19, s20, s21, sg, st, sz, hz, e1, hne, Int.toNat_natCast, h1, h2, hq, hz0, hz1, e2, hc, ho]) | ((first | (refine hR _ ?_; clear hR R) | refine awp_skip ?_ | refine awp_exit ?_ | refine awp_ret ?_); try simp only [thenA, inBlockA, reduceIte, reduceCtorEq, Nat.reduceEqDiff, if_false, if_true]) | ((first | refine hK _ ?_ | (clear hK K; first | refine hK _ ?_ | (clear hK K; first | refine hK _ ?_ | (clear hK K; first | refine hK _ ?_ | (clear hK K; refine hK _ ?_))))); clear hK K) | refine awp_true rfl rfl ?_ | refine awp_false rfl rfl ?_ | refine awp_block ?_ | ((first | refine CallK.pure (enter32) (hT) ?_ ?_ | refine CallD.pure (enter32) (hT) ?_ ?_); (focus first | ((repeat (first | exact trivial | refine ⟨(by first | exact Or.inl rfl | exact Or.inr rfl), ?_⟩)); done) | (simp only [coL, AV.dat, true_or, or_true, AV.d.injEq, go_sem]; done)); simp only [go_sem, s1, s3, s5, s6, s19, s20, s21, sg, st, sz, hz, e1, hne, Int.toNat_natCast, h1, h2, hq, hz0, hz1, e2, hc, ho]) | refine And.intro (by first | ((repeat' first | omega | exact trivial | rfl | assumption | (intro a e; subst e; rfl) | exact map_sz fun a => (by simp only [go_sem]) | refine And.intro ?_ ?_); done) | fail) ?_ | fail)
                  (first | refine ret_pure ?_ ?_ ?_ | refine ret_ro ?_ ?_ ?_); focus exact (by simp only [Try.results8, resOkL, resOk, Try.ntmps8, List.toList_toArray]; first | decide | (simp only [go_sem, s6, hne, sz]; done) | (simp only [go_sem, s6, hne, sz]; and_intros <;> first | omega | rfl | decide))
                  rotate_left; focus exact (by repeat (first | exact Fr.rfl' _ _ | assumption | refine Fr.updk ?_ (by omega) _))
                  simp only [resA, resV, Try.results8, go_sem, s6, hne, sz]
                  all_goals try (first | exact Co.t2 (.dat rfl) (.dat rfl) | exact Co.t3 (.dat rfl) (.dat rfl) (.dat rfl))
                  all_goals exact .t2 (co_tm rfl) (.dat rfl)
                | false =>
                  rw [if_neg (by simpa using ho)] at hv
                  repeat' (first | refine awp_seq_k fun K hK => ?_ | ((first | refine awp_region_k (by kernel_rfl) fun R hR => ?_ | refine awp_draw mixed (by kernel_rfl) (by kernel_rfl) fun R hR => ?_); simp only [go_sem, s1, s3, s5, s6, s19, s20, s21, sg, st, sz, hz, e1, hne, Int.toNat_natCast, h1, h2, hq, hz0, hz1, e2, hc, ho]) | ((first | (refine hR _ ?_; clear hR R) | refine awp_skip ?_ | refine awp_exit ?_ | refine awp_ret ?_); try simp only [thenA, inBlockA, reduceIte, reduceCtorEq, Nat.reduceEqDiff, if_false, if_true]) | ((first | refine hK _ ?_ | (clear hK K; first | refine hK _ ?_ | (clear hK K; first | refine hK _ ?_ | (clear hK K; first | refine hK _ ?_ | (clear hK K; refine hK _ ?_))))); clear hK K) | refine awp_true rfl rfl ?_ | refine awp_false rfl rfl ?_ | refine awp_block ?_ | ((first | refine CallK.pure (enter32) (hT) ?_ ?_ | refine CallD.pure (enter32) (hT) ?_ ?_); (focus first | ((repeat (first | exact trivial | refine ⟨(by first | exact Or.inl rfl | exact Or.inr rfl), ?_⟩)); done) | (simp only [coL, AV.dat, true_or, or_true, AV.d.injEq, go_sem]; done)); simp only [go_sem, s1, s3, s5, s6, s19, s20, s21, sg, st, sz, hz, e1, hne, Int.toNat_natCast, h1, h2, hq, hz0, hz1, e2, hc, ho]) | refine And.intro (by first | ((repeat' first | omega | exact trivial | rfl | assumption | (intro a e; subst e; rfl) | exact map_sz fun a => (by simp only [go_sem]) | refine And.intro ?_ ?_); done) | fail) ?_ | fail)
                  refine ⟨⟨i' + 1 + 1, ?_⟩, ?_⟩
                  rotate_left
                  · simp only [go_sem, s1, s3, s5, s6, s19, s20, s21, sg, st, sz, hne]; omega
                  simp only [go_sem, s1, s3, s5, s6, s19, s20, s21, sg, st, sz, hne]
                  and_intros; all_goals try (first | rfl | omega | assumption | ((repeat (first | exact Fr.rfl' _ _ | assumption | refine Fr.updk ?_ (by omega) _)); done))
      · have hz : ¬ ((i : Int) < (b.length : Int)) := by omega
        rw [List.drop_eq_nil_of_le hge, bOkL] at hv
        have hb0 : bOkL g none b = 0 := hv.symm
        obtain ⟨k1, _, k3⟩ := bOkL_zero hb0
        have e0 : applyAns g b t = if own g t ≠ 0 then (tm0, own g t) else rawAns b t := by
          unfold applyAns; rw [if_neg (by rw [hbo, hb0]; simp)]
        have hT := own_tri (g := g) (t := t)
        cases ho : (own g t != 0) with
        | true =>
          rw [if_pos (by simpa using ho)] at e0
          repeat' (first | refine awp_seq_k fun K hK => ?_ | ((first | refine awp_region_k (by kernel_rfl) fun R hR => ?_ | refine awp_draw mixed (by kernel_rfl) (by kernel_rfl) fun R hR => ?_); simp only [go_sem, s1, s3, s5, s6, s19, s20, s21, sg, st, sz, hz, hne, ho]) | ((first | (refine hR _ ?_; clear hR R) | refine awp_skip ?_ | refine awp_exit ?_ | refine awp_ret ?_); try simp only [thenA, inBlockA, reduceIte, reduceCtorEq, Nat.reduceEqDiff, if_false, if_true]) | ((first | refine hK _ ?_ | (clear hK K; first | refine hK _ ?_ | (clear hK K; first | refine hK _ ?_ | (clear hK K; first | refine hK _ ?_ | (clear hK K; refine hK _ ?_))))); clear hK K) | refine awp_true rfl rfl ?_ | refine awp_false rfl rfl ?_ | refine awp_block ?_ | ((first | refine CallK.pure (enter32) (hT) ?_ ?_ | refine CallD.pure (enter32) (hT) ?_ ?_); (focus first | ((repeat (first | exact trivial | refine ⟨(by first | exact Or.inl rfl | exact Or.inr rfl), ?_⟩)); done) | (simp only [coL, AV.dat, true_or, or_true, AV.d.injEq, go_sem]; done)); simp only [go_sem, s1, s3, s5, s6, s19, s20, s21, sg, st, sz, hz, hne, ho]) | refine And.intro (by first | ((repeat' first | omega | exact trivial | rfl | assumption | (intro a e; subst e; rfl) | exact map_sz fun a => (by simp only [go_sem]) | refine And.intro ?_ ?_); done) | fail) ?_ | fail)
          (first | refine ret_pure ?_ ?_ ?_ | refine ret_ro ?_ ?_ ?_); focus exact (by simp only [Try.results8, resOkL, resOk, Try.ntmps8, List.toList_toArray]; first | decide | (simp only [go_sem, s6, hne, sz]; done) | (simp only [go_sem, s6, hne, sz]; and_intros <;> first | omega | rfl | decide))
          rotate_left; focus exact (by repeat (first | exact Fr.rfl' _ _ | assumption | refine Fr.updk ?_ (by omega) _))
          simp only [resA, resV, Try.results8, go_sem, s6, hne, sz]
          all_goals try (first | exact Co.t2 (.dat rfl) (.dat rfl) | exact Co.t3 (.dat rfl) (.dat rfl) (.dat rfl))
          all_goals (rw [e0]; exact .t2 (co_tm rfl) (.dat rfl))
        | false =>
          have ho' : own g t = 0 := by simpa using ho
          rw [if_neg (by simp [ho'])] at e0
          have hsz : t.size ≤ 120 := by have := own_parts ho'; rw [parts_len] at this; exact this
          have hbs : ∀ p ∈ b, p.2.size ≤ 4000000 := fun p hp => by have := own_parts (k1 p hp); rw [parts_len] at this; omega
          have hO := of_tri b hb k3 (σ.k + 1 + 1 + 1, 1)
          have hRo : ∀ (k' : Nat) (h : Heap), σ.k + 1 + 1 + 1 < k' → h (σ.k + 1 + 1 + 1, 1) = some (.map (bsE b)) → RoOK k' [((σ.k + 1 + 1 + 1, 1), .map (bsE b))] h := fun k' h h1 e => ⟨fun x hx => by simp only [List.mem_cons, List.not_mem_nil, or_false] at hx; subst hx; exact ⟨h1, e⟩⟩
          have hRw := raw_tri (σ.k + 1 + 1 + 1, 1) b hbs t (by omega)
          refine awp_new fun hnew2 => ?_
          have hnn2 : NoNew σ.h σ.k := hnew2
          have hnn2 := hnn2.at
          repeat' (first | refine awp_seq_k fun K hK => ?_ | ((first | refine awp_region_k (by kernel_rfl) fun R hR => ?_ | refine awp_draw mixed (by kernel_rfl) (by kernel_rfl) fun R hR => ?_); simp only [go_sem, s1, s3, s5, s6, s19, s20, s21, sg, st, sz, hz, hne, ho, hnn2]) | ((first | (refine hR _ ?_; clear hR R) | refine awp_skip ?_ | refine awp_exit ?_ | refine awp_ret ?_); try simp only [thenA, inBlockA, reduceIte, reduceCtorEq, Nat.reduceEqDiff, if_false, if_true]) | ((first | refine hK _ ?_ | (clear hK K; first | refine hK _ ?_ | (clear hK K; first | refine hK _ ?_ | (clear hK K; first | refine hK _ ?_ | (clear hK K; refine hK _ ?_))))); clear hK K) | refine awp_true rfl rfl ?_ | refine awp_false rfl rfl ?_ | refine awp_block ?_ | ((first | refine CallK.pure (enter32) (hT) ?_ ?_ | refine CallD.pure (enter32) (hT) ?_ ?_ | refine CallK.look (enter33) (hRw) ?_ (hRo (σ.k + 1 + 1 + 1 + 1) _ (by omega) (by simp only [go_sem, ])) (Fr.rfl' _ _) ?_ | refine CallD.look (enter33) (hRw) ?_ (hRo (σ.k + 1 + 1 + 1 + 1) _ (by omega) (by simp only [go_sem, ])) (Fr.rfl' _ _) (by first | assumption | exact List.cons_ne_nil _ _) ?_); (focus first | ((repeat (first | exact trivial | refine ⟨(by first | exact Or.inl rfl | exact Or.inr rfl), ?_⟩)); done) | (simp only [coL, AV.dat, true_or, or_true, AV.d.injEq, go_sem]; done)); simp only [go_sem, s1, s3, s5, s6, s19, s20, s21, sg, st, sz, hz, hne, ho, hnn2]) | ((first | refine CallK.eff (enter34) (hO) ?_ ?_ ?_ ?_ | refine CallD.eff (enter34) (hO) ?_ ?_ ?_ ?_); (focus first | ((repeat (first | exact trivial | refine ⟨(by first | exact Or.inl rfl | exact Or.inr rfl), ?_⟩)); done) | (simp only [coL, AV.dat, true_or, or_true, AV.d.injEq, go_sem]; done)); (focus (simp only [go_sem, s1, s3, s5, s6, s19, s20, s21, sg, st, sz, hz, hne, ho, hnn2]; done)); (focus (simp only [go_sem, s1, s3, s5, s6, s19, s20, s21, sg, st, sz, hz, hne, ho, hnn2]; done)); simp only [go_sem, s1, s3, s5, s6, s19, s20, s21, sg, st, sz, hz, hne, ho, hnn2]) | refine And.intro (by first | ((repeat' first | omega | exact trivial | rfl | assumption | (intro a e; subst e; rfl) | exact map_sz fun a => (by simp only [go_sem]) | refine And.intro ?_ ?_); done) | fail) ?_ | fail)
          (first | refine ret_pure ?_ ?_ ?_ | refine ret_ro ?_ ?_ ?_); focus exact (by simp only [Try.results8, resOkL, resOk, Try.ntmps8, List.toList_toArray]; first | decide | (simp only [go_sem, s6, hne, sz]; done) | (simp only [go_sem, s6, hne, sz]; and_intros <;> first | omega | rfl | decide))
          rotate_left; focus exact (by repeat (first | exact Fr.rfl' _ _ | assumption | refine Fr.updk ?_ (by omega) _))
          simp only [resA, resV, Try.results8, go_sem, s6, hne, sz]
          all_goals try (first | exact Co.t2 (.dat rfl) (.dat rfl) | exact Co.t3 (.dat rfl) (.dat rfl) (.dat rfl))
          all_goals (rw [e0]; first | exact .t2 (co_tm' rfl) (.dat rfl) | exact .t2 (.dat rfl) (.dat rfl))
end Go.Proofs.Ytmeekpinkfpnhab
namespace Go.Proofs.Ytmeekpinkfpnhab
open Go.RowKit
set_option maxHeartbeats 2000000 in
set_option maxRecDepth 20000 in
theorem unify1_tri (g : List Int) (n : Nat) (x y : Tm) (p : Int × Tm) (hall : allOk g [x, y] = 0) (hp : p.2.size ≤ 4000000) (hq : (thruT n [p] p.2).size ≤ 4000000) (h1 : oneF n [] x y = some (true, [p])) (s0 s1 : Int) (kn0 kn1 : List (Int × Int)) (h2 : sizeF n [p] x [] = some (s0, kn0)) (h2' : s0 ≤ 120) (h3 : sizeF n [p] p.2 kn0 = some (s1, kn1)) (h3' : s1 ≤ 120) (h4 : thruOk n [p] p.2 = true) :
    Tri Try.prog 16 [.d (sgDV g), .d (tmDV x), .d (tmDV y)] (pure' (.tup [.d (.sl [bdDV (p.1, thruT n [p] p.2)]), bA true, iA 0])) := by
  have hA := all_tri (g := g) (l := [x, y])
  rw [hall] at hA
  refine tri_enter Try.func16 rfl Try.ntmps16 (by simp only [List.length_cons, List.length_nil]; omega) fun w0 h0 k hrd hwr => ?_
  refine awp_new fun hnew => ?_
  have hnn : NoNew h0 k := hnew
  have hnn := hnn.at
  have hB := both1_tri n x y p hp h1 s0 s1 kn0 kn1 h2 h2' h3 h3' h4 (k + 1 + 1 + 1, 2)
  have hL := list1_tri (k + 1 + 1 + 1, 2) (p.1, thruT n [p] p.2) hq
  have hRo : ∀ (h : Heap), h (k + 1 + 1 + 1, 2) = some (.map (bsE [(p.1, thruT n [p] p.2)])) → RoOK (k + 1 + 1 + 1 + 1) [((k + 1 + 1 + 1, 2), .map (bsE [(p.1, thruT n [p] p.2)]))] h := fun h e => ⟨fun x hx => by simp only [List.mem_cons, List.not_mem_nil, or_false] at hx; subst hx; exact ⟨Nat.lt_succ_self _, e⟩⟩
  repeat' (first | refine awp_seq_k fun K hK => ?_ | ((first | refine awp_region_k (by kernel_rfl) fun R hR => ?_ | refine awp_draw mixed (by kernel_rfl) (by kernel_rfl) fun R hR => ?_); simp only [go_sem, hnn, bne_self_eq_false]) | ((first | (refine hR _ ?_; clear hR R) | refine awp_skip ?_ | refine awp_exit ?_ | refine awp_ret ?_); try simp only [thenA, inBlockA, reduceIte, reduceCtorEq, Nat.reduceEqDiff, if_false, if_true]) | ((first | refine hK _ ?_ | (clear hK K; first | refine hK _ ?_ | (clear hK K; first | refine hK _ ?_ | (clear hK K; first | refine hK _ ?_ | (clear hK K; refine hK _ ?_))))); clear hK K) | refine awp_true rfl rfl ?_ | refine awp_false rfl rfl ?_ | refine awp_block ?_ | ((first | refine CallK.pure (enter43) (hA) ?_ ?_ | refine CallD.pure (enter43) (hA) ?_ ?_ | refine CallK.look (enter45) (hL) ?_ (hRo _ (by simp only [go_sem, ])) (Fr.rfl' _ _) ?_ | refine CallD.look (enter45) (hL) ?_ (hRo _ (by simp only [go_sem, ])) (Fr.rfl' _ _) (by first | assumption | exact List.cons_ne_nil _ _) ?_); (focus first | ((repeat (first | exact trivial | refine ⟨(by first | exact Or.inl rfl | exact Or.inr rfl), ?_⟩)); done) | (simp only [coL, AV.dat, true_or, or_true, AV.d.injEq, go_sem]; done)); simp only [go_sem, hnn, bne_self_eq_false]) | ((first | refine CallK.eff (enter46) (hB) ?_ ?_ ?_ ?_ | refine CallD.eff (enter46) (hB) ?_ ?_ ?_ ?_); (focus first | ((repeat (first | exact trivial | refine ⟨(by first | exact Or.inl rfl | exact Or.inr rfl), ?_⟩)); done) | (simp only [coL, AV.dat, true_or, or_true, AV.d.injEq, go_sem]; done)); (focus (simp only [go_sem, hnn, bne_self_eq_false]; done)); (focus (simp only [go_sem, hnn, bne_self_eq_false]; done)); simp only [go_sem, hnn, bne_self_eq_false]) | refine And.intro (by first | ((repeat' first | omega | exact trivial | rfl | assumption | (intro a e; subst e; rfl) | exact map_sz fun a => (by simp only [go_sem]) | refine And.intro ?_ ?_); done) | fail) ?_ | fail)
  (first | refine ret_pure ?_ ?_ ?_ | refine ret_ro ?_ ?_ ?_); focus exact (by simp only [Try.results16, resOkL, resOk, Try.ntmps16, List.toList_toArray]; first | decide | (simp only [go_sem]; done) | (simp only [go_sem]; and_intros <;> first | omega | rfl | decide))
  rotate_left; focus exact (by repeat (first | exact Fr.rfl' _ _ | assumption | refine Fr.updk ?_ (by omega) _ | refine Fr.stH ?_ _ (by intro n hn; simp only [List.mem_cons, List.not_mem_nil, or_false] at hn; subst hn; simp only; omega)))
  simp only [resA, resV, Try.results16, go_sem]
  all_goals try (first | exact Co.t2 (.dat rfl) (.dat rfl) | exact Co.t3 (.dat rfl) (.dat rfl) (.dat rfl))
  all_goals exact .t3 (.dat rfl) (.dat rfl) (.dat rfl)
set_option maxHeartbeats 2000000 in
set_option maxRecDepth 20000 in
theorem match1_tri (g : List Int) (x y : Tm) (p : Int × Tm) (hall : allOk g [x, y] = 0) (hx : x.size ≤ 4000000) (hp : p.2.size ≤ 4000000) (h1 : meet x y [] = (true, [p])) :
    Tri Try.prog 15 [.d (sgDV g), .d (tmDV x), .d (tmDV y)] (pure' (.tup [.d (.sl [bdDV p]), bA true, iA 0])) := by
  have hA := all_tri (g := g) (l := [x, y])
  rw [hall] at hA
  refine tri_enter Try.func15 rfl Try.ntmps15 (by simp only [List.length_cons, List.length_nil]; omega) fun w0 h0 k hrd hwr => ?_
  have hM := meet_tri x hx y (k + 1 + 1 + 1, 0) []
  rw [h1] at hM
  have hL := list1_tri (k + 1 + 1 + 1, 0) p hp
  repeat' (first | refine awp_seq_k fun K hK => ?_ | ((first | refine awp_region_k (by kernel_rfl) fun R hR => ?_ | refine awp_draw mixed (by kernel_rfl) (by kernel_rfl) fun R hR => ?_); simp only [go_sem, bne_self_eq_false]) | ((first | (refine hR _ ?_; clear hR R) | refine awp_skip ?_ | refine awp_exit ?_ | refine awp_ret ?_); try simp only [thenA, inBlockA, reduceIte, reduceCtorEq, Nat.reduceEqDiff, if_false, if_true]) | ((first | refine hK _ ?_ | (clear hK K; first | refine hK _ ?_ | (clear hK K; first | refine hK _ ?_ | (clear hK K; first | refine hK _ ?_ | (clear hK K; refine hK _ ?_))))); clear hK K) | refine awp_true rfl rfl ?_ | refine awp_false rfl rfl ?_ | refine awp_block ?_ | ((first | refine CallK.pure (enter43) (hA) ?_ ?_ | refine CallD.pure (enter43) (hA) ?_ ?_ | refine CallK.chg (enter44) (hM) ?_ (agM _ (by simp only [go_sem, bsE, List.map_nil])) (Fr.rfl' _ _) ?_ | refine CallD.chg (enter44) (hM) ?_ (agM _ (by simp only [go_sem, bsE, List.map_nil])) (Fr.rfl' _ _) (by first | assumption | exact List.cons_ne_nil _ _) ?_ | refine CallK.look (enter45) (hL) ?_ (roM _ (by simp only [go_sem, mtO])) (Fr.rfl' _ _) ?_ | refine CallD.look (enter45) (hL) ?_ (roM _ (by simp only [go_sem, mtO])) (Fr.rfl' _ _) (by first | assumption | exact List.cons_ne_nil _ _) ?_); (focus first | ((repeat (first | exact trivial | refine ⟨(by first | exact Or.inl rfl | exact Or.inr rfl), ?_⟩)); done) | (simp only [coL, AV.dat, true_or, or_true, AV.d.injEq, go_sem]; done)); simp only [go_sem, bne_self_eq_false]) | refine And.intro (by first | ((repeat' first | omega | exact trivial | rfl | assumption | (intro a e; subst e; rfl) | exact map_sz fun a => (by simp only [go_sem]) | refine And.intro ?_ ?_); done) | fail) ?_ | fail)
  (first | refine ret_pure ?_ ?_ ?_ | refine ret_ro ?_ ?_ ?_); focus exact (by simp only [Try.results15, resOkL, resOk, Try.ntmps15, List.toList_toArray]; first | decide | (simp only [go_sem]; done) | (simp only [go_sem]; and_intros <;> first | omega | rfl | decide))
  rotate_left; focus exact (by repeat (first | exact Fr.rfl' _ _ | assumption | refine Fr.updk ?_ (by omega) _ | refine Fr.stH ?_ _ (by intro n hn; simp only [List.mem_cons, List.not_mem_nil, or_false] at hn; subst hn; simp only; omega)))
  simp only [resA, resV, Try.results15, go_sem]
  all_goals try (first | exact Co.t2 (.dat rfl) (.dat rfl) | exact Co.t3 (.dat rfl) (.dat rfl) (.dat rfl))
  all_goals exact .t3 (.dat rfl) (.dat rfl) (.dat rfl)
theorem sb1 : allOk [0, 1] [.mk 0 1 [.mk 2 0 []], .mk 0 1 [.mk 0 0 []]] = 0 := by decide
theorem sb2 : allOk [0, 1] [.mk 0 1 [.mk 1 0 []], .mk 0 1 [.mk 2 0 []]] = 0 := by decide
theorem sb3 : meet (.mk 0 1 [.mk 1 0 []]) (.mk 0 1 [.mk 2 0 []]) [] = (true, [(1, .mk 2 0 [])]) := by rfl
theorem sb4 : applyAns [0, 1] [(2, .mk 0 0 [])] (.mk 2 0 []) = (.mk 0 0 [], 0) := by
  have e1 : bOk [0, 1] [(2, .mk 0 0 [])] = 0 := by decide
  have e2 : own [0, 1] (.mk 2 0 []) = 0 := by decide
  have e3 : apS [(2, .mk 0 0 [])] (pre (.mk 2 0 [])) = 1 := by decide
  have e4 : mapM (madeS [(2, .mk 0 0 [])]) (.mk 2 0 []) = .mk 0 0 [] := rfl
  unfold applyAns rawAns
  rw [if_neg (by simp [e1]), if_neg (by simp [e2]), e3, if_neg (by decide), e4]
set_option maxHeartbeats 4000000 in
set_option maxRecDepth 20000 in
theorem substBegun_tri : Tri Try.prog 13 [] (pure' (bA true)) := by
  have h1 := unify1_tri [0, 1] 5 (.mk 0 1 [.mk 2 0 []]) (.mk 0 1 [.mk 0 0 []]) (2, .mk 0 0 []) sb1 (by decide) (by rw [un_thru]; decide) un_one 2 1 _ _ un_size (by omega) un_size2 (by omega) un_thruOk
  rw [un_thru] at h1
  have h2 := match1_tri [0, 1] (.mk 0 1 [.mk 1 0 []]) (.mk 0 1 [.mk 2 0 []]) (1, .mk 2 0 []) sb2 (by decide) (by decide) sb3
  have h3 := sapply_tri [0, 1] [(2, .mk 0 0 [])] (.mk 2 0 []) (by decide)
  rw [sb4] at h3
  have h4 := sameR_tri (.mk 0 0 []) (.mk 0 0 [])
  rw [same_rfl] at h4
  have e7 : (((1 : Nat) : Int) == 1) = true := rfl
  refine tri_enter Try.func13 rfl Try.ntmps13 (by simp only [List.length_cons, List.length_nil]; omega) fun w0 h0 k hrd hwr => ?_
  repeat' (first | refine awp_seq_k fun K hK => ?_ | ((first | refine awp_region_k (by kernel_rfl) fun R hR => ?_ | refine awp_draw mixed (by kernel_rfl) (by kernel_rfl) fun R hR => ?_); simp only [go_sem, eq_self, beq_self_eq_true, e7, Int.toNat_zero]) | ((first | (refine hR _ ?_; clear hR R) | refine awp_skip ?_ | refine awp_exit ?_ | refine awp_ret ?_); try simp only [thenA, inBlockA, reduceIte, reduceCtorEq, Nat.reduceEqDiff, if_false, if_true]) | ((first | refine hK _ ?_ | (clear hK K; first | refine hK _ ?_ | (clear hK K; first | refine hK _ ?_ | (clear hK K; first | refine hK _ ?_ | (clear hK K; refine hK _ ?_))))); clear hK K) | refine awp_true rfl rfl ?_ | refine awp_false rfl rfl ?_ | refine awp_block ?_ | ((first | refine CallK.pure (enter42) (va_tri 1) ?_ ?_ | refine CallD.pure (enter42) (va_tri 1) ?_ ?_); (focus first | ((repeat (first | exact trivial | refine ⟨(by first | exact Or.inl rfl | exact Or.inr rfl), ?_⟩)); done) | (simp only [coL, AV.dat, true_or, or_true, AV.d.injEq, go_sem]; done)); simp only [go_sem, eq_self, beq_self_eq_true, e7, Int.toNat_zero]) | ((first | refine CallK.pure (enter42) (va_tri 2) ?_ ?_ | refine CallD.pure (enter42) (va_tri 2) ?_ ?_); (focus first | ((repeat (first | exact trivial | refine ⟨(by first | exact Or.inl rfl | exact Or.inr rfl), ?_⟩)); done) | (simp only [coL, AV.dat, true_or, or_true, AV.d.injEq, go_sem]; done)); simp only [go_sem, eq_self, beq_self_eq_true, e7, Int.toNat_zero]) | ((first | refine CallK.pure (enter41) (fn_tri 0 []) ?_ ?_ | refine CallD.pure (enter41) (fn_tri 0 []) ?_ ?_); (focus first | ((repeat (first | exact trivial | refine ⟨(by first | exact Or.inl rfl | exact Or.inr rfl), ?_⟩)); done) | (simp only [coL, AV.dat, true_or, or_true, AV.d.injEq, go_sem]; done)); simp only [go_sem, eq_self, beq_self_eq_true, e7, Int.toNat_zero]) | ((first | refine CallK.pure (enter41) (fn_tri 1 [.mk 2 0 []]) ?_ ?_ | refine CallD.pure (enter41) (fn_tri 1 [.mk 2 0 []]) ?_ ?_); (focus first | ((repeat (first | exact trivial | refine ⟨(by first | exact Or.inl rfl | exact Or.inr rfl), ?_⟩)); done) | (simp only [coL, AV.dat, true_or, or_true, AV.d.injEq, go_sem]; done)); simp only [go_sem, eq_self, beq_self_eq_true, e7, Int.toNat_zero]) | ((first | refine CallK.pure (enter41) (fn_tri 1 [.mk 1 0 []]) ?_ ?_ | refine CallD.pure (enter41) (fn_tri 1 [.mk 1 0 []]) ?_ ?_); (focus first | ((repeat (first | exact trivial | refine ⟨(by first | exact Or.inl rfl | exact Or.inr rfl), ?_⟩)); done) | (simp only [coL, AV.dat, true_or, or_true, AV.d.injEq, go_sem]; done)); simp only [go_sem, eq_self, beq_self_eq_true, e7, Int.toNat_zero]) | ((first | refine CallK.pure (enter41) (fn_tri 1 [.mk 0 0 []]) ?_ ?_ | refine CallD.pure (enter41) (fn_tri 1 [.mk 0 0 []]) ?_ ?_); (focus first | ((repeat (first | exact trivial | refine ⟨(by first | exact Or.inl rfl | exact Or.inr rfl), ?_⟩)); done) | (simp only [coL, AV.dat, true_or, or_true, AV.d.injEq, go_sem]; done)); simp only [go_sem, eq_self, beq_self_eq_true, e7, Int.toNat_zero]) | ((first | refine CallK.pure (enter40) (small_tri) ?_ ?_ | refine CallD.pure (enter40) (small_tri) ?_ ?_ | refine CallK.pure (enter16) (h1) ?_ ?_ | refine CallD.pure (enter16) (h1) ?_ ?_ | refine CallK.pure (enter15) (h2) ?_ ?_ | refine CallD.pure (enter15) (h2) ?_ ?_ | refine CallK.pure (enter8) (h3) ?_ ?_ | refine CallD.pure (enter8) (h3) ?_ ?_ | refine CallK.pure (enter22) (h4) ?_ ?_ | refine CallD.pure (enter22) (h4) ?_ ?_); (focus first | ((repeat (first | exact trivial | refine ⟨(by first | exact Or.inl rfl | exact Or.inr rfl), ?_⟩)); done) | (simp only [coL, AV.dat, true_or, or_true, AV.d.injEq, go_sem]; done)); simp only [go_sem, eq_self, beq_self_eq_true, e7, Int.toNat_zero]) | refine And.intro (by first | ((repeat' first | omega | exact trivial | rfl | assumption | (intro a e; subst e; rfl) | exact map_sz fun a => (by simp only [go_sem]) | refine And.intro ?_ ?_); done) | fail) ?_ | fail)
  (first | refine ret_pure ?_ ?_ ?_ | refine ret_ro ?_ ?_ ?_); focus exact (by simp only [Try.results13, resOkL, resOk, Try.ntmps13, List.toList_toArray]; first | decide | (simp only [go_sem]; done) | (simp only [go_sem]; and_intros <;> first | omega | rfl | decide))
  rotate_left; focus exact (by repeat (first | exact Fr.rfl' _ _ | assumption | refine Fr.updk ?_ (by omega) _ | refine Fr.stH ?_ _ (by intro n hn; simp only [List.mem_cons, List.not_mem_nil, or_false] at hn; subst hn; simp only; omega)))
  simp only [resA, resV, Try.results13, go_sem]
  all_goals try (first | exact Co.t2 (.dat rfl) (.dat rfl) | exact Co.t3 (.dat rfl) (.dat rfl) (.dat rfl))
  exact .dat rfl
end Go.Proofs.Ytmeekpinkfpnhab
namespace Go.Proofs.Ytmeekpinkfpnhab
open Go.RowKit
section
variable {P : Program} {w0 : World} {n : Nat} {Q : Exit → St → Prop} {s : St}
theorem ghost_boxN {b : Nm} {e e' : TypeId} {cs : List AV} (j : Nat) (hb : s.h b = some (.cells e' cs)) (hj : cs[j]? = some .nil) : Ghost P w0 n s ⟨s.t, upd (upd s.h (s.k, 0) (some (.perm e 0))) b (some (.cells e' (cs.set j (.own (s.k, 0) [])))), s.k + 1⟩ := by
  intro m β a w h1 h2 h3
  have hn : β (s.k, 0) = none := by
    cases hn : β (s.k, 0) with
    | none => rfl
    | some p => have := h2.dom _ _ hn; simp at this
  have hle := updB_le (le_new (p := ⟨0, 0, some 0⟩) hn)
  have H1 := (h2.tick (Nat.le_succ s.k)).perm0 hn (Nat.lt_succ_self _) e 0 0
  obtain ⟨p, hp, hv, c, c1, c2, c3, c4⟩ := h2.obj b _ hb
  have hbk : b.1 < s.k := h2.dom b p hp
  have hbn : b ≠ (s.k, 0) := fun e => by rw [e] at hbk; simp at hbk
  have hp' : updB β (s.k, 0) ⟨0, 0, some 0⟩ b = some p := (updB_ne _ _ hbn).trans hp
  have hB : w0.heap.size ≤ p.1 := h2.new b p _ hp hb trivial
  have eβ : updB (updB β (s.k, 0) ⟨0, 0, some 0⟩) b p = updB β (s.k, 0) ⟨0, 0, some 0⟩ := by
    funext y; unfold updB; split
    · subst_vars; rw [if_neg hbn]; exact hp.symm
    · rfl
  have H2 := H1.upd1 (n := b) (p := p) (ob := .cells e' (cs.set j (.own (s.k, 0) []))) (m' := m) (w' := w) (le_old hp') (Nat.lt_succ_of_lt hbk) H1.ext (.rfl' m) H1.mem ?_ (fun _ => hB) ?_
  · rw [eβ] at H2
    exact ⟨m, _, Nat.le_succ _, ⟨.rfl' m, hle, H2, h3.mono (.rfl' m) hle⟩, fun x hx => updB_none fun e => by subst e; simp at hx⟩
  · rw [eβ]
    refine ⟨hv, c, c1, by simpa using c2, fun i v x hi hx => ?_, c4⟩
    rw [List.getElem?_set] at hx
    by_cases hij : j = i
    · subst hij
      obtain ⟨k1, k2⟩ := c3 j v .nil hi hj
      rw [if_pos rfl] at hx
      split at hx
      · cases hx
        refine ⟨k1, ?_⟩
        cases k2 with
        | nil => exact .own (p := ⟨0, 0, some 0⟩) (v := 0) .nil (updB_self _ _ _) rfl (Nat.le_refl _) fun _ => ⟨none, rfl, .inl ⟨rfl, rfl⟩⟩
      · cases hx
    · rw [if_neg hij] at hx
      obtain ⟨k1, k2⟩ := c3 i v x hi hx
      exact ⟨k1, k2.mono (.rfl' m) hle⟩
  · intro x p' ob' hx hob hpx hr
    refine ⟨fun _ => ?_, rfl, fun _ => rfl⟩
    by_cases hxk : x = (s.k, 0)
    · subst hxk
      rw [upd_self] at hob; cases hob
      rw [updB_self] at hpx; cases hpx
      exact absurd ⟨rfl, rfl⟩ hr
    · rw [upd_ne _ _ hxk] at hob
      rw [updB_ne _ _ hxk] at hpx
      exact fun e => hx (h2.inj x b p' p ob' _ hob hb hpx hp hr trivial e)
end
end Go.Proofs.Ytmeekpinkfpnhab
namespace Go.Proofs.Ytmeekpinkfpnhab
open Go.RowKit
def ApSpec (bs : Bs) (t : Tm) : Prop := t.size ≤ 4000000 → Tri Try.prog 12 [.d (bsDV bs), .d (tmDV t)] (pure' (.d (tmDV (applyR bs t))))
theorem applyRL_take {bs : Bs} {us : List Tm} {i : Nat} (hi : i < us.length) : applyRL bs (us.take (i + 1)) = applyRL bs (us.take i) ++ [applyR bs us[i]] := by
  rw [applyRL_map, applyRL_map, List.take_succ_eq_append_getElem hi, List.map_append]; rfl
set_option maxHeartbeats 1000000 in
set_option maxRecDepth 20000 in
theorem apply_step (bs : Bs) (hbs : bs.length ≤ 4000000) (t : Tm) (ih : ∀ u ∈ t.us, ApSpec bs u) : ApSpec bs t := by
  intro hsz
  have hlen := t.len_lt
  rw [applyR_eq]
  refine tri_enter Try.func12 rfl Try.ntmps12 (by simp only [List.length_cons, List.length_nil]; omega) fun w0 h0 k hrd hwr => ?_
  cases hv : decide (t.v > 0) with
  | true =>
    have hv' : t.v > 0 := by simpa using hv
    rw [if_pos hv']
    have hbt := boundTo_tri bs hbs t.v
    rcases idxB_look t.v bs 0 with ⟨h1, h2⟩ | ⟨j, hj, h1, h2⟩
    · rw [h1] at hbt
      rw [h2]
      dsimp only
      have hm1 : decide ((-1 : Int) ≥ 0) = false := rfl
      repeat' (first | refine awp_seq_k fun K hK => ?_ | ((first | refine awp_region_k (by kernel_rfl) fun R hR => ?_ | refine awp_draw mixed (by kernel_rfl) (by kernel_rfl) fun R hR => ?_); simp only [go_sem, hv, hm1]) | ((first | (refine hR _ ?_; clear hR R) | refine awp_skip ?_ | refine awp_exit ?_ | refine awp_ret ?_); try simp only [thenA, inBlockA, reduceIte, reduceCtorEq, Nat.reduceEqDiff, if_false, if_true]) | ((first | refine hK _ ?_ | (clear hK K; first | refine hK _ ?_ | (clear hK K; first | refine hK _ ?_ | (clear hK K; first | refine hK _ ?_ | (clear hK K; refine hK _ ?_))))); clear hK K) | refine awp_true rfl rfl ?_ | refine awp_false rfl rfl ?_ | refine awp_block ?_ | ((first | refine CallK.pure (enter39) (hbt) ?_ ?_ | refine CallD.pure (enter39) (hbt) ?_ ?_); (focus first | ((repeat (first | exact trivial | refine ⟨(by first | exact Or.inl rfl | exact Or.inr rfl), ?_⟩)); done) | (simp only [coL, AV.dat, true_or, or_true, AV.d.injEq, go_sem]; done)); simp only [go_sem, hv, hm1]) | refine And.intro (by first | ((repeat' first | omega | exact trivial | rfl | assumption | (intro a e; subst e; rfl) | exact map_sz fun a => (by simp only [go_sem]) | refine And.intro ?_ ?_); done) | fail) ?_ | fail)
      (first | refine ret_pure ?_ ?_ ?_ | refine ret_ro ?_ ?_ ?_); focus exact (by simp only [Try.results12, resOkL, resOk, Try.ntmps12, List.toList_toArray]; first | decide | (simp only [go_sem]; done) | (simp only [go_sem]; and_intros <;> first | omega | rfl | decide))
      rotate_left; focus exact (by repeat (first | exact Fr.rfl' _ _ | assumption | refine Fr.updk ?_ (by omega) _))
      simp only [resA, resV, Try.results12, go_sem]
      all_goals try (first | exact Co.t2 (.dat rfl) (.dat rfl) | exact Co.t3 (.dat rfl) (.dat rfl) (.dat rfl))
      all_goals exact co_tm' rfl
    · rw [h1] at hbt
      rw [h2]
      dsimp only
      have hj0 : (((0 + j : Nat) : Int)) = (j : Int) := by omega
      rw [hj0] at hbt
      have hjn : decide ((j : Int) ≥ 0) = true := by simp
      have hz : (j : Int) < (bs.length : Int) := by omega
      have e1 : (bs.map bdDV).getD j default = bdDV bs[j] := nth_map bdDV hj _
      repeat' (first | refine awp_seq_k fun K hK => ?_ | ((first | refine awp_region_k (by kernel_rfl) fun R hR => ?_ | refine awp_draw mixed (by kernel_rfl) (by kernel_rfl) fun R hR => ?_); simp only [go_sem, hv, hjn, hz, e1, Int.toNat_natCast]) | ((first | (refine hR _ ?_; clear hR R) | refine awp_skip ?_ | refine awp_exit ?_ | refine awp_ret ?_); try simp only [thenA, inBlockA, reduceIte, reduceCtorEq, Nat.reduceEqDiff, if_false, if_true]) | ((first | refine hK _ ?_ | (clear hK K; first | refine hK _ ?_ | (clear hK K; first | refine hK _ ?_ | (clear hK K; first | refine hK _ ?_ | (clear hK K; refine hK _ ?_))))); clear hK K) | refine awp_true rfl rfl ?_ | refine awp_false rfl rfl ?_ | refine awp_block ?_ | ((first | refine CallK.pure (enter39) (hbt) ?_ ?_ | refine CallD.pure (enter39) (hbt) ?_ ?_); (focus first | ((repeat (first | exact trivial | refine ⟨(by first | exact Or.inl rfl | exact Or.inr rfl), ?_⟩)); done) | (simp only [coL, AV.dat, true_or, or_true, AV.d.injEq, go_sem]; done)); simp only [go_sem, hv, hjn, hz, e1, Int.toNat_natCast]) | refine And.intro (by first | ((repeat' first | omega | exact trivial | rfl | assumption | (intro a e; subst e; rfl) | exact map_sz fun a => (by simp only [go_sem]) | refine And.intro ?_ ?_); done) | fail) ?_ | fail)
      (first | refine ret_pure ?_ ?_ ?_ | refine ret_ro ?_ ?_ ?_); focus exact (by simp only [Try.results12, resOkL, resOk, Try.ntmps12, List.toList_toArray]; first | decide | (simp only [go_sem]; done) | (simp only [go_sem]; and_intros <;> first | omega | rfl | decide))
      rotate_left; focus exact (by repeat (first | exact Fr.rfl' _ _ | assumption | refine Fr.updk ?_ (by omega) _))
      simp only [resA, resV, Try.results12, go_sem]
      all_goals try (first | exact Co.t2 (.dat rfl) (.dat rfl) | exact Co.t3 (.dat rfl) (.dat rfl) (.dat rfl))
      all_goals exact co_tm' rfl
  | false =>
    have hv' : ¬ t.v > 0 := by simpa using hv
    rw [if_neg hv']
    repeat' (first | (refine awp_ghost (ghost_boxN (b := (k + 1 + 1, 3)) (e := 28) (e' := 28) (cs := [iA 0, iA t.f, .nil]) 2 ?_ rfl) ?_; (focus (simp only [go_sem, ]; done)); simp only [go_sem]) | refine awp_seq_k fun K hK => ?_ | ((first | refine awp_region_k (by kernel_rfl) fun R hR => ?_ | refine awp_draw mixed (by kernel_rfl) (by kernel_rfl) fun R hR => ?_); simp only [go_sem, hv]) | ((first | (refine hR _ ?_; clear hR R) | refine awp_skip ?_ | refine awp_exit ?_ | refine awp_ret ?_); try simp only [thenA, inBlockA, reduceIte, reduceCtorEq, Nat.reduceEqDiff, if_false, if_true]) | ((first | refine hK _ ?_ | (clear hK K; first | refine hK _ ?_ | (clear hK K; first | refine hK _ ?_ | (clear hK K; first | refine hK _ ?_ | (clear hK K; refine hK _ ?_))))); clear hK K) | refine awp_true rfl rfl ?_ | refine awp_false rfl rfl ?_ | refine awp_block ?_ | refine And.intro (by first | ((repeat' first | omega | exact trivial | rfl | assumption | (intro a e; subst e; rfl) | exact map_sz fun a => (by simp only [go_sem]) | refine And.intro ?_ ?_); done) | fail) ?_ | fail)
    refine awp_loop (fun σ => ∃ i : Nat, σ.t 0 = .d (bsDV bs) ∧ σ.t 3 = .ptr (k, 0) 0 ∧ σ.t 4 = .ptr (k, 1) 0 ∧ σ.t 6 = .ptr (k + 1 + 1, 3) 0 ∧ σ.t 7 = iA i ∧
      σ.h (k, 0) = some (.cells 28 [iA t.v, iA t.f, .d (.sl (t.us.map tmDV))]) ∧ σ.h (k, 1) = some (.cells 28 [iA 0, iA 0, .nil]) ∧ σ.h (k + 1 + 1, 3) = some (.cells 28 [iA 0, iA t.f, .own (k + 1 + 1 + 1, 0) ((applyRL bs (t.us.take i)).map tmDV)]) ∧ σ.h (k + 1 + 1 + 1, 0) = some (.perm 28 (applyRL bs (t.us.take i)).length) ∧ Fr k h0 σ.h ∧ k + 1 + 1 + 1 < σ.k ∧ i ≤ t.us.length) (fun σ => t.us.length - (intOf' (σ.t 7)).toNat) ?_ ?_
    · refine ⟨0, ?_⟩
      simp only [go_sem, List.take_zero, applyRL]
      and_intros; all_goals try (first | rfl | omega | assumption | ((repeat (first | exact Fr.rfl' _ _ | assumption | refine Fr.updk ?_ (by omega) _)); done))
    · rintro σ ⟨i, s0, s3, s4, s6, s7, sh, sh', so, sp, hF, hk, hi⟩
      have hne := ltne (show k < σ.k by omega)
      have hne1 := ltne (show k + 1 + 1 < σ.k by omega)
      have hne2 := ltne hk
      have hml : (applyRL bs (t.us.take i)).length = i := by rw [applyRL_map, List.length_map, List.length_take]; omega
      rcases Nat.lt_or_ge i t.us.length with hlt | hge
      · have hz : (i : Int) < (t.us.length : Int) := by omega
        have e1 : (t.us.map tmDV).getD i default = tmDV t.us[i] := nth_map tmDV hlt _
        have hs := Tm.size_at hlt
        have h2 := ih _ (List.getElem_mem hlt) (by omega)
        have etk : (applyRL bs (t.us.take i)).map tmDV ++ [tmDV (applyR bs t.us[i])] = (applyRL bs (t.us.take (i + 1))).map tmDV := by rw [applyRL_take hlt]; simp
        have hml' : (applyRL bs (t.us.take (i + 1))).length = i + 1 := by rw [applyRL_map, List.length_map, List.length_take]; omega
        repeat' (first | refine awp_seq_k fun K hK => ?_ | ((first | refine awp_region_k (by kernel_rfl) fun R hR => ?_ | refine awp_draw mixed (by kernel_rfl) (by kernel_rfl) fun R hR => ?_); simp only [go_sem, s0, s3, s4, s6, s7, sh, sh', so, sp, hz, e1, hne, hne1, hne2, hml, List.length_map, Int.toNat_natCast]) | ((first | (refine hR _ ?_; clear hR R) | refine awp_skip ?_ | refine awp_exit ?_ | refine awp_ret ?_); try simp only [thenA, inBlockA, reduceIte, reduceCtorEq, Nat.reduceEqDiff, if_false, if_true]) | ((first | refine hK _ ?_ | (clear hK K; first | refine hK _ ?_ | (clear hK K; first | refine hK _ ?_ | (clear hK K; first | refine hK _ ?_ | (clear hK K; refine hK _ ?_))))); clear hK K) | refine awp_true rfl rfl ?_ | refine awp_false rfl rfl ?_ | refine awp_block ?_ | ((first | refine CallK.pure (enter12) (h2) ?_ ?_ | refine CallD.pure (enter12) (h2) ?_ ?_); (focus first | ((repeat (first | exact trivial | refine ⟨(by first | exact Or.inl rfl | exact Or.inr rfl), ?_⟩)); done) | (simp only [coL, AV.dat, true_or, or_true, AV.d.injEq, go_sem]; done)); simp only [go_sem, s0, s3, s4, s6, s7, sh, sh', so, sp, hz, e1, hne, hne1, hne2, hml, List.length_map, Int.toNat_natCast]) | refine And.intro (by first | ((repeat' first | omega | exact trivial | rfl | assumption | (intro a e; subst e; rfl) | exact map_sz fun a => (by simp only [go_sem]) | refine And.intro ?_ ?_); done) | fail) ?_ | fail)
        refine ⟨⟨i + 1, ?_⟩, ?_⟩
        rotate_left
        · simp only [go_sem, s0, s3, s4, s6, s7, sh, sh', so, sp, hne, hne1, hne2, etk, hml, hml', List.length_map]; omega
        simp only [go_sem, s0, s3, s4, s6, s7, sh, sh', so, sp, hne, hne1, hne2, etk, hml, hml', List.length_map]
        and_intros; all_goals try (first | rfl | omega | assumption | ((repeat (first | exact Fr.rfl' _ _ | assumption | refine Fr.updk ?_ (by omega) _)); done))
      · have hz : ¬ ((i : Int) < (t.us.length : Int)) := by omega
        obtain rfl : i = t.us.length := by omega
        rw [List.take_length] at so sp
        repeat' (first | refine awp_seq_k fun K hK => ?_ | ((first | refine awp_region_k (by kernel_rfl) fun R hR => ?_ | refine awp_draw mixed (by kernel_rfl) (by kernel_rfl) fun R hR => ?_); simp only [go_sem, s0, s3, s4, s6, s7, sh, sh', so, sp, hz, hne, hne1, hne2]) | ((first | (refine hR _ ?_; clear hR R) | refine awp_skip ?_ | refine awp_exit ?_ | refine awp_ret ?_); try simp only [thenA, inBlockA, reduceIte, reduceCtorEq, Nat.reduceEqDiff, if_false, if_true]) | ((first | refine hK _ ?_ | (clear hK K; first | refine hK _ ?_ | (clear hK K; first | refine hK _ ?_ | (clear hK K; first | refine hK _ ?_ | (clear hK K; refine hK _ ?_))))); clear hK K) | refine awp_true rfl rfl ?_ | refine awp_false rfl rfl ?_ | refine awp_block ?_ | refine And.intro (by first | ((repeat' first | omega | exact trivial | rfl | assumption | (intro a e; subst e; rfl) | exact map_sz fun a => (by simp only [go_sem]) | refine And.intro ?_ ?_); done) | fail) ?_ | fail)
        (first | refine ret_pure ?_ ?_ ?_ | refine ret_ro ?_ ?_ ?_); focus exact (by simp only [Try.results12, resOkL, resOk, Try.ntmps12, List.toList_toArray]; first | decide | (simp only [go_sem, s4, hne, hne1, hne2]; done) | (simp only [go_sem, s4, hne, hne1, hne2]; and_intros <;> first | omega | rfl | decide))
        rotate_left; focus exact (by repeat (first | exact Fr.rfl' _ _ | assumption | refine Fr.updk ?_ (by omega) _))
        simp only [resA, resV, Try.results12, go_sem, s4, hne, hne1, hne2]
        all_goals try (first | exact Co.t2 (.dat rfl) (.dat rfl) | exact Co.t3 (.dat rfl) (.dat rfl) (.dat rfl))
        all_goals exact co_tm rfl
theorem apply_tri (bs : Bs) (hbs : bs.length ≤ 4000000) : ∀ t : Tm, ApSpec bs t := Tm.ind (apply_step bs hbs)
end Go.Proofs.Ytmeekpinkfpnhab
namespace Go.Proofs.Ytmeekpinkfpnhab
open Go.RowKit
theorem nat_ne8 (n : Nat) : ((n = n + 1 + 1 + 1 + 1 + 1 + 1 + 1 + 1) = False) ∧ ((n = n + 1 + 1 + 1 + 1 + 1 + 1 + 1 + 1 + 1) = False) ∧ ((n = n + 1 + 1 + 1 + 1 + 1 + 1 + 1 + 1 + 1 + 1) = False) ∧ ((n = n + 1 + 1 + 1 + 1 + 1 + 1 + 1 + 1 + 1 + 1 + 1) = False) ∧ ((n = n + 1 + 1 + 1 + 1 + 1 + 1 + 1 + 1 + 1 + 1 + 1 + 1) = False) ∧
    ((n + 1 + 1 + 1 + 1 + 1 + 1 + 1 + 1 = n) = False) ∧ ((n + 1 + 1 + 1 + 1 + 1 + 1 + 1 + 1 + 1 = n) = False) ∧ ((n + 1 + 1 + 1 + 1 + 1 + 1 + 1 + 1 + 1 + 1 = n) = False) ∧ ((n + 1 + 1 + 1 + 1 + 1 + 1 + 1 + 1 + 1 + 1 + 1 = n) = False) ∧ ((n + 1 + 1 + 1 + 1 + 1 + 1 + 1 + 1 + 1 + 1 + 1 + 1 = n) = False) := by
  and_intros <;> (apply eq_false; omega)
theorem tm0_DV : tmDV tm0 = .st [iD 0, iD 0, .sl []] := by rw [tmDV_eq]; rfl
set_option maxRecDepth 20000 in
theorem termIs_tri (t : Tm) (e w : Int) (want : Tm) : Tri Try.prog 14 [.d (tmDV t), iA e, iA w, .d (tmDV want)] (pure' (bA (e == w && same t (if w ≠ 0 then tm0 else want)))) := by
  have hs0 := sameR_tri t tm0
  rw [tm0_DV] at hs0
  refine tri_enter Try.func14 rfl Try.ntmps14 (by simp only [List.length_cons, List.length_nil]; omega) fun w0 h0 k hrd hwr => ?_
  cases hw : (w != 0) with
  | true =>
    rw [if_pos (by simpa using hw)]
    cases he : (e == w) with
    | true =>
      repeat' (first | refine awp_seq_k fun K hK => ?_ | ((first | refine awp_region_k (by kernel_rfl) fun R hR => ?_ | refine awp_draw mixed (by kernel_rfl) (by kernel_rfl) fun R hR => ?_); simp only [go_sem, hw, he]) | ((first | (refine hR _ ?_; clear hR R) | refine awp_skip ?_ | refine awp_exit ?_ | refine awp_ret ?_); try simp only [thenA, inBlockA, reduceIte, reduceCtorEq, Nat.reduceEqDiff, if_false, if_true]) | ((first | refine hK _ ?_ | (clear hK K; first | refine hK _ ?_ | (clear hK K; first | refine hK _ ?_ | (clear hK K; first | refine hK _ ?_ | (clear hK K; refine hK _ ?_))))); clear hK K) | refine awp_true rfl rfl ?_ | refine awp_false rfl rfl ?_ | refine awp_block ?_ | ((first | refine CallK.pure (enter22) (hs0) ?_ ?_ | refine CallD.pure (enter22) (hs0) ?_ ?_); (focus first | ((repeat (first | exact trivial | refine ⟨(by first | exact Or.inl rfl | exact Or.inr rfl), ?_⟩)); done) | (simp only [coL, AV.dat, true_or, or_true, AV.d.injEq, go_sem]; done)); simp only [go_sem, hw, he]) | refine And.intro (by first | ((repeat' first | omega | exact trivial | rfl | assumption | (intro a e; subst e; rfl) | exact map_sz fun a => (by simp only [go_sem]) | refine And.intro ?_ ?_); done) | fail) ?_ | fail)
      (first | refine ret_pure ?_ ?_ ?_ | refine ret_ro ?_ ?_ ?_); focus exact (by simp only [Try.results14, resOkL, resOk, Try.ntmps14, List.toList_toArray]; first | decide | (simp only [go_sem]; done) | (simp only [go_sem]; and_intros <;> first | omega | rfl | decide))
      rotate_left; focus exact (by repeat (first | exact Fr.rfl' _ _ | assumption | refine Fr.updk ?_ (by omega) _))
      simp only [resA, resV, Try.results14, go_sem]
      all_goals try (first | exact Co.t2 (.dat rfl) (.dat rfl) | exact Co.t3 (.dat rfl) (.dat rfl) (.dat rfl))
      all_goals exact .dat rfl
    | false =>
      repeat' (first | refine awp_seq_k fun K hK => ?_ | ((first | refine awp_region_k (by kernel_rfl) fun R hR => ?_ | refine awp_draw mixed (by kernel_rfl) (by kernel_rfl) fun R hR => ?_); simp only [go_sem, hw, he]) | ((first | (refine hR _ ?_; clear hR R) | refine awp_skip ?_ | refine awp_exit ?_ | refine awp_ret ?_); try simp only [thenA, inBlockA, reduceIte, reduceCtorEq, Nat.reduceEqDiff, if_false, if_true]) | ((first | refine hK _ ?_ | (clear hK K; first | refine hK _ ?_ | (clear hK K; first | refine hK _ ?_ | (clear hK K; first | refine hK _ ?_ | (clear hK K; refine hK _ ?_))))); clear hK K) | refine awp_true rfl rfl ?_ | refine awp_false rfl rfl ?_ | refine awp_block ?_ | refine And.intro (by first | ((repeat' first | omega | exact trivial | rfl | assumption | (intro a e; subst e; rfl) | exact map_sz fun a => (by simp only [go_sem]) | refine And.intro ?_ ?_); done) | fail) ?_ | fail)
      (first | refine ret_pure ?_ ?_ ?_ | refine ret_ro ?_ ?_ ?_); focus exact (by simp only [Try.results14, resOkL, resOk, Try.ntmps14, List.toList_toArray]; first | decide | (simp only [go_sem]; done) | (simp only [go_sem]; and_intros <;> first | omega | rfl | decide))
      rotate_left; focus exact (by repeat (first | exact Fr.rfl' _ _ | assumption | refine Fr.updk ?_ (by omega) _))
      simp only [resA, resV, Try.results14, go_sem]
      all_goals try (first | exact Co.t2 (.dat rfl) (.dat rfl) | exact Co.t3 (.dat rfl) (.dat rfl) (.dat rfl))
      all_goals exact .dat rfl
  | false =>
    rw [if_neg (by simpa using hw)]
    cases he : (e == w) with
    | true =>
      repeat' (first | refine awp_seq_k fun K hK => ?_ | ((first | refine awp_region_k (by kernel_rfl) fun R hR => ?_ | refine awp_draw mixed (by kernel_rfl) (by kernel_rfl) fun R hR => ?_); simp only [go_sem, hw, he]) | ((first | (refine hR _ ?_; clear hR R) | refine awp_skip ?_ | refine awp_exit ?_ | refine awp_ret ?_); try simp only [thenA, inBlockA, reduceIte, reduceCtorEq, Nat.reduceEqDiff, if_false, if_true]) | ((first | refine hK _ ?_ | (clear hK K; first | refine hK _ ?_ | (clear hK K; first | refine hK _ ?_ | (clear hK K; first | refine hK _ ?_ | (clear hK K; refine hK _ ?_))))); clear hK K) | refine awp_true rfl rfl ?_ | refine awp_false rfl rfl ?_ | refine awp_block ?_ | ((first | refine CallK.pure (enter22) (sameR_tri t want) ?_ ?_ | refine CallD.pure (enter22) (sameR_tri t want) ?_ ?_); (focus first | ((repeat (first | exact trivial | refine ⟨(by first | exact Or.inl rfl | exact Or.inr rfl), ?_⟩)); done) | (simp only [coL, AV.dat, true_or, or_true, AV.d.injEq, go_sem]; done)); simp only [go_sem, hw, he]) | refine And.intro (by first | ((repeat' first | omega | exact trivial | rfl | assumption | (intro a e; subst e; rfl) | exact map_sz fun a => (by simp only [go_sem]) | refine And.intro ?_ ?_); done) | fail) ?_ | fail)
      (first | refine ret_pure ?_ ?_ ?_ | refine ret_ro ?_ ?_ ?_); focus exact (by simp only [Try.results14, resOkL, resOk, Try.ntmps14, List.toList_toArray]; first | decide | (simp only [go_sem]; done) | (simp only [go_sem]; and_intros <;> first | omega | rfl | decide))
      rotate_left; focus exact (by repeat (first | exact Fr.rfl' _ _ | assumption | refine Fr.updk ?_ (by omega) _))
      simp only [resA, resV, Try.results14, go_sem]
      all_goals try (first | exact Co.t2 (.dat rfl) (.dat rfl) | exact Co.t3 (.dat rfl) (.dat rfl) (.dat rfl))
      all_goals exact .dat rfl
    | false =>
      repeat' (first | refine awp_seq_k fun K hK => ?_ | ((first | refine awp_region_k (by kernel_rfl) fun R hR => ?_ | refine awp_draw mixed (by kernel_rfl) (by kernel_rfl) fun R hR => ?_); simp only [go_sem, hw, he]) | ((first | (refine hR _ ?_; clear hR R) | refine awp_skip ?_ | refine awp_exit ?_ | refine awp_ret ?_); try simp only [thenA, inBlockA, reduceIte, reduceCtorEq, Nat.reduceEqDiff, if_false, if_true]) | ((first | refine hK _ ?_ | (clear hK K; first | refine hK _ ?_ | (clear hK K; first | refine hK _ ?_ | (clear hK K; first | refine hK _ ?_ | (clear hK K; refine hK _ ?_))))); clear hK K) | refine awp_true rfl rfl ?_ | refine awp_false rfl rfl ?_ | refine awp_block ?_ | refine And.intro (by first | ((repeat' first | omega | exact trivial | rfl | assumption | (intro a e; subst e; rfl) | exact map_sz fun a => (by simp only [go_sem]) | refine And.intro ?_ ?_); done) | fail) ?_ | fail)
      (first | refine ret_pure ?_ ?_ ?_ | refine ret_ro ?_ ?_ ?_); focus exact (by simp only [Try.results14, resOkL, resOk, Try.ntmps14, List.toList_toArray]; first | decide | (simp only [go_sem]; done) | (simp only [go_sem]; and_intros <;> first | omega | rfl | decide))
      rotate_left; focus exact (by repeat (first | exact Fr.rfl' _ _ | assumption | refine Fr.updk ?_ (by omega) _))
      simp only [resA, resV, Try.results14, go_sem]
      all_goals try (first | exact Co.t2 (.dat rfl) (.dat rfl) | exact Co.t3 (.dat rfl) (.dat rfl) (.dat rfl))
      all_goals exact .dat rfl
end Go.Proofs.Ytmeekpinkfpnhab
namespace Go.Proofs.Ytmeekpinkfpnhab
open Go.RowKit
theorem same_if {t want : Tm} {e w : Int} (h : t = if w ≠ 0 then tm0 else want) (he : e = w) : (e == w && same t (if w ≠ 0 then tm0 else want)) = true := by
  subst h; subst he; simp [same_rfl]
theorem isZ (e : Int) : Tri Try.prog 14 [.d (tmDV tm0), iA e, iA e, .d (.st [iD 0, iD 0, .sl []])] (pure' (bA true)) := by
  have w1 := termIs_tri tm0 e e tm0
  rw [same_if (by simp) rfl, tm0_DV] at w1
  rw [tm0_DV]
  exact w1
theorem isT (t want : Tm) (e w : Int) (h : t = if w ≠ 0 then tm0 else want) (he : e = w) : Tri Try.prog 14 [.d (tmDV t), iA e, iA w, .d (tmDV want)] (pure' (bA true)) := by
  have w1 := termIs_tri t e w want
  rw [same_if h he] at w1
  exact w1
theorem bds_len (b : Bs) : b.length ≤ (b.map bdSz).sum := by
  induction b with
  | nil => simp
  | cons p b ih => simp only [List.length_cons, List.map_cons, List.sum_cons, bdSz] at ih ⊢; omega
set_option maxHeartbeats 4000000 in
set_option maxRecDepth 20000 in
theorem substApplies_tri (g : List Int) (b : Bs) (t : Tm) (hb : b.length ≤ 4000000) : Tri Try.prog 3 [.d (sgDV g), .d (bsDV b), .d (tmDV t)] (pure' (bA true)) := by
  have v1 := sapply_tri g b t hb
  have v2 := checkB_tri g b hb
  have v3 := checkTerm_tri (g := g) (t := t)
  by_cases h1 : bOk g b = 0
  · rw [h1] at v2
    by_cases h2 : own g t = 0
    · rw [h2] at v3
      have hsz : t.size ≤ 120 := by have := own_parts h2; rw [parts_len] at this; exact this
      have v4 := appliedSize_tri b hb t (by omega)
      have v5 := apply_tri b hb t (by omega)
      have ea : applyAns g b t = rawAns b t := by unfold applyAns; rw [if_neg (by simp [h1]), if_neg (by simp [h2])]
      rw [ea] at v1
      unfold rawAns at v1
      rw [apS_pre, made_apply b t (own_good h2)] at v1
      cases h3 : decide (apS b (parts t) > 120) with
      | true =>
        rw [if_pos (by simpa using h3)] at v1
        have w1 := isZ 2
        refine tri_enter Try.func3 rfl Try.ntmps3 (by simp only [List.length_cons, List.length_nil]; omega) fun w0 h0 k hrd hwr => ?_
        repeat' (first | refine awp_seq_k fun K hK => ?_ | ((first | refine awp_region_k (by kernel_rfl) fun R hR => ?_ | refine awp_draw mixed (by kernel_rfl) (by kernel_rfl) fun R hR => ?_); simp only [go_sem, beq_self_eq_true, h3]) | ((first | (refine hR _ ?_; clear hR R) | refine awp_skip ?_ | refine awp_exit ?_ | refine awp_ret ?_); try simp only [thenA, inBlockA, reduceIte, reduceCtorEq, Nat.reduceEqDiff, if_false, if_true]) | ((first | refine hK _ ?_ | (clear hK K; first | refine hK _ ?_ | (clear hK K; first | refine hK _ ?_ | (clear hK K; first | refine hK _ ?_ | (clear hK K; refine hK _ ?_))))); clear hK K) | refine awp_true rfl rfl ?_ | refine awp_false rfl rfl ?_ | refine awp_block ?_ | ((first | refine CallK.pure (enter8) (v1) ?_ ?_ | refine CallD.pure (enter8) (v1) ?_ ?_ | refine CallK.pure (enter9) (v2) ?_ ?_ | refine CallD.pure (enter9) (v2) ?_ ?_ | refine CallK.pure (enter10) (v3) ?_ ?_ | refine CallD.pure (enter10) (v3) ?_ ?_ | refine CallK.pure (enter11) (v4) ?_ ?_ | refine CallD.pure (enter11) (v4) ?_ ?_ | refine CallK.pure (enter13) (substBegun_tri) ?_ ?_ | refine CallD.pure (enter13) (substBegun_tri) ?_ ?_ | refine CallK.pure (enter14) (w1) ?_ ?_ | refine CallD.pure (enter14) (w1) ?_ ?_); (focus first | ((repeat (first | exact trivial | refine ⟨(by first | exact Or.inl rfl | exact Or.inr rfl), ?_⟩)); done) | (simp only [coL, AV.dat, true_or, or_true, AV.d.injEq, go_sem]; done)); simp only [go_sem, beq_self_eq_true, h3]) | refine And.intro (by first | ((repeat' first | omega | exact trivial | rfl | assumption | (intro a e; subst e; rfl) | exact map_sz fun a => (by simp only [go_sem]) | refine And.intro ?_ ?_); done) | fail) ?_ | fail)
        (first | refine ret_pure ?_ ?_ ?_ | refine ret_ro ?_ ?_ ?_); focus exact (by simp only [Try.results3, resOkL, resOk, Try.ntmps3, List.toList_toArray]; first | decide | (simp only [go_sem]; done) | (simp only [go_sem]; and_intros <;> first | omega | rfl | decide))
        rotate_left; focus exact (by repeat (first | exact Fr.rfl' _ _ | assumption | refine Fr.updk ?_ (by omega) _))
        simp only [resA, resV, Try.results3, go_sem]
        all_goals try (first | exact Co.t2 (.dat rfl) (.dat rfl) | exact Co.t3 (.dat rfl) (.dat rfl) (.dat rfl))
        exact .dat rfl
      | false =>
        rw [if_neg (by simpa using h3)] at v1
        have w1 := isT (applyR b t) (applyR b t) 0 0 (by simp) rfl
        refine tri_enter Try.func3 rfl Try.ntmps3 (by simp only [List.length_cons, List.length_nil]; omega) fun w0 h0 k hrd hwr => ?_
        repeat' (first | refine awp_seq_k fun K hK => ?_ | ((first | refine awp_region_k (by kernel_rfl) fun R hR => ?_ | refine awp_draw mixed (by kernel_rfl) (by kernel_rfl) fun R hR => ?_); simp only [go_sem, beq_self_eq_true, h3]) | ((first | (refine hR _ ?_; clear hR R) | refine awp_skip ?_ | refine awp_exit ?_ | refine awp_ret ?_); try simp only [thenA, inBlockA, reduceIte, reduceCtorEq, Nat.reduceEqDiff, if_false, if_true]) | ((first | refine hK _ ?_ | (clear hK K; first | refine hK _ ?_ | (clear hK K; first | refine hK _ ?_ | (clear hK K; first | refine hK _ ?_ | (clear hK K; refine hK _ ?_))))); clear hK K) | refine awp_true rfl rfl ?_ | refine awp_false rfl rfl ?_ | refine awp_block ?_ | ((first | refine CallK.pure (enter8) (v1) ?_ ?_ | refine CallD.pure (enter8) (v1) ?_ ?_ | refine CallK.pure (enter9) (v2) ?_ ?_ | refine CallD.pure (enter9) (v2) ?_ ?_ | refine CallK.pure (enter10) (v3) ?_ ?_ | refine CallD.pure (enter10) (v3) ?_ ?_ | refine CallK.pure (enter11) (v4) ?_ ?_ | refine CallD.pure (enter11) (v4) ?_ ?_ | refine CallK.pure (enter12) (v5) ?_ ?_ | refine CallD.pure (enter12) (v5) ?_ ?_ | refine CallK.pure (enter13) (substBegun_tri) ?_ ?_ | refine CallD.pure (enter13) (substBegun_tri) ?_ ?_ | refine CallK.pure (enter14) (w1) ?_ ?_ | refine CallD.pure (enter14) (w1) ?_ ?_); (focus first | ((repeat (first | exact trivial | refine ⟨(by first | exact Or.inl rfl | exact Or.inr rfl), ?_⟩)); done) | (simp only [coL, AV.dat, true_or, or_true, AV.d.injEq, go_sem]; done)); simp only [go_sem, beq_self_eq_true, h3]) | refine And.intro (by first | ((repeat' first | omega | exact trivial | rfl | assumption | (intro a e; subst e; rfl) | exact map_sz fun a => (by simp only [go_sem]) | refine And.intro ?_ ?_); done) | fail) ?_ | fail)
        (first | refine ret_pure ?_ ?_ ?_ | refine ret_ro ?_ ?_ ?_); focus exact (by simp only [Try.results3, resOkL, resOk, Try.ntmps3, List.toList_toArray]; first | decide | (simp only [go_sem]; done) | (simp only [go_sem]; and_intros <;> first | omega | rfl | decide))
        rotate_left; focus exact (by repeat (first | exact Fr.rfl' _ _ | assumption | refine Fr.updk ?_ (by omega) _))
        simp only [resA, resV, Try.results3, go_sem]
        all_goals try (first | exact Co.t2 (.dat rfl) (.dat rfl) | exact Co.t3 (.dat rfl) (.dat rfl) (.dat rfl))
        exact .dat rfl
    · have ea : applyAns g b t = (tm0, own g t) := by unfold applyAns; rw [if_neg (by simp [h1]), if_pos h2]
      rw [ea] at v1
      have hq : (own g t == 0) = false := by simpa using h2
      generalize own g t = e at *
      refine tri_enter Try.func3 rfl Try.ntmps3 (by simp only [List.length_cons, List.length_nil]; omega) fun w0 h0 k hrd hwr => ?_
      repeat' (first | refine awp_seq_k fun K hK => ?_ | ((first | refine awp_region_k (by kernel_rfl) fun R hR => ?_ | refine awp_draw mixed (by kernel_rfl) (by kernel_rfl) fun R hR => ?_); simp only [go_sem, beq_self_eq_true, hq]) | ((first | (refine hR _ ?_; clear hR R) | refine awp_skip ?_ | refine awp_exit ?_ | refine awp_ret ?_); try simp only [thenA, inBlockA, reduceIte, reduceCtorEq, Nat.reduceEqDiff, if_false, if_true]) | ((first | refine hK _ ?_ | (clear hK K; first | refine hK _ ?_ | (clear hK K; first | refine hK _ ?_ | (clear hK K; first | refine hK _ ?_ | (clear hK K; refine hK _ ?_))))); clear hK K) | refine awp_true rfl rfl ?_ | refine awp_false rfl rfl ?_ | refine awp_block ?_ | ((first | refine CallK.pure (enter8) (v1) ?_ ?_ | refine CallD.pure (enter8) (v1) ?_ ?_ | refine CallK.pure (enter9) (v2) ?_ ?_ | refine CallD.pure (enter9) (v2) ?_ ?_ | refine CallK.pure (enter10) (v3) ?_ ?_ | refine CallD.pure (enter10) (v3) ?_ ?_ | refine CallK.pure (enter13) (substBegun_tri) ?_ ?_ | refine CallD.pure (enter13) (substBegun_tri) ?_ ?_ | refine CallK.pure (enter14) (isZ e) ?_ ?_ | refine CallD.pure (enter14) (isZ e) ?_ ?_); (focus first | ((repeat (first | exact trivial | refine ⟨(by first | exact Or.inl rfl | exact Or.inr rfl), ?_⟩)); done) | (simp only [coL, AV.dat, true_or, or_true, AV.d.injEq, go_sem]; done)); simp only [go_sem, beq_self_eq_true, hq]) | refine And.intro (by first | ((repeat' first | omega | exact trivial | rfl | assumption | (intro a e; subst e; rfl) | exact map_sz fun a => (by simp only [go_sem]) | refine And.intro ?_ ?_); done) | fail) ?_ | fail)
      (first | refine ret_pure ?_ ?_ ?_ | refine ret_ro ?_ ?_ ?_); focus exact (by simp only [Try.results3, resOkL, resOk, Try.ntmps3, List.toList_toArray]; first | decide | (simp only [go_sem]; done) | (simp only [go_sem]; and_intros <;> first | omega | rfl | decide))
      rotate_left; focus exact (by repeat (first | exact Fr.rfl' _ _ | assumption | refine Fr.updk ?_ (by omega) _))
      simp only [resA, resV, Try.results3, go_sem]
      all_goals try (first | exact Co.t2 (.dat rfl) (.dat rfl) | exact Co.t3 (.dat rfl) (.dat rfl) (.dat rfl))
      exact .dat rfl
  · have ea : applyAns g b t = (tm0, bOk g b) := by unfold applyAns; rw [if_pos h1]
    rw [ea] at v1
    have hq : (bOk g b == 0) = false := by simpa using h1
    generalize bOk g b = e at *
    refine tri_enter Try.func3 rfl Try.ntmps3 (by simp only [List.length_cons, List.length_nil]; omega) fun w0 h0 k hrd hwr => ?_
    repeat' (first | refine awp_seq_k fun K hK => ?_ | ((first | refine awp_region_k (by kernel_rfl) fun R hR => ?_ | refine awp_draw mixed (by kernel_rfl) (by kernel_rfl) fun R hR => ?_); simp only [go_sem, beq_self_eq_true, hq]) | ((first | (refine hR _ ?_; clear hR R) | refine awp_skip ?_ | refine awp_exit ?_ | refine awp_ret ?_); try simp only [thenA, inBlockA, reduceIte, reduceCtorEq, Nat.reduceEqDiff, if_false, if_true]) | ((first | refine hK _ ?_ | (clear hK K; first | refine hK _ ?_ | (clear hK K; first | refine hK _ ?_ | (clear hK K; first | refine hK _ ?_ | (clear hK K; refine hK _ ?_))))); clear hK K) | refine awp_true rfl rfl ?_ | refine awp_false rfl rfl ?_ | refine awp_block ?_ | ((first | refine CallK.pure (enter8) (v1) ?_ ?_ | refine CallD.pure (enter8) (v1) ?_ ?_ | refine CallK.pure (enter9) (v2) ?_ ?_ | refine CallD.pure (enter9) (v2) ?_ ?_ | refine CallK.pure (enter13) (substBegun_tri) ?_ ?_ | refine CallD.pure (enter13) (substBegun_tri) ?_ ?_ | refine CallK.pure (enter14) (isZ e) ?_ ?_ | refine CallD.pure (enter14) (isZ e) ?_ ?_); (focus first | ((repeat (first | exact trivial | refine ⟨(by first | exact Or.inl rfl | exact Or.inr rfl), ?_⟩)); done) | (simp only [coL, AV.dat, true_or, or_true, AV.d.injEq, go_sem]; done)); simp only [go_sem, beq_self_eq_true, hq]) | refine And.intro (by first | ((repeat' first | omega | exact trivial | rfl | assumption | (intro a e; subst e; rfl) | exact map_sz fun a => (by simp only [go_sem]) | refine And.intro ?_ ?_); done) | fail) ?_ | fail)
    (first | refine ret_pure ?_ ?_ ?_ | refine ret_ro ?_ ?_ ?_); focus exact (by simp only [Try.results3, resOkL, resOk, Try.ntmps3, List.toList_toArray]; first | decide | (simp only [go_sem]; done) | (simp only [go_sem]; and_intros <;> first | omega | rfl | decide))
    rotate_left; focus exact (by repeat (first | exact Fr.rfl' _ _ | assumption | refine Fr.updk ?_ (by omega) _))
    simp only [resA, resV, Try.results3, go_sem]
    all_goals try (first | exact Co.t2 (.dat rfl) (.dat rfl) | exact Co.t3 (.dat rfl) (.dat rfl) (.dat rfl))
    exact .dat rfl
theorem substApplies_law (g : List Int) (b : Bs) (t : Tm) (_ : True) (_ : True) (_ : True) (h : (g.length + 1) + ((b.map bdSz).sum + 1) + t.size ≤ 1048576) : Tri Try.prog 3 [.d (sgDV g), .d (bsDV b), .d (tmDV t)] (pure' (bA true)) := substApplies_tri g b t (by have := bds_len b; omega)
end Go.Proofs.Ytmeekpinkfpnhab
