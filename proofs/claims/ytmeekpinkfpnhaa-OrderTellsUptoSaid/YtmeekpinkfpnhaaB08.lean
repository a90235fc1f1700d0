/- superposeref.GreaterOf. The law OrderTells: its walk. -/
import Derived.Test.YtmeekpinkfpnhaaB07
set_option linter.unusedSimpArgs false
set_option linter.unusedSectionVars false
set_option linter.unusedVariables false
set_option linter.unnecessarySimpa false
set_option linter.all false
namespace Go.Proofs.Ytmeekpinkfpnhaa
open Go.RowKit
set_option linter.unusedSimpArgs false
set_option linter.unusedSectionVars false

theorem gr_len {s t : Tm} {i j : Nat} (har : Arit (pn s 0) (pn t 0)) (hi : i < (parts s).length) (hj : j < (parts t).length) (hi' : i < (argsOf s).length) (hj' : j < (argsOf t).length) (hv : (parts s)[i].v = 0) (hv' : (parts t)[j].v = 0) (hf : (parts s)[i].f = (parts t)[j].f) : (argsOf s)[i].length = (argsOf t)[j].length := by
  have hi2 : i < (pn s 0).length := by rw [pn_len]; exact hi
  have hj2 : j < (pn t 0).length := by rw [pn_len]; exact hj
  have e1 : (parts s)[i] = (pn s 0)[i].1 := by simp [← pn_fst s 0]
  have e2 : (parts t)[j] = (pn t 0)[j].1 := by simp [← pn_fst t 0]
  have := har (pn s 0)[i] (List.getElem_mem hi2) (pn t 0)[j] (List.getElem_mem hj2) (by rw [← e1]; omega) (by rw [← e2]; omega) (by rw [← e1, ← e2]; exact hf)
  simpa [argsOf] using this
theorem gr_G {s t : Tm} {i j : Nat} (hi : i < (parts s).length) (hj : j < (parts t).length) (hi' : i < (argsOf s).length) (hj' : j < (argsOf t).length) (hvs : ∀ u ∈ parts s, 0 ≤ u.v) (hvt : ∀ u ∈ parts t, 0 ≤ u.v) :
    grG (sameN (parts s) (parts t)) (gtN (parts s) (parts t)) (parts s)[i].v (parts s)[i].f (argsOf s)[i] (parts t)[j].v (parts t)[j].f (argsOf t)[j] i j = gtN (parts s) (parts t) (i, j) := by
  have := grN_right hi hj (hvs _ (List.getElem_mem _)) (hvt _ (List.getElem_mem _))
  unfold grN at this
  rw [getD_at hi, getD_at hj, getD_at hi', getD_at hj'] at this
  exact this

/-- What stands between rounds. -/
structure GIn (ps pt : List Tm) (la lb : List (List Int)) (T : Nm) (nm : Nat → Nm) (i j : Nat) (k : Nat) (h0 : Heap) (σ : St) : Prop where
  s5 : σ.t 5 = .d (.sl (ps.map tmDV))
  s6 : σ.t 6 = .d (.sl (pt.map tmDV))
  s7 : σ.t 7 = .d (.sl (la.map gI))
  s8 : σ.t 8 = .d (.sl (lb.map gI))
  s9 : σ.t 9 = .arr T 0 ps.length
  s10 : σ.t 10 = iA i
  s11 : σ.t 11 = iA j
  hT : σ.h T = some (.cells 94 (tabA nm ps.length pt.length (i + 1)))
  hr : ∀ a, a < i → σ.h (nm a) = some (.cells 4 (rowA ps pt a pt.length))
  hi : σ.h (nm i) = some (.cells 4 (rowA ps pt i j))
  fr : Fr k h0 σ.h
  kT : T.1 < σ.k
  knm : ∀ a, a ≤ i → k ≤ (nm a).1 ∧ (nm a).1 < σ.k ∧ nm a ≠ T
  kne : ∀ a, a < i → nm a ≠ nm i
  kk : k < σ.k
/-- What stands between rows. -/
structure GOut (ps pt : List Tm) (la lb : List (List Int)) (T : Nm) (nm : Nat → Nm) (i : Nat) (k : Nat) (h0 : Heap) (σ : St) : Prop where
  s5 : σ.t 5 = .d (.sl (ps.map tmDV))
  s6 : σ.t 6 = .d (.sl (pt.map tmDV))
  s7 : σ.t 7 = .d (.sl (la.map gI))
  s8 : σ.t 8 = .d (.sl (lb.map gI))
  s9 : σ.t 9 = .arr T 0 ps.length
  s10 : σ.t 10 = iA i
  hT : σ.h T = some (.cells 94 (tabA nm ps.length pt.length i))
  hr : ∀ a, a < i → σ.h (nm a) = some (.cells 4 (rowA ps pt a pt.length))
  fr : Fr k h0 σ.h
  kT : T.1 < σ.k
  knm : ∀ a, a < i → k ≤ (nm a).1 ∧ (nm a).1 < σ.k ∧ nm a ≠ T
  kk : k < σ.k
  le : i ≤ ps.length

def GreSpec (s t : Tm) : Prop := Tri Try.prog 16 [.d (tmDV s), .d (tmDV t)] (pure' (bA (gt s t)))
set_option maxRecDepth 20000 in
theorem greaterOf_tri (s t : Tm) (hfs : s.fits) (hft : t.fits) (hs : (parts s).length ≤ 1000000) (ht : (parts t).length ≤ 1000000) (har : Arit (pn s 0) (pn t 0)) (hvs : ∀ u ∈ parts s, 0 ≤ u.v) (hvt : ∀ u ∈ parts t, 0 ≤ u.v) : GreSpec s t := by
  unfold GreSpec
  refine tri_enter Try.func16 rfl Try.ntmps16 (by simp only [List.length_cons, List.length_nil]; omega) fun w0 h0 k hrd hwr => ?_
  have hls := argsOf_len s
  have hlt := argsOf_len t
  repeat' (first
    | refine awp_seq_k fun K hK => ?_
    | (refine awp_region_k (by kernel_rfl) fun R hR => ?_; simp only [go_sem, List.flatten_replicate_singleton])
    | (refine awp_draw mixed (by kernel_rfl) (by kernel_rfl) fun R hR => ?_; simp only [go_sem, List.flatten_replicate_singleton])
    | (refine hR _ ?_; clear hR R; try simp only [thenA, inBlockA, reduceIte, reduceCtorEq, Nat.reduceEqDiff, if_false, if_true])
    | (refine hK _ ?_; clear hK K)
    | (clear hK K; refine hK _ ?_; clear hK K)
    | (clear hK K; clear hK K; refine hK _ ?_; clear hK K)
    | (clear hK K; clear hK K; clear hK K; refine hK _ ?_; clear hK K)
    | (clear hK K; clear hK K; clear hK K; clear hK K; refine hK _ ?_; clear hK K)
    | refine awp_true rfl rfl ?_
    | refine awp_false rfl rfl ?_
    | (refine awp_cond rfl rfl (fun hc => ?_) (fun hc => ?_) <;> (try simp only [go_sem, List.flatten_replicate_singleton] at hc) <;> (try (exfalso; omega)))
    | refine awp_block ?_
    | (refine awp_skip ?_; try simp only [thenA, inBlockA, reduceIte, reduceCtorEq, Nat.reduceEqDiff, if_false, if_true])
    | (refine awp_exit ?_; try simp only [thenA, inBlockA, reduceIte, reduceCtorEq, Nat.reduceEqDiff, if_false, if_true])
    | (refine awp_ret ?_; try simp only [thenA, inBlockA, reduceIte, reduceCtorEq, Nat.reduceEqDiff, if_false, if_true])
    | (refine runL_split ?_ (fun hc => ?_) (fun hc => ?_); (simp only [go_sem, List.flatten_replicate_singleton]; exact rfl); all_goals (try simp only [go_sem, hc, List.flatten_replicate_singleton]); all_goals (try simp only [go_sem, List.flatten_replicate_singleton] at hc); all_goals (try (exfalso; omega)))
    | (refine runD_split ?_ (fun hc => ?_) (fun hc => ?_); (simp only [go_sem, List.flatten_replicate_singleton]; exact rfl); all_goals (try simp only [go_sem, hc, List.flatten_replicate_singleton]); all_goals (try simp only [go_sem, List.flatten_replicate_singleton] at hc); all_goals (try (exfalso; omega)))
    | (first | (refine CallK.pure (enter63) (partsOf_data s hfs (by omega)) ?_ ?_; (focus first | ((repeat (first | exact trivial | refine ⟨(by first | exact Or.inl rfl | exact Or.inr rfl), ?_⟩)); done) | (simp only [coL, AV.dat, true_or, or_true, AV.d.injEq, go_sem]; done)); simp only [go_sem, List.flatten_replicate_singleton]) | (refine CallD.pure (enter63) (partsOf_data s hfs (by omega)) ?_ ?_; (focus first | ((repeat (first | exact trivial | refine ⟨(by first | exact Or.inl rfl | exact Or.inr rfl), ?_⟩)); done) | (simp only [coL, AV.dat, true_or, or_true, AV.d.injEq, go_sem]; done)); simp only [go_sem, List.flatten_replicate_singleton]))
    | (first | (refine CallK.pure (enter63) (partsOf_data t hft (by omega)) ?_ ?_; (focus first | ((repeat (first | exact trivial | refine ⟨(by first | exact Or.inl rfl | exact Or.inr rfl), ?_⟩)); done) | (simp only [coL, AV.dat, true_or, or_true, AV.d.injEq, go_sem]; done)); simp only [go_sem, List.flatten_replicate_singleton]) | (refine CallD.pure (enter63) (partsOf_data t hft (by omega)) ?_ ?_; (focus first | ((repeat (first | exact trivial | refine ⟨(by first | exact Or.inl rfl | exact Or.inr rfl), ?_⟩)); done) | (simp only [coL, AV.dat, true_or, or_true, AV.d.injEq, go_sem]; done)); simp only [go_sem, List.flatten_replicate_singleton]))
    | (first | (refine CallK.pure (enter64) (argsOf_tri s hs) ?_ ?_; (focus first | ((repeat (first | exact trivial | refine ⟨(by first | exact Or.inl rfl | exact Or.inr rfl), ?_⟩)); done) | (simp only [coL, AV.dat, true_or, or_true, AV.d.injEq, go_sem]; done)); simp only [go_sem, List.flatten_replicate_singleton]) | (refine CallD.pure (enter64) (argsOf_tri s hs) ?_ ?_; (focus first | ((repeat (first | exact trivial | refine ⟨(by first | exact Or.inl rfl | exact Or.inr rfl), ?_⟩)); done) | (simp only [coL, AV.dat, true_or, or_true, AV.d.injEq, go_sem]; done)); simp only [go_sem, List.flatten_replicate_singleton]))
    | (first | (refine CallK.pure (enter64) (argsOf_tri t ht) ?_ ?_; (focus first | ((repeat (first | exact trivial | refine ⟨(by first | exact Or.inl rfl | exact Or.inr rfl), ?_⟩)); done) | (simp only [coL, AV.dat, true_or, or_true, AV.d.injEq, go_sem]; done)); simp only [go_sem, List.flatten_replicate_singleton]) | (refine CallD.pure (enter64) (argsOf_tri t ht) ?_ ?_; (focus first | ((repeat (first | exact trivial | refine ⟨(by first | exact Or.inl rfl | exact Or.inr rfl), ?_⟩)); done) | (simp only [coL, AV.dat, true_or, or_true, AV.d.injEq, go_sem]; done)); simp only [go_sem, List.flatten_replicate_singleton]))
    | refine And.intro (by first | omega | exact trivial | rfl | assumption | (apply map_sz; intro a; simp only [go_sem]; done) | ((and_intros <;> first | omega | exact trivial | rfl | assumption | (apply map_sz; intro a; simp only [go_sem]; done) | fail); done) | fail) ?_
    | fail)
  refine awp_loop (fun σ => ∃ (i : Nat) (nm : Nat → Nm), GOut (parts s) (parts t) (argsOf s) (argsOf t) (k + 1 + 1 + 1, 2) nm i k h0 σ) (fun σ => (parts s).length - (intOf' (σ.t 10)).toNat) ?_ ?_
  · refine ⟨0, fun _ => (k, 0), ?_, ?_, ?_, ?_, ?_, ?_, ?_, fun a ha => absurd ha (Nat.not_lt_zero _), ?_, ?_, fun a ha => absurd ha (Nat.not_lt_zero _), ?_, Nat.zero_le _⟩
    all_goals simp only [go_sem, Int.toNat_natCast]
    · rfl
    · rw [tabA_0 (fun _ => (k, 0)) _ (parts t).length]
    · exact (by repeat (first | exact Fr.rfl' _ _ | assumption | refine Fr.updk ?_ (by omega) _))
    · omega
  · rintro σ ⟨i, nm, s5, s6, s7, s8, s9, s10, hT, hr, hfr, hkT, hknm, hkk, hile⟩
    rcases Nat.lt_or_ge i (parts s).length with hlt | hge
    · have hz : (i : Int) < ((parts s).length : Int) := by omega
      have hTs := tabA_set (m := (parts t).length) (nm := nm) (σ.k + 1, 4) hlt
      simp only at hkT
      have hne := ltne hkT
      repeat' (first
        | refine awp_seq_k fun K hK => ?_
        | (refine awp_region_k (by kernel_rfl) fun R hR => ?_; simp only [go_sem, s5, s6, s9, s10, hT, hz, tabA_len, hTs, hne, Int.toNat_natCast, Nat.mul_one, List.flatten_replicate_singleton, rowA_0 (parts s) (parts t) i])
        | (refine awp_draw mixed (by kernel_rfl) (by kernel_rfl) fun R hR => ?_; simp only [go_sem, s5, s6, s9, s10, hT, hz, tabA_len, hTs, hne, Int.toNat_natCast, Nat.mul_one, List.flatten_replicate_singleton, rowA_0 (parts s) (parts t) i])
        | (refine hR _ ?_; clear hR R; try simp only [thenA, inBlockA, reduceIte, reduceCtorEq, Nat.reduceEqDiff, if_false, if_true])
        | (refine hK _ ?_; clear hK K)
        | (clear hK K; refine hK _ ?_; clear hK K)
        | (clear hK K; clear hK K; refine hK _ ?_; clear hK K)
        | (clear hK K; clear hK K; clear hK K; refine hK _ ?_; clear hK K)
        | (clear hK K; clear hK K; clear hK K; clear hK K; refine hK _ ?_; clear hK K)
        | refine awp_true rfl rfl ?_
        | refine awp_false rfl rfl ?_
        | (refine awp_cond rfl rfl (fun hc => ?_) (fun hc => ?_) <;> (try simp only [go_sem, s5, s6, s9, s10, hT, hz, tabA_len, hTs, hne, Int.toNat_natCast, Nat.mul_one, List.flatten_replicate_singleton, rowA_0 (parts s) (parts t) i] at hc) <;> (try (exfalso; omega)))
        | refine awp_block ?_
        | (refine awp_skip ?_; try simp only [thenA, inBlockA, reduceIte, reduceCtorEq, Nat.reduceEqDiff, if_false, if_true])
        | (refine awp_exit ?_; try simp only [thenA, inBlockA, reduceIte, reduceCtorEq, Nat.reduceEqDiff, if_false, if_true])
        | (refine awp_ret ?_; try simp only [thenA, inBlockA, reduceIte, reduceCtorEq, Nat.reduceEqDiff, if_false, if_true])
        | (refine runL_split ?_ (fun hc => ?_) (fun hc => ?_); (simp only [go_sem, s5, s6, s9, s10, hT, hz, tabA_len, hTs, hne, Int.toNat_natCast, Nat.mul_one, List.flatten_replicate_singleton, rowA_0 (parts s) (parts t) i]; exact rfl); all_goals (try simp only [go_sem, hc, s5, s6, s9, s10, hT, hz, tabA_len, hTs, hne, Int.toNat_natCast, Nat.mul_one, List.flatten_replicate_singleton, rowA_0 (parts s) (parts t) i]); all_goals (try simp only [go_sem, s5, s6, s9, s10, hT, hz, tabA_len, hTs, hne, Int.toNat_natCast, Nat.mul_one, List.flatten_replicate_singleton, rowA_0 (parts s) (parts t) i] at hc); all_goals (try (exfalso; omega)))
        | (refine runD_split ?_ (fun hc => ?_) (fun hc => ?_); (simp only [go_sem, s5, s6, s9, s10, hT, hz, tabA_len, hTs, hne, Int.toNat_natCast, Nat.mul_one, List.flatten_replicate_singleton, rowA_0 (parts s) (parts t) i]; exact rfl); all_goals (try simp only [go_sem, hc, s5, s6, s9, s10, hT, hz, tabA_len, hTs, hne, Int.toNat_natCast, Nat.mul_one, List.flatten_replicate_singleton, rowA_0 (parts s) (parts t) i]); all_goals (try simp only [go_sem, s5, s6, s9, s10, hT, hz, tabA_len, hTs, hne, Int.toNat_natCast, Nat.mul_one, List.flatten_replicate_singleton, rowA_0 (parts s) (parts t) i] at hc); all_goals (try (exfalso; omega)))
        | refine And.intro (by first | omega | exact trivial | rfl | assumption | (apply map_sz; intro a; simp only [go_sem]; done) | ((and_intros <;> first | omega | exact trivial | rfl | assumption | (apply map_sz; intro a; simp only [go_sem]; done) | fail); done) | fail) ?_
        | fail)
      have hnmT : ∀ a, a < i → ¬ (nm a = (k + 1 + 1 + 1, 2)) := fun a ha => (hknm a ha).2.2
      have hnmk : ∀ a, a < i → ¬ (nm a = (σ.k + 1, 4)) := fun a ha e => by have := (hknm a ha).2.1; rw [e] at this; simp only at this; omega
      obtain ⟨nm', hnm'⟩ : ∃ nm' : Nat → Nm, nm' = fun a => if a = i then (σ.k + 1, 4) else nm a := ⟨_, rfl⟩
      have hni : nm' i = (σ.k + 1, 4) := by rw [hnm']; simp
      have hna : ∀ a, a < i → nm' a = nm a := fun a ha => by rw [hnm']; simp [show ¬ a = i by omega]
      refine awp_loop (fun τ => ∃ j, j ≤ (parts t).length ∧ GIn (parts s) (parts t) (argsOf s) (argsOf t) (k + 1 + 1 + 1, 2) nm' i j k h0 τ) (fun τ => (parts t).length - (intOf' (τ.t 11)).toNat) ?_ ?_
      · refine ⟨0, Nat.zero_le _, ?_, ?_, ?_, ?_, ?_, ?_, ?_, ?_, fun a ha => ?_, ?_, ?_, ?_, fun a ha => ?_, fun a ha => ?_, ?_⟩
        case refine_8 => simp only [go_sem, ← hnm']
        case refine_9 => rw [hna a ha]; simp only [go_sem, hnmT a ha, hnmk a ha, hr a ha]
        case refine_10 => rw [hni]; simp only [go_sem, hne]
        case refine_11 => exact (by repeat (first | exact Fr.rfl' _ _ | assumption | refine Fr.updk ?_ (by omega) _))
        case refine_12 => simp only [go_sem]; omega
        case refine_13 =>
          rcases Nat.lt_or_ge a i with h | h
          · rw [hna a h]; obtain ⟨q1, q2, q3⟩ := hknm a h; exact ⟨q1, by simp only [go_sem]; omega, q3⟩
          · obtain rfl : a = i := by omega
            rw [hni]; exact ⟨by simp only [go_sem]; omega, by simp only [go_sem], by simp only [go_sem, hne]⟩
        case refine_14 => rw [hna a ha, hni]; exact hnmk a ha
        case refine_15 => simp only [go_sem]; omega
        case refine_7 => simp only [go_sem]; rfl
        all_goals simp only [go_sem, s5, s6, s7, s8, s9, s10]
      · rintro τ ⟨j, hj0, u5, u6, u7, u8, u9, u10, u11, uT, ur, ui, uf, ukT, uknm, ukne, ukk⟩
        rcases Nat.lt_or_ge j (parts t).length with hj | hj
        · have hz' : (j : Int) < ((parts t).length : Int) := by omega
          have f3 : ((parts s).map tmDV).getD i default = tmDV (parts s)[i] := nth_map tmDV hlt _
          have f4 : ((parts t).map tmDV).getD j default = tmDV (parts t)[j] := nth_map tmDV hj _
          have n1 : ∀ a, a ≤ i → ∀ d e, ¬ (nm' a = (τ.k + d, e)) := fun a ha d e h => by have := (uknm a ha).2.1; rw [h] at this; simp only at this; omega
          have n2 : ∀ a, a ≤ i → ¬ (nm' a = (k + 1 + 1 + 1, 2)) := fun a ha => (uknm a ha).2.2
          simp only at ukT
          have hne' := ltne ukT
          have hi' : i < (argsOf s).length := by omega
          have hj' : j < (argsOf t).length := by omega
          repeat' (first
            | refine gre_yes hlt hj hi' hj' (fun e => n2 i (Nat.le_refl _) e.symm) ukne (fun n h => argsOf_nat s hi' h) (fun n h => argsOf_nat t hj' h) (argsOf_fits s hfs hi') (argsOf_fits t hft hj') ?_ ?_ (x := (τ.k + 1, 8)) (y := (τ.k + 1, 9)) (T := (k + 1 + 1 + 1, 2)) _ ?_ ?_ ?_ rfl rfl
            | refine awp_seq_k fun K hK => ?_
            | (refine awp_region_k (by kernel_rfl) fun R hR => ?_; simp only [go_sem, u5, u6, u10, u11, hz', f3, f4, hne', Int.toNat_natCast])
            | (refine awp_draw mixed (by kernel_rfl) (by kernel_rfl) fun R hR => ?_; simp only [go_sem, u5, u6, u10, u11, hz', f3, f4, hne', Int.toNat_natCast])
            | (refine hR _ ?_; clear hR R; try simp only [thenA, inBlockA, reduceIte, reduceCtorEq, Nat.reduceEqDiff, if_false, if_true])
            | (refine hK _ ?_; clear hK K)
            | (clear hK K; refine hK _ ?_; clear hK K)
            | (clear hK K; clear hK K; refine hK _ ?_; clear hK K)
            | (clear hK K; clear hK K; clear hK K; refine hK _ ?_; clear hK K)
            | (clear hK K; clear hK K; clear hK K; clear hK K; refine hK _ ?_; clear hK K)
            | refine awp_true rfl rfl ?_
            | refine awp_false rfl rfl ?_
            | (refine awp_cond rfl rfl (fun hc => ?_) (fun hc => ?_) <;> (try simp only [go_sem, u5, u6, u10, u11, hz', f3, f4, hne', Int.toNat_natCast] at hc) <;> (try (exfalso; omega)))
            | refine awp_block ?_
            | (refine awp_skip ?_; try simp only [thenA, inBlockA, reduceIte, reduceCtorEq, Nat.reduceEqDiff, if_false, if_true])
            | (refine awp_exit ?_; try simp only [thenA, inBlockA, reduceIte, reduceCtorEq, Nat.reduceEqDiff, if_false, if_true])
            | (refine awp_ret ?_; try simp only [thenA, inBlockA, reduceIte, reduceCtorEq, Nat.reduceEqDiff, if_false, if_true])
            | (refine runL_split ?_ (fun hc => ?_) (fun hc => ?_); (simp only [go_sem, u5, u6, u10, u11, hz', f3, f4, hne', Int.toNat_natCast]; exact rfl); all_goals (try simp only [go_sem, hc, u5, u6, u10, u11, hz', f3, f4, hne', Int.toNat_natCast]); all_goals (try simp only [go_sem, u5, u6, u10, u11, hz', f3, f4, hne', Int.toNat_natCast] at hc); all_goals (try (exfalso; omega)))
            | (refine runD_split ?_ (fun hc => ?_) (fun hc => ?_); (simp only [go_sem, u5, u6, u10, u11, hz', f3, f4, hne', Int.toNat_natCast]; exact rfl); all_goals (try simp only [go_sem, hc, u5, u6, u10, u11, hz', f3, f4, hne', Int.toNat_natCast]); all_goals (try simp only [go_sem, u5, u6, u10, u11, hz', f3, f4, hne', Int.toNat_natCast] at hc); all_goals (try (exfalso; omega)))
            | refine And.intro (by first | omega | exact trivial | rfl | assumption | (apply map_sz; intro a; simp only [go_sem]; done) | ((and_intros <;> first | omega | exact trivial | rfl | assumption | (apply map_sz; intro a; simp only [go_sem]; done) | fail); done) | fail) ?_
            | fail)
          · exact gr_len har hlt hj hi' hj'
          · exact gr_G hlt hj hi' hj' hvs hvt
          · refine ⟨?_, ?_, ?_, ?_, ?_, ?_, ?_, ?_, ?_, fun _ => ?_, fun _ => ?_, ?_, fun a ha => ?_, ?_⟩
            case refine_13 => simp only [go_sem, n1 a (by omega), n2 a (by omega), ur a ha]
            case refine_14 => simp only [go_sem, n1 i (by omega), n2 i (by omega), ui]
            all_goals simp only [go_sem, u5, u6, u7, u8, u9, u10, u11, uT, hne']
          · simp only [go_sem]
          · intro σ' hp
            obtain ⟨q1, q2, q3, q4⟩ := hp
            simp only [List.mem_cons, List.not_mem_nil, or_false, forall_eq_or_imp, forall_eq, go_sem, u5, u6, u7, u8, u9, u10, u11] at q1 q2 q3
            obtain ⟨v2, v3, v5, v6, v7, v8, v9, v10, v11⟩ := q1
            repeat' (first
              | refine awp_seq_k fun K hK => ?_
              | (refine awp_region_k (by kernel_rfl) fun R hR => ?_; simp only [go_sem, v11])
              | (refine awp_draw mixed (by kernel_rfl) (by kernel_rfl) fun R hR => ?_; simp only [go_sem, v11])
              | (refine hR _ ?_; clear hR R; try simp only [thenA, inBlockA, reduceIte, reduceCtorEq, Nat.reduceEqDiff, if_false, if_true])
              | (refine hK _ ?_; clear hK K)
              | (clear hK K; refine hK _ ?_; clear hK K)
              | (clear hK K; clear hK K; refine hK _ ?_; clear hK K)
              | (clear hK K; clear hK K; clear hK K; refine hK _ ?_; clear hK K)
              | (clear hK K; clear hK K; clear hK K; clear hK K; refine hK _ ?_; clear hK K)
              | refine awp_true rfl rfl ?_
              | refine awp_false rfl rfl ?_
              | (refine awp_cond rfl rfl (fun hc => ?_) (fun hc => ?_) <;> (try simp only [go_sem, v11] at hc) <;> (try (exfalso; omega)))
              | refine awp_block ?_
              | (refine awp_skip ?_; try simp only [thenA, inBlockA, reduceIte, reduceCtorEq, Nat.reduceEqDiff, if_false, if_true])
              | (refine awp_exit ?_; try simp only [thenA, inBlockA, reduceIte, reduceCtorEq, Nat.reduceEqDiff, if_false, if_true])
              | (refine awp_ret ?_; try simp only [thenA, inBlockA, reduceIte, reduceCtorEq, Nat.reduceEqDiff, if_false, if_true])
              | (refine runL_split ?_ (fun hc => ?_) (fun hc => ?_); (simp only [go_sem, v11]; exact rfl); all_goals (try simp only [go_sem, hc, v11]); all_goals (try simp only [go_sem, v11] at hc); all_goals (try (exfalso; omega)))
              | (refine runD_split ?_ (fun hc => ?_) (fun hc => ?_); (simp only [go_sem, v11]; exact rfl); all_goals (try simp only [go_sem, hc, v11]); all_goals (try simp only [go_sem, v11] at hc); all_goals (try (exfalso; omega)))
              | refine And.intro (by first | omega | exact trivial | rfl | assumption | (apply map_sz; intro a; simp only [go_sem]; done) | ((and_intros <;> first | omega | exact trivial | rfl | assumption | (apply map_sz; intro a; simp only [go_sem]; done) | fail); done) | fail) ?_
              | fail)
            refine ⟨⟨j + 1, hj, ?_, ?_, ?_, ?_, ?_, ?_, ?_, ?_, fun a ha => ?_, ?_, ?_, ?_, fun a ha => ?_, ukne, ?_⟩, ?_⟩
            case refine_8 => simp only [go_sem, q3 _ (fun e => n2 i (Nat.le_refl _) e.symm), hne', uT]
            case refine_9 => simp only [go_sem, q3 _ (ukne a ha), n1 a (Nat.le_of_lt ha), ur a ha]
            case refine_10 => exact q4
            case refine_11 =>
              intro x hx
              have h1 : ¬ x = nm' i := fun e => by have := (uknm i (Nat.le_refl _)).1; rw [e] at hx; omega
              have h2 : ∀ d e, ¬ x = (τ.k + d, e) := fun d e h => by rw [h] at hx; simp only at hx; omega
              simp only [go_sem, q3 x h1, h2, uf x hx]
            case refine_12 => show k + 1 + 1 + 1 < _; simp only [go_sem]; omega
            case refine_13 =>
              obtain ⟨g1, g2, g3⟩ := uknm a ha
              exact ⟨g1, by simp only [go_sem]; omega, g3⟩
            case refine_14 => simp only [go_sem]; omega
            case refine_15 => simp only [go_sem, u11]; omega
            all_goals simp only [go_sem, v5, v6, v7, v8, v9, v10]
            · rfl
        · have hje : j = (parts t).length := by omega
          have hz' : ¬ ((j : Int) < ((parts t).length : Int)) := by omega
          repeat' (first
            | refine awp_seq_k fun K hK => ?_
            | (refine awp_region_k (by kernel_rfl) fun R hR => ?_; simp only [go_sem, u6, u10, u11, hz'])
            | (refine awp_draw mixed (by kernel_rfl) (by kernel_rfl) fun R hR => ?_; simp only [go_sem, u6, u10, u11, hz'])
            | (refine hR _ ?_; clear hR R; try simp only [thenA, inBlockA, reduceIte, reduceCtorEq, Nat.reduceEqDiff, if_false, if_true])
            | (refine hK _ ?_; clear hK K)
            | (clear hK K; refine hK _ ?_; clear hK K)
            | (clear hK K; clear hK K; refine hK _ ?_; clear hK K)
            | (clear hK K; clear hK K; clear hK K; refine hK _ ?_; clear hK K)
            | (clear hK K; clear hK K; clear hK K; clear hK K; refine hK _ ?_; clear hK K)
            | refine awp_true rfl rfl ?_
            | refine awp_false rfl rfl ?_
            | (refine awp_cond rfl rfl (fun hc => ?_) (fun hc => ?_) <;> (try simp only [go_sem, u6, u10, u11, hz'] at hc) <;> (try (exfalso; omega)))
            | refine awp_block ?_
            | (refine awp_skip ?_; try simp only [thenA, inBlockA, reduceIte, reduceCtorEq, Nat.reduceEqDiff, if_false, if_true])
            | (refine awp_exit ?_; try simp only [thenA, inBlockA, reduceIte, reduceCtorEq, Nat.reduceEqDiff, if_false, if_true])
            | (refine awp_ret ?_; try simp only [thenA, inBlockA, reduceIte, reduceCtorEq, Nat.reduceEqDiff, if_false, if_true])
            | (refine runL_split ?_ (fun hc => ?_) (fun hc => ?_); (simp only [go_sem, u6, u10, u11, hz']; exact rfl); all_goals (try simp only [go_sem, hc, u6, u10, u11, hz']); all_goals (try simp only [go_sem, u6, u10, u11, hz'] at hc); all_goals (try (exfalso; omega)))
            | (refine runD_split ?_ (fun hc => ?_) (fun hc => ?_); (simp only [go_sem, u6, u10, u11, hz']; exact rfl); all_goals (try simp only [go_sem, hc, u6, u10, u11, hz']); all_goals (try simp only [go_sem, u6, u10, u11, hz'] at hc); all_goals (try (exfalso; omega)))
            | refine And.intro (by first | omega | exact trivial | rfl | assumption | (apply map_sz; intro a; simp only [go_sem]; done) | ((and_intros <;> first | omega | exact trivial | rfl | assumption | (apply map_sz; intro a; simp only [go_sem]; done) | fail); done) | fail) ?_
            | fail)
          refine ⟨⟨i + 1, nm', ?_, ?_, ?_, ?_, ?_, ?_, ?_, fun a ha => ?_, ?_, ?_, fun a ha => ?_, ?_, hlt⟩, ?_⟩
          case refine_7 => simp only [go_sem, uT]
          case refine_8 =>
            rcases Nat.lt_or_ge a i with h | h
            · simp only [go_sem, ur a h]
            · obtain rfl : a = i := by omega
              rw [hje] at ui; simp only [go_sem, ui]
          case refine_9 => exact (by repeat (first | exact Fr.rfl' _ _ | assumption | refine Fr.updk ?_ (by omega) _))
          case refine_10 => show k + 1 + 1 + 1 < _; simp only [go_sem]; omega
          case refine_11 =>
            obtain ⟨g1, g2, g3⟩ := uknm a (by omega)
            exact ⟨g1, by simp only [go_sem]; omega, g3⟩
          case refine_12 => simp only [go_sem]; omega
          case refine_13 => simp only [go_sem, s10]; omega
          all_goals simp only [go_sem, u5, u6, u7, u8, u9, u10]
          · rfl
    · have hie : i = (parts s).length := by omega
      have hz : ¬ ((i : Int) < ((parts s).length : Int)) := by omega
      obtain ⟨p, hp⟩ : ∃ p, (parts s).length = p + 1 := ⟨(partsL s.us).length, by rw [parts_eq s]; simp⟩
      obtain ⟨q, hq⟩ : ∃ q, (parts t).length = q + 1 := ⟨(partsL t.us).length, by rw [parts_eq t]; simp⟩
      have e1 : ((parts s).length : Int) - 1 = (p : Int) := by omega
      have e2 : ((parts t).length : Int) - 1 = (q : Int) := by omega
      have e3 : (tabA nm (parts s).length (parts t).length i).getD p .junk = .arr (nm p) 0 (parts t).length := tabA_at (by omega) (by omega)
      have e4 : (rowA (parts s) (parts t) p (parts t).length).getD q .junk = bA (gtN (parts s) (parts t) (p, q)) := rowA_at (by omega) (Nat.le_refl _)
      have e5 := hr p (by omega)
      have e6 : gtN (parts s) (parts t) (p, q) = gt s t := by
        rw [gtN_at (a := p) (b := q) (by omega) (by omega)]
        congr 1
        · simp [parts_eq s, show p = (partsL s.us).length by rw [parts_eq s] at hp; simp at hp; exact hp.symm]
        · simp [parts_eq t, show q = (partsL t.us).length by rw [parts_eq t] at hq; simp at hq; exact hq.symm]
      repeat' (first
        | refine awp_seq_k fun K hK => ?_
        | (refine awp_region_k (by kernel_rfl) fun R hR => ?_; simp only [go_sem, s5, s6, s9, s10, hT, hz, e1, e2, e3, e4, e5, e6, Int.toNat_natCast, tabA_len, rowA_len, Nat.mul_one])
        | (refine awp_draw mixed (by kernel_rfl) (by kernel_rfl) fun R hR => ?_; simp only [go_sem, s5, s6, s9, s10, hT, hz, e1, e2, e3, e4, e5, e6, Int.toNat_natCast, tabA_len, rowA_len, Nat.mul_one])
        | (refine hR _ ?_; clear hR R; try simp only [thenA, inBlockA, reduceIte, reduceCtorEq, Nat.reduceEqDiff, if_false, if_true])
        | (refine hK _ ?_; clear hK K)
        | (clear hK K; refine hK _ ?_; clear hK K)
        | (clear hK K; clear hK K; refine hK _ ?_; clear hK K)
        | (clear hK K; clear hK K; clear hK K; refine hK _ ?_; clear hK K)
        | (clear hK K; clear hK K; clear hK K; clear hK K; refine hK _ ?_; clear hK K)
        | refine awp_true rfl rfl ?_
        | refine awp_false rfl rfl ?_
        | (refine awp_cond rfl rfl (fun hc => ?_) (fun hc => ?_) <;> (try simp only [go_sem, s5, s6, s9, s10, hT, hz, e1, e2, e3, e4, e5, e6, Int.toNat_natCast, tabA_len, rowA_len, Nat.mul_one] at hc) <;> (try (exfalso; omega)))
        | refine awp_block ?_
        | (refine awp_skip ?_; try simp only [thenA, inBlockA, reduceIte, reduceCtorEq, Nat.reduceEqDiff, if_false, if_true])
        | (refine awp_exit ?_; try simp only [thenA, inBlockA, reduceIte, reduceCtorEq, Nat.reduceEqDiff, if_false, if_true])
        | (refine awp_ret ?_; try simp only [thenA, inBlockA, reduceIte, reduceCtorEq, Nat.reduceEqDiff, if_false, if_true])
        | (refine runL_split ?_ (fun hc => ?_) (fun hc => ?_); (simp only [go_sem, s5, s6, s9, s10, hT, hz, e1, e2, e3, e4, e5, e6, Int.toNat_natCast, tabA_len, rowA_len, Nat.mul_one]; exact rfl); all_goals (try simp only [go_sem, hc, s5, s6, s9, s10, hT, hz, e1, e2, e3, e4, e5, e6, Int.toNat_natCast, tabA_len, rowA_len, Nat.mul_one]); all_goals (try simp only [go_sem, s5, s6, s9, s10, hT, hz, e1, e2, e3, e4, e5, e6, Int.toNat_natCast, tabA_len, rowA_len, Nat.mul_one] at hc); all_goals (try (exfalso; omega)))
        | (refine runD_split ?_ (fun hc => ?_) (fun hc => ?_); (simp only [go_sem, s5, s6, s9, s10, hT, hz, e1, e2, e3, e4, e5, e6, Int.toNat_natCast, tabA_len, rowA_len, Nat.mul_one]; exact rfl); all_goals (try simp only [go_sem, hc, s5, s6, s9, s10, hT, hz, e1, e2, e3, e4, e5, e6, Int.toNat_natCast, tabA_len, rowA_len, Nat.mul_one]); all_goals (try simp only [go_sem, s5, s6, s9, s10, hT, hz, e1, e2, e3, e4, e5, e6, Int.toNat_natCast, tabA_len, rowA_len, Nat.mul_one] at hc); all_goals (try (exfalso; omega)))
        | refine And.intro (by first | omega | exact trivial | rfl | assumption | (apply map_sz; intro a; simp only [go_sem]; done) | ((and_intros <;> first | omega | exact trivial | rfl | assumption | (apply map_sz; intro a; simp only [go_sem]; done) | fail); done) | fail) ?_
        | fail)
      refine ret_pure (by simp only [Try.results16, resOkL, resOk, Try.ntmps16, List.toList_toArray]; first | decide | (simp only [go_sem]; done) | (simp only [go_sem]; and_intros <;> first | omega | rfl | decide)) ?_ (by repeat (first | exact Fr.rfl' _ _ | assumption | refine Fr.updk ?_ (by omega) _))
      simp only [resA, resV, Try.results16, go_sem]
      all_goals try (first | exact Co.t2 (.dat rfl) (.dat rfl) | exact Co.t3 (.dat rfl) (.dat rfl) (.dat rfl))
      exact .dat rfl
end Go.Proofs.Ytmeekpinkfpnhaa

namespace Go.Proofs.Ytmeekpinkfpnhaa
open Go.RowKit
set_option linter.unusedSimpArgs false
set_option linter.unusedSectionVars false

theorem tmDV_map2 (a b : Tm) : [tmDV a, tmDV b] = [a, b].map tmDV := rfl
theorem ob1 : allOk [0, 1] [.mk 0 1 [.mk 1 0 []], .mk 1 0 []] = 0 := by decide
theorem ob2 : allOk [0, 1] [.mk 0 0 [], .mk 0 1 [.mk 0 0 []]] = 0 := by decide
theorem ob3 : gt (.mk 0 1 [.mk 1 0 []]) (.mk 1 0 []) = true := by rw [gt_eq]; simp [gtStep, same, sameL, Tm.us, Tm.v, Tm.f]
theorem ob4 : gt (.mk 0 0 []) (.mk 0 1 [.mk 0 0 []]) = false := by rw [gt_eq]; simp [gtStep, same, sameL, Tm.us, Tm.v, Tm.f]
theorem ob5 : gt (.mk 0 1 [.mk 0 0 []]) (.mk 0 0 []) = true := by rw [gt_eq]; simp [gtStep, same, sameL, Tm.us, Tm.v, Tm.f]
set_option maxRecDepth 20000 in
theorem orderBegun_tri : Tri Try.prog 17 [] (pure' (bA true)) := by
  refine tri_enter Try.func17 rfl Try.ntmps17 (by simp only [List.length_cons, List.length_nil]; omega) fun w0 h0 k hrd hwr => ?_
  repeat' (first
    | refine awp_seq_k fun K hK => ?_
    | (refine awp_region_k (by kernel_rfl) fun R hR => ?_; simp only [go_sem, ob1, ob2, ob3, ob4, ob5, eq_self, beq_self_eq_true])
    | (refine awp_draw mixed (by kernel_rfl) (by kernel_rfl) fun R hR => ?_; simp only [go_sem, ob1, ob2, ob3, ob4, ob5, eq_self, beq_self_eq_true])
    | (refine hR _ ?_; clear hR R; try simp only [thenA, inBlockA, reduceIte, reduceCtorEq, Nat.reduceEqDiff, if_false, if_true])
    | (refine hK _ ?_; clear hK K)
    | (clear hK K; refine hK _ ?_; clear hK K)
    | (clear hK K; clear hK K; refine hK _ ?_; clear hK K)
    | (clear hK K; clear hK K; clear hK K; refine hK _ ?_; clear hK K)
    | (clear hK K; clear hK K; clear hK K; clear hK K; refine hK _ ?_; clear hK K)
    | refine awp_true rfl rfl ?_
    | refine awp_false rfl rfl ?_
    | (refine awp_cond rfl rfl (fun hc => ?_) (fun hc => ?_) <;> (try simp only [go_sem, ob1, ob2, ob3, ob4, ob5, eq_self, beq_self_eq_true] at hc) <;> (try (exfalso; omega)))
    | refine awp_block ?_
    | (refine awp_skip ?_; try simp only [thenA, inBlockA, reduceIte, reduceCtorEq, Nat.reduceEqDiff, if_false, if_true])
    | (refine awp_exit ?_; try simp only [thenA, inBlockA, reduceIte, reduceCtorEq, Nat.reduceEqDiff, if_false, if_true])
    | (refine awp_ret ?_; try simp only [thenA, inBlockA, reduceIte, reduceCtorEq, Nat.reduceEqDiff, if_false, if_true])
    | (refine runL_split ?_ (fun hc => ?_) (fun hc => ?_); (simp only [go_sem, ob1, ob2, ob3, ob4, ob5, eq_self, beq_self_eq_true]; exact rfl); all_goals (try simp only [go_sem, hc, ob1, ob2, ob3, ob4, ob5, eq_self, beq_self_eq_true]); all_goals (try simp only [go_sem, ob1, ob2, ob3, ob4, ob5, eq_self, beq_self_eq_true] at hc); all_goals (try (exfalso; omega)))
    | (refine runD_split ?_ (fun hc => ?_) (fun hc => ?_); (simp only [go_sem, ob1, ob2, ob3, ob4, ob5, eq_self, beq_self_eq_true]; exact rfl); all_goals (try simp only [go_sem, hc, ob1, ob2, ob3, ob4, ob5, eq_self, beq_self_eq_true]); all_goals (try simp only [go_sem, ob1, ob2, ob3, ob4, ob5, eq_self, beq_self_eq_true] at hc); all_goals (try (exfalso; omega)))
    | (first | (refine CallK.pure (enter65) (small_tri) ?_ ?_; (focus first | ((repeat (first | exact trivial | refine ⟨(by first | exact Or.inl rfl | exact Or.inr rfl), ?_⟩)); done) | (simp only [coL, AV.dat, true_or, or_true, AV.d.injEq, go_sem]; done)); simp only [go_sem, ob1, ob2, ob3, ob4, ob5, eq_self, beq_self_eq_true]) | (refine CallD.pure (enter65) (small_tri) ?_ ?_; (focus first | ((repeat (first | exact trivial | refine ⟨(by first | exact Or.inl rfl | exact Or.inr rfl), ?_⟩)); done) | (simp only [coL, AV.dat, true_or, or_true, AV.d.injEq, go_sem]; done)); simp only [go_sem, ob1, ob2, ob3, ob4, ob5, eq_self, beq_self_eq_true]))
    | (first | (refine CallK.pure (enter67) (va_tri 1) ?_ ?_; (focus first | ((repeat (first | exact trivial | refine ⟨(by first | exact Or.inl rfl | exact Or.inr rfl), ?_⟩)); done) | (simp only [coL, AV.dat, true_or, or_true, AV.d.injEq, go_sem]; done)); simp only [go_sem, ob1, ob2, ob3, ob4, ob5, eq_self, beq_self_eq_true]) | (refine CallD.pure (enter67) (va_tri 1) ?_ ?_; (focus first | ((repeat (first | exact trivial | refine ⟨(by first | exact Or.inl rfl | exact Or.inr rfl), ?_⟩)); done) | (simp only [coL, AV.dat, true_or, or_true, AV.d.injEq, go_sem]; done)); simp only [go_sem, ob1, ob2, ob3, ob4, ob5, eq_self, beq_self_eq_true]))
    | (first | (refine CallK.pure (enter66) (fn_tri 0 []) ?_ ?_; (focus first | ((repeat (first | exact trivial | refine ⟨(by first | exact Or.inl rfl | exact Or.inr rfl), ?_⟩)); done) | (simp only [coL, AV.dat, true_or, or_true, AV.d.injEq, go_sem]; done)); simp only [go_sem, ob1, ob2, ob3, ob4, ob5, eq_self, beq_self_eq_true]) | (refine CallD.pure (enter66) (fn_tri 0 []) ?_ ?_; (focus first | ((repeat (first | exact trivial | refine ⟨(by first | exact Or.inl rfl | exact Or.inr rfl), ?_⟩)); done) | (simp only [coL, AV.dat, true_or, or_true, AV.d.injEq, go_sem]; done)); simp only [go_sem, ob1, ob2, ob3, ob4, ob5, eq_self, beq_self_eq_true]))
    | (first | (refine CallK.pure (enter66) (fn_tri 1 [.mk 1 0 []]) ?_ ?_; (focus first | ((repeat (first | exact trivial | refine ⟨(by first | exact Or.inl rfl | exact Or.inr rfl), ?_⟩)); done) | (simp only [coL, AV.dat, true_or, or_true, AV.d.injEq, go_sem]; done)); simp only [go_sem, ob1, ob2, ob3, ob4, ob5, eq_self, beq_self_eq_true]) | (refine CallD.pure (enter66) (fn_tri 1 [.mk 1 0 []]) ?_ ?_; (focus first | ((repeat (first | exact trivial | refine ⟨(by first | exact Or.inl rfl | exact Or.inr rfl), ?_⟩)); done) | (simp only [coL, AV.dat, true_or, or_true, AV.d.injEq, go_sem]; done)); simp only [go_sem, ob1, ob2, ob3, ob4, ob5, eq_self, beq_self_eq_true]))
    | (first | (refine CallK.pure (enter66) (fn_tri 1 [.mk 0 0 []]) ?_ ?_; (focus first | ((repeat (first | exact trivial | refine ⟨(by first | exact Or.inl rfl | exact Or.inr rfl), ?_⟩)); done) | (simp only [coL, AV.dat, true_or, or_true, AV.d.injEq, go_sem]; done)); simp only [go_sem, ob1, ob2, ob3, ob4, ob5, eq_self, beq_self_eq_true]) | (refine CallD.pure (enter66) (fn_tri 1 [.mk 0 0 []]) ?_ ?_; (focus first | ((repeat (first | exact trivial | refine ⟨(by first | exact Or.inl rfl | exact Or.inr rfl), ?_⟩)); done) | (simp only [coL, AV.dat, true_or, or_true, AV.d.injEq, go_sem]; done)); simp only [go_sem, ob1, ob2, ob3, ob4, ob5, eq_self, beq_self_eq_true]))
    | (first | (refine CallK.pure (enter13) (greater_tri [0, 1] (.mk 0 1 [.mk 1 0 []]) (.mk 1 0 [])) ?_ ?_; (focus first | ((repeat (first | exact trivial | refine ⟨(by first | exact Or.inl rfl | exact Or.inr rfl), ?_⟩)); done) | (simp only [coL, AV.dat, true_or, or_true, AV.d.injEq, go_sem]; done)); simp only [go_sem, ob1, ob2, ob3, ob4, ob5, eq_self, beq_self_eq_true]) | (refine CallD.pure (enter13) (greater_tri [0, 1] (.mk 0 1 [.mk 1 0 []]) (.mk 1 0 [])) ?_ ?_; (focus first | ((repeat (first | exact trivial | refine ⟨(by first | exact Or.inl rfl | exact Or.inr rfl), ?_⟩)); done) | (simp only [coL, AV.dat, true_or, or_true, AV.d.injEq, go_sem]; done)); simp only [go_sem, ob1, ob2, ob3, ob4, ob5, eq_self, beq_self_eq_true]))
    | (first | (refine CallK.pure (enter14) (compare_tri [0, 1] (.mk 0 0 []) (.mk 0 1 [.mk 0 0 []])) ?_ ?_; (focus first | ((repeat (first | exact trivial | refine ⟨(by first | exact Or.inl rfl | exact Or.inr rfl), ?_⟩)); done) | (simp only [coL, AV.dat, true_or, or_true, AV.d.injEq, go_sem]; done)); simp only [go_sem, ob1, ob2, ob3, ob4, ob5, eq_self, beq_self_eq_true]) | (refine CallD.pure (enter14) (compare_tri [0, 1] (.mk 0 0 []) (.mk 0 1 [.mk 0 0 []])) ?_ ?_; (focus first | ((repeat (first | exact trivial | refine ⟨(by first | exact Or.inl rfl | exact Or.inr rfl), ?_⟩)); done) | (simp only [coL, AV.dat, true_or, or_true, AV.d.injEq, go_sem]; done)); simp only [go_sem, ob1, ob2, ob3, ob4, ob5, eq_self, beq_self_eq_true]))
    | refine And.intro (by first | omega | exact trivial | rfl | assumption | (apply map_sz; intro a; simp only [go_sem]; done) | ((and_intros <;> first | omega | exact trivial | rfl | assumption | (apply map_sz; intro a; simp only [go_sem]; done) | fail); done) | fail) ?_
    | fail)
  refine ret_pure (by simp only [Try.results17, resOkL, resOk, Try.ntmps17, List.toList_toArray]; first | decide | (simp only [go_sem]; done) | (simp only [go_sem]; and_intros <;> first | omega | rfl | decide)) ?_ (by repeat (first | exact Fr.rfl' _ _ | assumption | refine Fr.updk ?_ (by omega) _))
  simp only [resA, resV, Try.results17, go_sem]
  all_goals try (first | exact Co.t2 (.dat rfl) (.dat rfl) | exact Co.t3 (.dat rfl) (.dat rfl) (.dat rfl))
  exact .dat rfl
set_option maxHeartbeats 4000000 in
set_option maxRecDepth 20000 in
theorem orderTells_tri (g : List Int) (s t : Tm) (hs : s.fits) (ht : t.fits) : Tri Try.prog 3 [.d (sgDV g), .d (tmDV s), .d (tmDV t)] (pure' (bA true)) := by
  refine tri_enter Try.func3 rfl Try.ntmps3 (by simp only [List.length_cons, List.length_nil]; omega) fun w0 h0 k hrd hwr => ?_
  cases h : allOk g [s, t] == 0 with
  | true =>
    obtain ⟨_, h2⟩ := allOk_own (beq_iff_eq.1 h)
    have os := h2 s (by simp)
    have ot := h2 t (by simp)
    have ps := own_parts os
    have pt := own_parts ot
    have h0 : allOk g [s, t] = 0 := beq_iff_eq.1 h
    have c1 := greaterOf_tri s t hs ht (by omega) (by omega) (own_arit os ot) (fun u hu => own_v os hu) (fun u hu => own_v ot hu)
    have c2 := greaterOf_tri t s ht hs (by omega) (by omega) (own_arit ot os) (fun u hu => own_v ot hu) (fun u hu => own_v os hu)
    unfold GreSpec at c1 c2
    cases h4 : gt s t with
    | true =>
      rw [h4] at c1
      repeat' (first
        | refine awp_seq_k fun K hK => ?_
        | (refine awp_region_k (by kernel_rfl) fun R hR => ?_; simp only [go_sem, h0, h4, eq_self, beq_self_eq_true])
        | (refine awp_draw mixed (by kernel_rfl) (by kernel_rfl) fun R hR => ?_; simp only [go_sem, h0, h4, eq_self, beq_self_eq_true])
        | (refine hR _ ?_; clear hR R; try simp only [thenA, inBlockA, reduceIte, reduceCtorEq, Nat.reduceEqDiff, if_false, if_true])
        | (refine hK _ ?_; clear hK K)
        | (clear hK K; refine hK _ ?_; clear hK K)
        | (clear hK K; clear hK K; refine hK _ ?_; clear hK K)
        | (clear hK K; clear hK K; clear hK K; refine hK _ ?_; clear hK K)
        | (clear hK K; clear hK K; clear hK K; clear hK K; refine hK _ ?_; clear hK K)
        | refine awp_true rfl rfl ?_
        | refine awp_false rfl rfl ?_
        | (refine awp_cond rfl rfl (fun hc => ?_) (fun hc => ?_) <;> (try simp only [go_sem, h0, h4, eq_self, beq_self_eq_true] at hc) <;> (try (exfalso; omega)))
        | refine awp_block ?_
        | (refine awp_skip ?_; try simp only [thenA, inBlockA, reduceIte, reduceCtorEq, Nat.reduceEqDiff, if_false, if_true])
        | (refine awp_exit ?_; try simp only [thenA, inBlockA, reduceIte, reduceCtorEq, Nat.reduceEqDiff, if_false, if_true])
        | (refine awp_ret ?_; try simp only [thenA, inBlockA, reduceIte, reduceCtorEq, Nat.reduceEqDiff, if_false, if_true])
        | (refine runL_split ?_ (fun hc => ?_) (fun hc => ?_); (simp only [go_sem, h0, h4, eq_self, beq_self_eq_true]; exact rfl); all_goals (try simp only [go_sem, hc, h0, h4, eq_self, beq_self_eq_true]); all_goals (try simp only [go_sem, h0, h4, eq_self, beq_self_eq_true] at hc); all_goals (try (exfalso; omega)))
        | (refine runD_split ?_ (fun hc => ?_) (fun hc => ?_); (simp only [go_sem, h0, h4, eq_self, beq_self_eq_true]; exact rfl); all_goals (try simp only [go_sem, hc, h0, h4, eq_self, beq_self_eq_true]); all_goals (try simp only [go_sem, h0, h4, eq_self, beq_self_eq_true] at hc); all_goals (try (exfalso; omega)))
        | (first | (refine CallK.pure (enter13) (greater_tri g s t) ?_ ?_; (focus first | ((repeat (first | exact trivial | refine ⟨(by first | exact Or.inl rfl | exact Or.inr rfl), ?_⟩)); done) | (simp only [coL, AV.dat, true_or, or_true, AV.d.injEq, go_sem]; done)); simp only [go_sem, h0, h4, eq_self, beq_self_eq_true]) | (refine CallD.pure (enter13) (greater_tri g s t) ?_ ?_; (focus first | ((repeat (first | exact trivial | refine ⟨(by first | exact Or.inl rfl | exact Or.inr rfl), ?_⟩)); done) | (simp only [coL, AV.dat, true_or, or_true, AV.d.injEq, go_sem]; done)); simp only [go_sem, h0, h4, eq_self, beq_self_eq_true]))
        | (first | (refine CallK.pure (enter14) (compare_tri g s t) ?_ ?_; (focus first | ((repeat (first | exact trivial | refine ⟨(by first | exact Or.inl rfl | exact Or.inr rfl), ?_⟩)); done) | (simp only [coL, AV.dat, true_or, or_true, AV.d.injEq, go_sem]; done)); simp only [go_sem, h0, h4, eq_self, beq_self_eq_true]) | (refine CallD.pure (enter14) (compare_tri g s t) ?_ ?_; (focus first | ((repeat (first | exact trivial | refine ⟨(by first | exact Or.inl rfl | exact Or.inr rfl), ?_⟩)); done) | (simp only [coL, AV.dat, true_or, or_true, AV.d.injEq, go_sem]; done)); simp only [go_sem, h0, h4, eq_self, beq_self_eq_true]))
        | (first | (refine CallK.pure (enter15) (checkTerms_tri g [s, t]) ?_ ?_; (focus first | ((repeat (first | exact trivial | refine ⟨(by first | exact Or.inl rfl | exact Or.inr rfl), ?_⟩)); done) | (simp only [coL, AV.dat, true_or, or_true, AV.d.injEq, go_sem]; done)); simp only [go_sem, h0, h4, eq_self, beq_self_eq_true]) | (refine CallD.pure (enter15) (checkTerms_tri g [s, t]) ?_ ?_; (focus first | ((repeat (first | exact trivial | refine ⟨(by first | exact Or.inl rfl | exact Or.inr rfl), ?_⟩)); done) | (simp only [coL, AV.dat, true_or, or_true, AV.d.injEq, go_sem]; done)); simp only [go_sem, h0, h4, eq_self, beq_self_eq_true]))
        | (first | (refine CallK.pure (enter16) (c1) ?_ ?_; (focus first | ((repeat (first | exact trivial | refine ⟨(by first | exact Or.inl rfl | exact Or.inr rfl), ?_⟩)); done) | (simp only [coL, AV.dat, true_or, or_true, AV.d.injEq, go_sem]; done)); simp only [go_sem, h0, h4, eq_self, beq_self_eq_true]) | (refine CallD.pure (enter16) (c1) ?_ ?_; (focus first | ((repeat (first | exact trivial | refine ⟨(by first | exact Or.inl rfl | exact Or.inr rfl), ?_⟩)); done) | (simp only [coL, AV.dat, true_or, or_true, AV.d.injEq, go_sem]; done)); simp only [go_sem, h0, h4, eq_self, beq_self_eq_true]))
        | (first | (refine CallK.pure (enter17) (orderBegun_tri) ?_ ?_; (focus first | ((repeat (first | exact trivial | refine ⟨(by first | exact Or.inl rfl | exact Or.inr rfl), ?_⟩)); done) | (simp only [coL, AV.dat, true_or, or_true, AV.d.injEq, go_sem]; done)); simp only [go_sem, h0, h4, eq_self, beq_self_eq_true]) | (refine CallD.pure (enter17) (orderBegun_tri) ?_ ?_; (focus first | ((repeat (first | exact trivial | refine ⟨(by first | exact Or.inl rfl | exact Or.inr rfl), ?_⟩)); done) | (simp only [coL, AV.dat, true_or, or_true, AV.d.injEq, go_sem]; done)); simp only [go_sem, h0, h4, eq_self, beq_self_eq_true]))
        | refine And.intro (by first | omega | exact trivial | rfl | assumption | (apply map_sz; intro a; simp only [go_sem]; done) | ((and_intros <;> first | omega | exact trivial | rfl | assumption | (apply map_sz; intro a; simp only [go_sem]; done) | fail); done) | fail) ?_
        | fail)
      refine ret_pure (by simp only [Try.results3, resOkL, resOk, Try.ntmps3, List.toList_toArray]; first | decide | (simp only [go_sem]; done) | (simp only [go_sem]; and_intros <;> first | omega | rfl | decide)) ?_ (by repeat (first | exact Fr.rfl' _ _ | assumption | refine Fr.updk ?_ (by omega) _))
      simp only [resA, resV, Try.results3, go_sem]
      all_goals try (first | exact Co.t2 (.dat rfl) (.dat rfl) | exact Co.t3 (.dat rfl) (.dat rfl) (.dat rfl))
      exact .dat rfl
    | false =>
      rw [h4] at c1
      cases h5 : gt t s with
      | true =>
        rw [h5] at c2
        repeat' (first
          | refine awp_seq_k fun K hK => ?_
          | (refine awp_region_k (by kernel_rfl) fun R hR => ?_; simp only [go_sem, h0, h4, h5, eq_self, beq_self_eq_true])
          | (refine awp_draw mixed (by kernel_rfl) (by kernel_rfl) fun R hR => ?_; simp only [go_sem, h0, h4, h5, eq_self, beq_self_eq_true])
          | (refine hR _ ?_; clear hR R; try simp only [thenA, inBlockA, reduceIte, reduceCtorEq, Nat.reduceEqDiff, if_false, if_true])
          | (refine hK _ ?_; clear hK K)
          | (clear hK K; refine hK _ ?_; clear hK K)
          | (clear hK K; clear hK K; refine hK _ ?_; clear hK K)
          | (clear hK K; clear hK K; clear hK K; refine hK _ ?_; clear hK K)
          | (clear hK K; clear hK K; clear hK K; clear hK K; refine hK _ ?_; clear hK K)
          | refine awp_true rfl rfl ?_
          | refine awp_false rfl rfl ?_
          | (refine awp_cond rfl rfl (fun hc => ?_) (fun hc => ?_) <;> (try simp only [go_sem, h0, h4, h5, eq_self, beq_self_eq_true] at hc) <;> (try (exfalso; omega)))
          | refine awp_block ?_
          | (refine awp_skip ?_; try simp only [thenA, inBlockA, reduceIte, reduceCtorEq, Nat.reduceEqDiff, if_false, if_true])
          | (refine awp_exit ?_; try simp only [thenA, inBlockA, reduceIte, reduceCtorEq, Nat.reduceEqDiff, if_false, if_true])
          | (refine awp_ret ?_; try simp only [thenA, inBlockA, reduceIte, reduceCtorEq, Nat.reduceEqDiff, if_false, if_true])
          | (refine runL_split ?_ (fun hc => ?_) (fun hc => ?_); (simp only [go_sem, h0, h4, h5, eq_self, beq_self_eq_true]; exact rfl); all_goals (try simp only [go_sem, hc, h0, h4, h5, eq_self, beq_self_eq_true]); all_goals (try simp only [go_sem, h0, h4, h5, eq_self, beq_self_eq_true] at hc); all_goals (try (exfalso; omega)))
          | (refine runD_split ?_ (fun hc => ?_) (fun hc => ?_); (simp only [go_sem, h0, h4, h5, eq_self, beq_self_eq_true]; exact rfl); all_goals (try simp only [go_sem, hc, h0, h4, h5, eq_self, beq_self_eq_true]); all_goals (try simp only [go_sem, h0, h4, h5, eq_self, beq_self_eq_true] at hc); all_goals (try (exfalso; omega)))
          | (first | (refine CallK.pure (enter13) (greater_tri g s t) ?_ ?_; (focus first | ((repeat (first | exact trivial | refine ⟨(by first | exact Or.inl rfl | exact Or.inr rfl), ?_⟩)); done) | (simp only [coL, AV.dat, true_or, or_true, AV.d.injEq, go_sem]; done)); simp only [go_sem, h0, h4, h5, eq_self, beq_self_eq_true]) | (refine CallD.pure (enter13) (greater_tri g s t) ?_ ?_; (focus first | ((repeat (first | exact trivial | refine ⟨(by first | exact Or.inl rfl | exact Or.inr rfl), ?_⟩)); done) | (simp only [coL, AV.dat, true_or, or_true, AV.d.injEq, go_sem]; done)); simp only [go_sem, h0, h4, h5, eq_self, beq_self_eq_true]))
          | (first | (refine CallK.pure (enter14) (compare_tri g s t) ?_ ?_; (focus first | ((repeat (first | exact trivial | refine ⟨(by first | exact Or.inl rfl | exact Or.inr rfl), ?_⟩)); done) | (simp only [coL, AV.dat, true_or, or_true, AV.d.injEq, go_sem]; done)); simp only [go_sem, h0, h4, h5, eq_self, beq_self_eq_true]) | (refine CallD.pure (enter14) (compare_tri g s t) ?_ ?_; (focus first | ((repeat (first | exact trivial | refine ⟨(by first | exact Or.inl rfl | exact Or.inr rfl), ?_⟩)); done) | (simp only [coL, AV.dat, true_or, or_true, AV.d.injEq, go_sem]; done)); simp only [go_sem, h0, h4, h5, eq_self, beq_self_eq_true]))
          | (first | (refine CallK.pure (enter15) (checkTerms_tri g [s, t]) ?_ ?_; (focus first | ((repeat (first | exact trivial | refine ⟨(by first | exact Or.inl rfl | exact Or.inr rfl), ?_⟩)); done) | (simp only [coL, AV.dat, true_or, or_true, AV.d.injEq, go_sem]; done)); simp only [go_sem, h0, h4, h5, eq_self, beq_self_eq_true]) | (refine CallD.pure (enter15) (checkTerms_tri g [s, t]) ?_ ?_; (focus first | ((repeat (first | exact trivial | refine ⟨(by first | exact Or.inl rfl | exact Or.inr rfl), ?_⟩)); done) | (simp only [coL, AV.dat, true_or, or_true, AV.d.injEq, go_sem]; done)); simp only [go_sem, h0, h4, h5, eq_self, beq_self_eq_true]))
          | (first | (refine CallK.pure (enter16) (c1) ?_ ?_; (focus first | ((repeat (first | exact trivial | refine ⟨(by first | exact Or.inl rfl | exact Or.inr rfl), ?_⟩)); done) | (simp only [coL, AV.dat, true_or, or_true, AV.d.injEq, go_sem]; done)); simp only [go_sem, h0, h4, h5, eq_self, beq_self_eq_true]) | (refine CallD.pure (enter16) (c1) ?_ ?_; (focus first | ((repeat (first | exact trivial | refine ⟨(by first | exact Or.inl rfl | exact Or.inr rfl), ?_⟩)); done) | (simp only [coL, AV.dat, true_or, or_true, AV.d.injEq, go_sem]; done)); simp only [go_sem, h0, h4, h5, eq_self, beq_self_eq_true]))
          | (first | (refine CallK.pure (enter16) (c2) ?_ ?_; (focus first | ((repeat (first | exact trivial | refine ⟨(by first | exact Or.inl rfl | exact Or.inr rfl), ?_⟩)); done) | (simp only [coL, AV.dat, true_or, or_true, AV.d.injEq, go_sem]; done)); simp only [go_sem, h0, h4, h5, eq_self, beq_self_eq_true]) | (refine CallD.pure (enter16) (c2) ?_ ?_; (focus first | ((repeat (first | exact trivial | refine ⟨(by first | exact Or.inl rfl | exact Or.inr rfl), ?_⟩)); done) | (simp only [coL, AV.dat, true_or, or_true, AV.d.injEq, go_sem]; done)); simp only [go_sem, h0, h4, h5, eq_self, beq_self_eq_true]))
          | (first | (refine CallK.pure (enter17) (orderBegun_tri) ?_ ?_; (focus first | ((repeat (first | exact trivial | refine ⟨(by first | exact Or.inl rfl | exact Or.inr rfl), ?_⟩)); done) | (simp only [coL, AV.dat, true_or, or_true, AV.d.injEq, go_sem]; done)); simp only [go_sem, h0, h4, h5, eq_self, beq_self_eq_true]) | (refine CallD.pure (enter17) (orderBegun_tri) ?_ ?_; (focus first | ((repeat (first | exact trivial | refine ⟨(by first | exact Or.inl rfl | exact Or.inr rfl), ?_⟩)); done) | (simp only [coL, AV.dat, true_or, or_true, AV.d.injEq, go_sem]; done)); simp only [go_sem, h0, h4, h5, eq_self, beq_self_eq_true]))
          | refine And.intro (by first | omega | exact trivial | rfl | assumption | (apply map_sz; intro a; simp only [go_sem]; done) | ((and_intros <;> first | omega | exact trivial | rfl | assumption | (apply map_sz; intro a; simp only [go_sem]; done) | fail); done) | fail) ?_
          | fail)
        refine ret_pure (by simp only [Try.results3, resOkL, resOk, Try.ntmps3, List.toList_toArray]; first | decide | (simp only [go_sem]; done) | (simp only [go_sem]; and_intros <;> first | omega | rfl | decide)) ?_ (by repeat (first | exact Fr.rfl' _ _ | assumption | refine Fr.updk ?_ (by omega) _))
        simp only [resA, resV, Try.results3, go_sem]
        all_goals try (first | exact Co.t2 (.dat rfl) (.dat rfl) | exact Co.t3 (.dat rfl) (.dat rfl) (.dat rfl))
        exact .dat rfl
      | false =>
        rw [h5] at c2
        repeat' (first
          | refine awp_seq_k fun K hK => ?_
          | (refine awp_region_k (by kernel_rfl) fun R hR => ?_; simp only [go_sem, h0, h4, h5, eq_self, beq_self_eq_true])
          | (refine awp_draw mixed (by kernel_rfl) (by kernel_rfl) fun R hR => ?_; simp only [go_sem, h0, h4, h5, eq_self, beq_self_eq_true])
          | (refine hR _ ?_; clear hR R; try simp only [thenA, inBlockA, reduceIte, reduceCtorEq, Nat.reduceEqDiff, if_false, if_true])
          | (refine hK _ ?_; clear hK K)
          | (clear hK K; refine hK _ ?_; clear hK K)
          | (clear hK K; clear hK K; refine hK _ ?_; clear hK K)
          | (clear hK K; clear hK K; clear hK K; refine hK _ ?_; clear hK K)
          | (clear hK K; clear hK K; clear hK K; clear hK K; refine hK _ ?_; clear hK K)
          | refine awp_true rfl rfl ?_
          | refine awp_false rfl rfl ?_
          | (refine awp_cond rfl rfl (fun hc => ?_) (fun hc => ?_) <;> (try simp only [go_sem, h0, h4, h5, eq_self, beq_self_eq_true] at hc) <;> (try (exfalso; omega)))
          | refine awp_block ?_
          | (refine awp_skip ?_; try simp only [thenA, inBlockA, reduceIte, reduceCtorEq, Nat.reduceEqDiff, if_false, if_true])
          | (refine awp_exit ?_; try simp only [thenA, inBlockA, reduceIte, reduceCtorEq, Nat.reduceEqDiff, if_false, if_true])
          | (refine awp_ret ?_; try simp only [thenA, inBlockA, reduceIte, reduceCtorEq, Nat.reduceEqDiff, if_false, if_true])
          | (refine runL_split ?_ (fun hc => ?_) (fun hc => ?_); (simp only [go_sem, h0, h4, h5, eq_self, beq_self_eq_true]; exact rfl); all_goals (try simp only [go_sem, hc, h0, h4, h5, eq_self, beq_self_eq_true]); all_goals (try simp only [go_sem, h0, h4, h5, eq_self, beq_self_eq_true] at hc); all_goals (try (exfalso; omega)))
          | (refine runD_split ?_ (fun hc => ?_) (fun hc => ?_); (simp only [go_sem, h0, h4, h5, eq_self, beq_self_eq_true]; exact rfl); all_goals (try simp only [go_sem, hc, h0, h4, h5, eq_self, beq_self_eq_true]); all_goals (try simp only [go_sem, h0, h4, h5, eq_self, beq_self_eq_true] at hc); all_goals (try (exfalso; omega)))
          | (first | (refine CallK.pure (enter13) (greater_tri g s t) ?_ ?_; (focus first | ((repeat (first | exact trivial | refine ⟨(by first | exact Or.inl rfl | exact Or.inr rfl), ?_⟩)); done) | (simp only [coL, AV.dat, true_or, or_true, AV.d.injEq, go_sem]; done)); simp only [go_sem, h0, h4, h5, eq_self, beq_self_eq_true]) | (refine CallD.pure (enter13) (greater_tri g s t) ?_ ?_; (focus first | ((repeat (first | exact trivial | refine ⟨(by first | exact Or.inl rfl | exact Or.inr rfl), ?_⟩)); done) | (simp only [coL, AV.dat, true_or, or_true, AV.d.injEq, go_sem]; done)); simp only [go_sem, h0, h4, h5, eq_self, beq_self_eq_true]))
          | (first | (refine CallK.pure (enter14) (compare_tri g s t) ?_ ?_; (focus first | ((repeat (first | exact trivial | refine ⟨(by first | exact Or.inl rfl | exact Or.inr rfl), ?_⟩)); done) | (simp only [coL, AV.dat, true_or, or_true, AV.d.injEq, go_sem]; done)); simp only [go_sem, h0, h4, h5, eq_self, beq_self_eq_true]) | (refine CallD.pure (enter14) (compare_tri g s t) ?_ ?_; (focus first | ((repeat (first | exact trivial | refine ⟨(by first | exact Or.inl rfl | exact Or.inr rfl), ?_⟩)); done) | (simp only [coL, AV.dat, true_or, or_true, AV.d.injEq, go_sem]; done)); simp only [go_sem, h0, h4, h5, eq_self, beq_self_eq_true]))
          | (first | (refine CallK.pure (enter15) (checkTerms_tri g [s, t]) ?_ ?_; (focus first | ((repeat (first | exact trivial | refine ⟨(by first | exact Or.inl rfl | exact Or.inr rfl), ?_⟩)); done) | (simp only [coL, AV.dat, true_or, or_true, AV.d.injEq, go_sem]; done)); simp only [go_sem, h0, h4, h5, eq_self, beq_self_eq_true]) | (refine CallD.pure (enter15) (checkTerms_tri g [s, t]) ?_ ?_; (focus first | ((repeat (first | exact trivial | refine ⟨(by first | exact Or.inl rfl | exact Or.inr rfl), ?_⟩)); done) | (simp only [coL, AV.dat, true_or, or_true, AV.d.injEq, go_sem]; done)); simp only [go_sem, h0, h4, h5, eq_self, beq_self_eq_true]))
          | (first | (refine CallK.pure (enter16) (c1) ?_ ?_; (focus first | ((repeat (first | exact trivial | refine ⟨(by first | exact Or.inl rfl | exact Or.inr rfl), ?_⟩)); done) | (simp only [coL, AV.dat, true_or, or_true, AV.d.injEq, go_sem]; done)); simp only [go_sem, h0, h4, h5, eq_self, beq_self_eq_true]) | (refine CallD.pure (enter16) (c1) ?_ ?_; (focus first | ((repeat (first | exact trivial | refine ⟨(by first | exact Or.inl rfl | exact Or.inr rfl), ?_⟩)); done) | (simp only [coL, AV.dat, true_or, or_true, AV.d.injEq, go_sem]; done)); simp only [go_sem, h0, h4, h5, eq_self, beq_self_eq_true]))
          | (first | (refine CallK.pure (enter16) (c2) ?_ ?_; (focus first | ((repeat (first | exact trivial | refine ⟨(by first | exact Or.inl rfl | exact Or.inr rfl), ?_⟩)); done) | (simp only [coL, AV.dat, true_or, or_true, AV.d.injEq, go_sem]; done)); simp only [go_sem, h0, h4, h5, eq_self, beq_self_eq_true]) | (refine CallD.pure (enter16) (c2) ?_ ?_; (focus first | ((repeat (first | exact trivial | refine ⟨(by first | exact Or.inl rfl | exact Or.inr rfl), ?_⟩)); done) | (simp only [coL, AV.dat, true_or, or_true, AV.d.injEq, go_sem]; done)); simp only [go_sem, h0, h4, h5, eq_self, beq_self_eq_true]))
          | (first | (refine CallK.pure (enter17) (orderBegun_tri) ?_ ?_; (focus first | ((repeat (first | exact trivial | refine ⟨(by first | exact Or.inl rfl | exact Or.inr rfl), ?_⟩)); done) | (simp only [coL, AV.dat, true_or, or_true, AV.d.injEq, go_sem]; done)); simp only [go_sem, h0, h4, h5, eq_self, beq_self_eq_true]) | (refine CallD.pure (enter17) (orderBegun_tri) ?_ ?_; (focus first | ((repeat (first | exact trivial | refine ⟨(by first | exact Or.inl rfl | exact Or.inr rfl), ?_⟩)); done) | (simp only [coL, AV.dat, true_or, or_true, AV.d.injEq, go_sem]; done)); simp only [go_sem, h0, h4, h5, eq_self, beq_self_eq_true]))
          | refine And.intro (by first | omega | exact trivial | rfl | assumption | (apply map_sz; intro a; simp only [go_sem]; done) | ((and_intros <;> first | omega | exact trivial | rfl | assumption | (apply map_sz; intro a; simp only [go_sem]; done) | fail); done) | fail) ?_
          | fail)
        refine ret_pure (by simp only [Try.results3, resOkL, resOk, Try.ntmps3, List.toList_toArray]; first | decide | (simp only [go_sem]; done) | (simp only [go_sem]; and_intros <;> first | omega | rfl | decide)) ?_ (by repeat (first | exact Fr.rfl' _ _ | assumption | refine Fr.updk ?_ (by omega) _))
        simp only [resA, resV, Try.results3, go_sem]
        all_goals try (first | exact Co.t2 (.dat rfl) (.dat rfl) | exact Co.t3 (.dat rfl) (.dat rfl) (.dat rfl))
        exact .dat rfl
  | false =>
    have h0 : ¬ allOk g [s, t] = 0 := by simpa using h
    repeat' (first
      | refine awp_seq_k fun K hK => ?_
      | (refine awp_region_k (by kernel_rfl) fun R hR => ?_; simp only [go_sem, h, h0, beq_self_eq_true])
      | (refine awp_draw mixed (by kernel_rfl) (by kernel_rfl) fun R hR => ?_; simp only [go_sem, h, h0, beq_self_eq_true])
      | (refine hR _ ?_; clear hR R; try simp only [thenA, inBlockA, reduceIte, reduceCtorEq, Nat.reduceEqDiff, if_false, if_true])
      | (refine hK _ ?_; clear hK K)
      | (clear hK K; refine hK _ ?_; clear hK K)
      | (clear hK K; clear hK K; refine hK _ ?_; clear hK K)
      | (clear hK K; clear hK K; clear hK K; refine hK _ ?_; clear hK K)
      | (clear hK K; clear hK K; clear hK K; clear hK K; refine hK _ ?_; clear hK K)
      | refine awp_true rfl rfl ?_
      | refine awp_false rfl rfl ?_
      | (refine awp_cond rfl rfl (fun hc => ?_) (fun hc => ?_) <;> (try simp only [go_sem, h, h0, beq_self_eq_true] at hc) <;> (try (exfalso; omega)))
      | refine awp_block ?_
      | (refine awp_skip ?_; try simp only [thenA, inBlockA, reduceIte, reduceCtorEq, Nat.reduceEqDiff, if_false, if_true])
      | (refine awp_exit ?_; try simp only [thenA, inBlockA, reduceIte, reduceCtorEq, Nat.reduceEqDiff, if_false, if_true])
      | (refine awp_ret ?_; try simp only [thenA, inBlockA, reduceIte, reduceCtorEq, Nat.reduceEqDiff, if_false, if_true])
      | (refine runL_split ?_ (fun hc => ?_) (fun hc => ?_); (simp only [go_sem, h, h0, beq_self_eq_true]; exact rfl); all_goals (try simp only [go_sem, hc, h, h0, beq_self_eq_true]); all_goals (try simp only [go_sem, h, h0, beq_self_eq_true] at hc); all_goals (try (exfalso; omega)))
      | (refine runD_split ?_ (fun hc => ?_) (fun hc => ?_); (simp only [go_sem, h, h0, beq_self_eq_true]; exact rfl); all_goals (try simp only [go_sem, hc, h, h0, beq_self_eq_true]); all_goals (try simp only [go_sem, h, h0, beq_self_eq_true] at hc); all_goals (try (exfalso; omega)))
      | (first | (refine CallK.pure (enter13) (greater_tri g s t) ?_ ?_; (focus first | ((repeat (first | exact trivial | refine ⟨(by first | exact Or.inl rfl | exact Or.inr rfl), ?_⟩)); done) | (simp only [coL, AV.dat, true_or, or_true, AV.d.injEq, go_sem]; done)); simp only [go_sem, h, h0, beq_self_eq_true]) | (refine CallD.pure (enter13) (greater_tri g s t) ?_ ?_; (focus first | ((repeat (first | exact trivial | refine ⟨(by first | exact Or.inl rfl | exact Or.inr rfl), ?_⟩)); done) | (simp only [coL, AV.dat, true_or, or_true, AV.d.injEq, go_sem]; done)); simp only [go_sem, h, h0, beq_self_eq_true]))
      | (first | (refine CallK.pure (enter14) (compare_tri g s t) ?_ ?_; (focus first | ((repeat (first | exact trivial | refine ⟨(by first | exact Or.inl rfl | exact Or.inr rfl), ?_⟩)); done) | (simp only [coL, AV.dat, true_or, or_true, AV.d.injEq, go_sem]; done)); simp only [go_sem, h, h0, beq_self_eq_true]) | (refine CallD.pure (enter14) (compare_tri g s t) ?_ ?_; (focus first | ((repeat (first | exact trivial | refine ⟨(by first | exact Or.inl rfl | exact Or.inr rfl), ?_⟩)); done) | (simp only [coL, AV.dat, true_or, or_true, AV.d.injEq, go_sem]; done)); simp only [go_sem, h, h0, beq_self_eq_true]))
      | (first | (refine CallK.pure (enter15) (checkTerms_tri g [s, t]) ?_ ?_; (focus first | ((repeat (first | exact trivial | refine ⟨(by first | exact Or.inl rfl | exact Or.inr rfl), ?_⟩)); done) | (simp only [coL, AV.dat, true_or, or_true, AV.d.injEq, go_sem]; done)); simp only [go_sem, h, h0, beq_self_eq_true]) | (refine CallD.pure (enter15) (checkTerms_tri g [s, t]) ?_ ?_; (focus first | ((repeat (first | exact trivial | refine ⟨(by first | exact Or.inl rfl | exact Or.inr rfl), ?_⟩)); done) | (simp only [coL, AV.dat, true_or, or_true, AV.d.injEq, go_sem]; done)); simp only [go_sem, h, h0, beq_self_eq_true]))
      | (first | (refine CallK.pure (enter17) (orderBegun_tri) ?_ ?_; (focus first | ((repeat (first | exact trivial | refine ⟨(by first | exact Or.inl rfl | exact Or.inr rfl), ?_⟩)); done) | (simp only [coL, AV.dat, true_or, or_true, AV.d.injEq, go_sem]; done)); simp only [go_sem, h, h0, beq_self_eq_true]) | (refine CallD.pure (enter17) (orderBegun_tri) ?_ ?_; (focus first | ((repeat (first | exact trivial | refine ⟨(by first | exact Or.inl rfl | exact Or.inr rfl), ?_⟩)); done) | (simp only [coL, AV.dat, true_or, or_true, AV.d.injEq, go_sem]; done)); simp only [go_sem, h, h0, beq_self_eq_true]))
      | refine And.intro (by first | omega | exact trivial | rfl | assumption | (apply map_sz; intro a; simp only [go_sem]; done) | ((and_intros <;> first | omega | exact trivial | rfl | assumption | (apply map_sz; intro a; simp only [go_sem]; done) | fail); done) | fail) ?_
      | fail)
    refine ret_pure (by simp only [Try.results3, resOkL, resOk, Try.ntmps3, List.toList_toArray]; first | decide | (simp only [go_sem]; done) | (simp only [go_sem]; and_intros <;> first | omega | rfl | decide)) ?_ (by repeat (first | exact Fr.rfl' _ _ | assumption | refine Fr.updk ?_ (by omega) _))
    simp only [resA, resV, Try.results3, go_sem]
    all_goals try (first | exact Co.t2 (.dat rfl) (.dat rfl) | exact Co.t3 (.dat rfl) (.dat rfl) (.dat rfl))
    exact .dat rfl
theorem order_law (g : List Int) (s t : Tm) (_ : True) (_ : True) (_ : True) (hb : (g.length + 1) + s.size + t.size ≤ 1048576) : Tri Try.prog 3 [.d (sgDV g), .d (tmDV s), .d (tmDV t)] (pure' (bA true)) :=
  orderTells_tri g s t (by unfold Tm.fits; omega) (by unfold Tm.fits; omega)
end Go.Proofs.Ytmeekpinkfpnhaa
