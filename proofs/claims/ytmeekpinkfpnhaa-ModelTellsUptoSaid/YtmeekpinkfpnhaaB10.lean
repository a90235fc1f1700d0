/- Values of terms in models: model.value, superposeref.ValueOf. Values of terms in models: superposeref.ValueOf, of a list, and of an array that changes. model.Value. Clauses in models: what is plain. No program in sight. Maps: what is worked out of them. model.Holds: its closures. -/
import Derived.Test.YtmeekpinkfpnhaaB09
set_option linter.unusedSimpArgs false
set_option linter.unusedSectionVars false
set_option linter.unusedVariables false
set_option linter.unnecessarySimpa false
set_option linter.all false
namespace Go.Proofs.Ytmeekpinkfpnhaa
open Go.RowKit
set_option linter.unusedSimpArgs false
set_option linter.unusedSectionVars false

section
variable {g : List Int} {sz : Int} {tb : List (List Int)} {vs : Int → Int} (hm : mdOk g sz tb = 0)
include hm
/-- A function's place in a table. -/
theorem md_at {t : Tm} (hf : Fine g sz vs (parts t)) (hv : ¬ t.v > 0) : t.f.toNat < tb.length ∧ 0 ≤ t.f ∧ (∀ h : t.f.toNat < tb.length, ∃ h2 : (valL sz tb vs t.us 0).toNat < tb[t.f.toNat].length, valM sz tb vs t = (tb[t.f.toNat])[(valL sz tb vs t.us 0).toNat]) ∧ 0 ≤ valL sz tb vs t.us 0 ∧ t.us.length ≤ 3 := by
  have h0 := hf t (by rw [parts_eq]; simp)
  obtain ⟨h1, _⟩ := h0
  have hL := valL_ok hm t.us 0 0 (fun x hx => hf x (by rw [parts_eq]; exact List.mem_append_left _ hx)) (by omega) (by simp)
  have hv0 := formOne_v h1
  unfold formOne at h1
  rw [if_neg (by omega)] at h1
  split at h1
  · cases h1
  · split at h1
    · cases h1
    · rename_i h3 h4
      simp only [Nat.zero_add] at hL
      obtain ⟨h5, h6, h7⟩ := md_row hm (f := t.f) (by omega) (by omega)
      have h8 : (g.getD t.f.toNat 0).toNat = t.us.length := by have h4 := Decidable.not_not.1 h4; omega
      rw [h8] at h6
      have h9 : (valL sz tb vs t.us 0).toNat < tb[t.f.toNat].length := by omega
      refine ⟨h5, by omega, fun h => ⟨h9, ?_⟩, hL.1, ?_⟩
      · rw [valM_eq, if_neg hv, getD_at h5, getD_at h9]
      · have h10 := (mdOk_all hm).1
        have h11 : t.f.toNat < g.length := by omega
        have := sig_each h10 _ (List.getElem_mem h11)
        rw [getD_at h11] at h8
        omega
def ValSpec (g : List Int) (sz : Int) (tb : List (List Int)) (vs : Int → Int) (f : FuncId) (caps : List AV) (ro : List (Nm × Ob)) (t : Tm) : Prop :=
  Fine g sz vs (parts t) → (∀ x ∈ parts t, x.v > 0 → Tri Try.prog f ([iA x.v] ++ caps) (rdE ro (iA (vs x.v)))) → Tri Try.prog 73 [.d (mdDV sz tb), .d (tmDV t), .fn (.func f) [] caps] (rdE ro (iA (valM sz tb vs t)))
set_option maxRecDepth 20000 in
theorem value_step (f : FuncId) (hfe : enterOk Try.prog f) (caps : List AV) (ro : List (Nm × Ob)) (hrn : ro ≠ []) (t : Tm) (ih : ∀ u ∈ t.us, ValSpec g sz tb vs f caps ro u) : ValSpec g sz tb vs f caps ro t := by
  intro hf his
  have hsz := mdOk_all hm
  refine tri_enter_ro Try.func73 rfl Try.ntmps73 (by simp only [List.length_cons, List.length_nil]; omega) fun w0 h0 k hro => ?_
  cases hv : decide (t.v > 0) with
  | true =>
    have hv' : t.v > 0 := by simpa using hv
    have h1 := his t (by rw [parts_eq]; simp) hv'
    have e : valM sz tb vs t = vs t.v := by rw [valM_eq, if_pos hv']
    rw [e]
    repeat' (first
      | refine awp_seq_k fun K hK => ?_
      | (refine awp_region_k (by kernel_rfl) fun R hR => ?_; simp only [go_sem, hv])
      | (refine awp_draw mixed (by kernel_rfl) (by kernel_rfl) fun R hR => ?_; simp only [go_sem, hv])
      | (refine hR _ ?_; clear hR R; try simp only [thenA, inBlockA, reduceIte, reduceCtorEq, Nat.reduceEqDiff, if_false, if_true])
      | (refine hK _ ?_; clear hK K)
      | (clear hK K; refine hK _ ?_; clear hK K)
      | (clear hK K; clear hK K; refine hK _ ?_; clear hK K)
      | (clear hK K; clear hK K; clear hK K; refine hK _ ?_; clear hK K)
      | (clear hK K; clear hK K; clear hK K; clear hK K; refine hK _ ?_; clear hK K)
      | refine awp_true rfl rfl ?_
      | refine awp_false rfl rfl ?_
      | (refine awp_cond rfl rfl (fun hc => ?_) (fun hc => ?_) <;> (try simp only [go_sem, hv] at hc) <;> (try (exfalso; omega)))
      | refine awp_block ?_
      | (refine awp_skip ?_; try simp only [thenA, inBlockA, reduceIte, reduceCtorEq, Nat.reduceEqDiff, if_false, if_true])
      | (refine awp_exit ?_; try simp only [thenA, inBlockA, reduceIte, reduceCtorEq, Nat.reduceEqDiff, if_false, if_true])
      | (refine awp_ret ?_; try simp only [thenA, inBlockA, reduceIte, reduceCtorEq, Nat.reduceEqDiff, if_false, if_true])
      | (refine runL_split ?_ (fun hc => ?_) (fun hc => ?_); (simp only [go_sem, hv]; exact rfl); all_goals (try simp only [go_sem, hc, hv]); all_goals (try simp only [go_sem, hv] at hc); all_goals (try (exfalso; omega)))
      | (refine runD_split ?_ (fun hc => ?_) (fun hc => ?_); (simp only [go_sem, hv]; exact rfl); all_goals (try simp only [go_sem, hc, hv]); all_goals (try simp only [go_sem, hv] at hc); all_goals (try (exfalso; omega)))
      | (first | (first | (refine CallK.vlook rfl (hfe) (h1) ?_ (by assumption) (by repeat (first | exact Fr.rfl' _ _ | assumption | refine Fr.updk ?_ (by omega) _)) ?_; (focus first | ((repeat (first | exact trivial | refine ⟨(by first | exact Or.inl rfl | exact Or.inr rfl), ?_⟩)); done) | (simp only [coL, AV.dat, true_or, or_true, AV.d.injEq, go_sem]; done)); simp only [go_sem, hv])) | (first | (refine CallD.vlook rfl (hfe) (h1) ?_ (by assumption) (by repeat (first | exact Fr.rfl' _ _ | assumption | refine Fr.updk ?_ (by omega) _)) (by first | assumption | exact List.cons_ne_nil _ _) ?_; (focus first | ((repeat (first | exact trivial | refine ⟨(by first | exact Or.inl rfl | exact Or.inr rfl), ?_⟩)); done) | (simp only [coL, AV.dat, true_or, or_true, AV.d.injEq, go_sem]; done)); simp only [go_sem, hv])))
      | refine And.intro (by first | omega | exact trivial | rfl | assumption | (apply map_sz; intro a; simp only [go_sem]; done) | ((and_intros <;> first | omega | exact trivial | rfl | assumption | (apply map_sz; intro a; simp only [go_sem]; done) | fail); done) | fail) ?_
      | fail)
    first | refine ret_pure (by simp only [Try.results73, resOkL, resOk, Try.ntmps73, List.toList_toArray]; first | decide | (simp only [go_sem]; done) | (simp only [go_sem]; and_intros <;> first | omega | rfl | decide)) ?_ (by repeat (first | exact Fr.rfl' _ _ | assumption | refine Fr.updk ?_ (by omega) _)) | refine ret_ro (by simp only [Try.results73, resOkL, resOk, Try.ntmps73, List.toList_toArray]; first | decide | (simp only [go_sem]; done) | (simp only [go_sem]; and_intros <;> first | omega | rfl | decide)) ?_ (by repeat (first | exact Fr.rfl' _ _ | assumption | refine Fr.updk ?_ (by omega) _))
    simp only [resA, resV, Try.results73, go_sem]
    all_goals try (first | exact Co.t2 (.dat rfl) (.dat rfl) | exact Co.t3 (.dat rfl) (.dat rfl) (.dat rfl))
    exact .dat rfl
  | false =>
    have hv' : ¬ t.v > 0 := by simpa using hv
    obtain ⟨a1, a2, a3, a4, a5⟩ := md_at hm hf hv'
    obtain ⟨a6, a7⟩ := a3 a1
    repeat' (first
      | refine awp_seq_k fun K hK => ?_
      | (refine awp_region_k (by kernel_rfl) fun R hR => ?_; simp only [go_sem, hv])
      | (refine awp_draw mixed (by kernel_rfl) (by kernel_rfl) fun R hR => ?_; simp only [go_sem, hv])
      | (refine hR _ ?_; clear hR R; try simp only [thenA, inBlockA, reduceIte, reduceCtorEq, Nat.reduceEqDiff, if_false, if_true])
      | (refine hK _ ?_; clear hK K)
      | (clear hK K; refine hK _ ?_; clear hK K)
      | (clear hK K; clear hK K; refine hK _ ?_; clear hK K)
      | (clear hK K; clear hK K; clear hK K; refine hK _ ?_; clear hK K)
      | (clear hK K; clear hK K; clear hK K; clear hK K; refine hK _ ?_; clear hK K)
      | refine awp_true rfl rfl ?_
      | refine awp_false rfl rfl ?_
      | (refine awp_cond rfl rfl (fun hc => ?_) (fun hc => ?_) <;> (try simp only [go_sem, hv] at hc) <;> (try (exfalso; omega)))
      | refine awp_block ?_
      | (refine awp_skip ?_; try simp only [thenA, inBlockA, reduceIte, reduceCtorEq, Nat.reduceEqDiff, if_false, if_true])
      | (refine awp_exit ?_; try simp only [thenA, inBlockA, reduceIte, reduceCtorEq, Nat.reduceEqDiff, if_false, if_true])
      | (refine awp_ret ?_; try simp only [thenA, inBlockA, reduceIte, reduceCtorEq, Nat.reduceEqDiff, if_false, if_true])
      | (refine runL_split ?_ (fun hc => ?_) (fun hc => ?_); (simp only [go_sem, hv]; exact rfl); all_goals (try simp only [go_sem, hc, hv]); all_goals (try simp only [go_sem, hv] at hc); all_goals (try (exfalso; omega)))
      | (refine runD_split ?_ (fun hc => ?_) (fun hc => ?_); (simp only [go_sem, hv]; exact rfl); all_goals (try simp only [go_sem, hc, hv]); all_goals (try simp only [go_sem, hv] at hc); all_goals (try (exfalso; omega)))
      | refine And.intro (by first | omega | exact trivial | rfl | assumption | (apply map_sz; intro a; simp only [go_sem]; done) | ((and_intros <;> first | omega | exact trivial | rfl | assumption | (apply map_sz; intro a; simp only [go_sem]; done) | fail); done) | fail) ?_
      | fail)
    refine awp_loop (fun σ => ∃ i : Nat, σ.t 2 = .fn (.func f) [] caps ∧ σ.t 3 = .ptr (k, 0) 0 ∧ σ.t 4 = .ptr (k, 1) 0 ∧ σ.t 7 = iA (valL sz tb vs (t.us.take i) 0) ∧ σ.t 18 = .d (.sl (t.us.map tmDV)) ∧ σ.t 19 = iA t.us.length ∧ σ.t 20 = iA i ∧ σ.h (k, 0) = some (.cells 39 [iA sz, .d (.sl (tb.map gI))]) ∧ σ.h (k, 1) = some (.cells 27 [iA t.v, iA t.f, .d (.sl (t.us.map tmDV))]) ∧ Fr k h0 σ.h ∧ k < σ.k ∧ i ≤ t.us.length) (fun σ => t.us.length - (intOf' (σ.t 20)).toNat) ?_ ?_
    · refine ⟨0, ?_⟩
      simp only [go_sem, List.take_zero]
      and_intros; all_goals try (first | rfl | omega | assumption | ((repeat (first | exact Fr.rfl' _ _ | assumption | refine Fr.updk ?_ (by omega) _)); done))
    · rintro σ ⟨i, s2, s3, s4, s7, s18, s19, s20, sh, sh', hF, hk, hi⟩
      have hne := ltne hk
      have hb := valL_ok hm (t.us.take i) 0 0 (hf.take i) (by omega) (by simp)
      simp only [Nat.zero_add, List.length_take] at hb
      have hp := pw_le hsz.2.1 hsz.2.2.1 (i := min i t.us.length) (by omega)
      rcases Nat.lt_or_ge i t.us.length with hlt | hge
      · have hz : (i : Int) < (t.us.length : Int) := by omega
        have e1 : (t.us.map tmDV).getD i default = tmDV t.us[i] := nth_map tmDV hlt _
        have hu := List.getElem_mem hlt
        have h1 := ih _ hu (fun x hx => hf x (parts_sub hu x hx)) (fun x hx => his x (parts_sub hu x hx))
        have hb' := valM_ok hm t.us[i] (fun x hx => hf x (parts_sub hu x hx))
        have e2 := valL_take (sz := sz) (tb := tb) (vs := vs) hlt 0
        generalize valL sz tb vs (t.us.take i) 0 = a at *
        have hbd : 0 ≤ a * sz ∧ a * sz ≤ 20000 := by
          have : sz = 1 ∨ sz = 2 ∨ sz = 3 := by omega
          rcases this with h | h | h <;> rw [h] at hb hp ⊢ <;> omega
        repeat' (first
          | refine awp_seq_k fun K hK => ?_
          | (refine awp_region_k (by kernel_rfl) fun R hR => ?_; simp only [go_sem, s2, s3, s4, s7, s18, s19, s20, sh, sh', hz, e1, hne, ← e2, Nat.reduceBEq, ite_self, implies_true, Int.toNat_natCast])
          | (refine awp_draw mixed (by kernel_rfl) (by kernel_rfl) fun R hR => ?_; simp only [go_sem, s2, s3, s4, s7, s18, s19, s20, sh, sh', hz, e1, hne, ← e2, Nat.reduceBEq, ite_self, implies_true, Int.toNat_natCast])
          | (refine hR _ ?_; clear hR R; try simp only [thenA, inBlockA, reduceIte, reduceCtorEq, Nat.reduceEqDiff, if_false, if_true])
          | (refine hK _ ?_; clear hK K)
          | (clear hK K; refine hK _ ?_; clear hK K)
          | (clear hK K; clear hK K; refine hK _ ?_; clear hK K)
          | (clear hK K; clear hK K; clear hK K; refine hK _ ?_; clear hK K)
          | (clear hK K; clear hK K; clear hK K; clear hK K; refine hK _ ?_; clear hK K)
          | refine awp_true rfl rfl ?_
          | refine awp_false rfl rfl ?_
          | (refine awp_cond rfl rfl (fun hc => ?_) (fun hc => ?_) <;> (try simp only [go_sem, s2, s3, s4, s7, s18, s19, s20, sh, sh', hz, e1, hne, ← e2, Nat.reduceBEq, ite_self, implies_true, Int.toNat_natCast] at hc) <;> (try (exfalso; omega)))
          | refine awp_block ?_
          | (refine awp_skip ?_; try simp only [thenA, inBlockA, reduceIte, reduceCtorEq, Nat.reduceEqDiff, if_false, if_true])
          | (refine awp_exit ?_; try simp only [thenA, inBlockA, reduceIte, reduceCtorEq, Nat.reduceEqDiff, if_false, if_true])
          | (refine awp_ret ?_; try simp only [thenA, inBlockA, reduceIte, reduceCtorEq, Nat.reduceEqDiff, if_false, if_true])
          | (refine runL_split ?_ (fun hc => ?_) (fun hc => ?_); (simp only [go_sem, s2, s3, s4, s7, s18, s19, s20, sh, sh', hz, e1, hne, ← e2, Nat.reduceBEq, ite_self, implies_true, Int.toNat_natCast]; exact rfl); all_goals (try simp only [go_sem, hc, s2, s3, s4, s7, s18, s19, s20, sh, sh', hz, e1, hne, ← e2, Nat.reduceBEq, ite_self, implies_true, Int.toNat_natCast]); all_goals (try simp only [go_sem, s2, s3, s4, s7, s18, s19, s20, sh, sh', hz, e1, hne, ← e2, Nat.reduceBEq, ite_self, implies_true, Int.toNat_natCast] at hc); all_goals (try (exfalso; omega)))
          | (refine runD_split ?_ (fun hc => ?_) (fun hc => ?_); (simp only [go_sem, s2, s3, s4, s7, s18, s19, s20, sh, sh', hz, e1, hne, ← e2, Nat.reduceBEq, ite_self, implies_true, Int.toNat_natCast]; exact rfl); all_goals (try simp only [go_sem, hc, s2, s3, s4, s7, s18, s19, s20, sh, sh', hz, e1, hne, ← e2, Nat.reduceBEq, ite_self, implies_true, Int.toNat_natCast]); all_goals (try simp only [go_sem, s2, s3, s4, s7, s18, s19, s20, sh, sh', hz, e1, hne, ← e2, Nat.reduceBEq, ite_self, implies_true, Int.toNat_natCast] at hc); all_goals (try (exfalso; omega)))
          | (first | (first | (refine CallK.look (enter73) (h1) ?_ (by assumption) (by repeat (first | exact Fr.rfl' _ _ | assumption | refine Fr.updk ?_ (by omega) _)) ?_; (focus first | ((repeat (first | exact trivial | refine ⟨(by first | exact Or.inl rfl | exact Or.inr rfl), ?_⟩)); done) | (simp only [coL, AV.dat, true_or, or_true, AV.d.injEq, go_sem]; done)); simp only [go_sem, s2, s3, s4, s7, s18, s19, s20, sh, sh', hz, e1, hne, ← e2, Nat.reduceBEq, ite_self, implies_true, Int.toNat_natCast])) | (first | (refine CallD.look (enter73) (h1) ?_ (by assumption) (by repeat (first | exact Fr.rfl' _ _ | assumption | refine Fr.updk ?_ (by omega) _)) (by first | assumption | exact List.cons_ne_nil _ _) ?_; (focus first | ((repeat (first | exact trivial | refine ⟨(by first | exact Or.inl rfl | exact Or.inr rfl), ?_⟩)); done) | (simp only [coL, AV.dat, true_or, or_true, AV.d.injEq, go_sem]; done)); simp only [go_sem, s2, s3, s4, s7, s18, s19, s20, sh, sh', hz, e1, hne, ← e2, Nat.reduceBEq, ite_self, implies_true, Int.toNat_natCast])))
          | refine And.intro (by first | omega | exact trivial | rfl | assumption | (apply map_sz; intro a; simp only [go_sem]; done) | ((and_intros <;> first | omega | exact trivial | rfl | assumption | (apply map_sz; intro a; simp only [go_sem]; done) | fail); done) | fail) ?_
          | fail)
        refine ⟨⟨i + 1, ?_⟩, ?_⟩
        rotate_left
        · simp only [go_sem, s2, s3, s4, s7, s18, s19, s20, sh, sh', hne]; omega
        simp only [go_sem, s2, s3, s4, s7, s18, s19, s20, sh, sh', hne]
        and_intros; all_goals try (first | rfl | omega | assumption | ((repeat (first | exact Fr.rfl' _ _ | assumption | refine Fr.updk ?_ (by omega) _)); done))
      · have hz : ¬ ((i : Int) < (t.us.length : Int)) := by omega
        obtain rfl : i = t.us.length := by omega
        rw [List.take_length] at s7
        have e1 : (tb.map gI).getD t.f.toNat default = gI tb[t.f.toNat] := nth_map gI a1 _
        have e2 : (tb[t.f.toNat].map iD).getD (valL sz tb vs t.us 0).toNat default = iD tb[t.f.toNat][(valL sz tb vs t.us 0).toNat] := nth_map iD a6 _
        have hz1 : t.f < (tb.length : Int) := by omega
        have hz2 : valL sz tb vs t.us 0 < (tb[t.f.toNat].length : Int) := by omega
        repeat' (first
          | refine awp_seq_k fun K hK => ?_
          | (refine awp_region_k (by kernel_rfl) fun R hR => ?_; simp only [go_sem, s3, s4, s7, s19, s20, sh, sh', hz, hz1, hz2, e1, e2, hne])
          | (refine awp_draw mixed (by kernel_rfl) (by kernel_rfl) fun R hR => ?_; simp only [go_sem, s3, s4, s7, s19, s20, sh, sh', hz, hz1, hz2, e1, e2, hne])
          | (refine hR _ ?_; clear hR R; try simp only [thenA, inBlockA, reduceIte, reduceCtorEq, Nat.reduceEqDiff, if_false, if_true])
          | (refine hK _ ?_; clear hK K)
          | (clear hK K; refine hK _ ?_; clear hK K)
          | (clear hK K; clear hK K; refine hK _ ?_; clear hK K)
          | (clear hK K; clear hK K; clear hK K; refine hK _ ?_; clear hK K)
          | (clear hK K; clear hK K; clear hK K; clear hK K; refine hK _ ?_; clear hK K)
          | refine awp_true rfl rfl ?_
          | refine awp_false rfl rfl ?_
          | (refine awp_cond rfl rfl (fun hc => ?_) (fun hc => ?_) <;> (try simp only [go_sem, s3, s4, s7, s19, s20, sh, sh', hz, hz1, hz2, e1, e2, hne] at hc) <;> (try (exfalso; omega)))
          | refine awp_block ?_
          | (refine awp_skip ?_; try simp only [thenA, inBlockA, reduceIte, reduceCtorEq, Nat.reduceEqDiff, if_false, if_true])
          | (refine awp_exit ?_; try simp only [thenA, inBlockA, reduceIte, reduceCtorEq, Nat.reduceEqDiff, if_false, if_true])
          | (refine awp_ret ?_; try simp only [thenA, inBlockA, reduceIte, reduceCtorEq, Nat.reduceEqDiff, if_false, if_true])
          | (refine runL_split ?_ (fun hc => ?_) (fun hc => ?_); (simp only [go_sem, s3, s4, s7, s19, s20, sh, sh', hz, hz1, hz2, e1, e2, hne]; exact rfl); all_goals (try simp only [go_sem, hc, s3, s4, s7, s19, s20, sh, sh', hz, hz1, hz2, e1, e2, hne]); all_goals (try simp only [go_sem, s3, s4, s7, s19, s20, sh, sh', hz, hz1, hz2, e1, e2, hne] at hc); all_goals (try (exfalso; omega)))
          | (refine runD_split ?_ (fun hc => ?_) (fun hc => ?_); (simp only [go_sem, s3, s4, s7, s19, s20, sh, sh', hz, hz1, hz2, e1, e2, hne]; exact rfl); all_goals (try simp only [go_sem, hc, s3, s4, s7, s19, s20, sh, sh', hz, hz1, hz2, e1, e2, hne]); all_goals (try simp only [go_sem, s3, s4, s7, s19, s20, sh, sh', hz, hz1, hz2, e1, e2, hne] at hc); all_goals (try (exfalso; omega)))
          | refine And.intro (by first | omega | exact trivial | rfl | assumption | (apply map_sz; intro a; simp only [go_sem]; done) | ((and_intros <;> first | omega | exact trivial | rfl | assumption | (apply map_sz; intro a; simp only [go_sem]; done) | fail); done) | fail) ?_
          | fail)
        first | refine ret_pure (by simp only [Try.results73, resOkL, resOk, Try.ntmps73, List.toList_toArray]; first | decide | (simp only [go_sem]; done) | (simp only [go_sem]; and_intros <;> first | omega | rfl | decide)) ?_ (by repeat (first | exact Fr.rfl' _ _ | assumption | refine Fr.updk ?_ (by omega) _)) | refine ret_ro (by simp only [Try.results73, resOkL, resOk, Try.ntmps73, List.toList_toArray]; first | decide | (simp only [go_sem]; done) | (simp only [go_sem]; and_intros <;> first | omega | rfl | decide)) ?_ (by repeat (first | exact Fr.rfl' _ _ | assumption | refine Fr.updk ?_ (by omega) _))
        simp only [resA, resV, Try.results73, go_sem]
        all_goals try (first | exact Co.t2 (.dat rfl) (.dat rfl) | exact Co.t3 (.dat rfl) (.dat rfl) (.dat rfl))
        exact co_i a7.symm
theorem value_tri (f : FuncId) (hfe : enterOk Try.prog f) (caps : List AV) (ro : List (Nm × Ob)) (hrn : ro ≠ []) : ∀ t : Tm, ValSpec g sz tb vs f caps ro t := Tm.ind (value_step hm f hfe caps ro hrn)
end
end Go.Proofs.Ytmeekpinkfpnhaa

namespace Go.Proofs.Ytmeekpinkfpnhaa
open Go.RowKit
set_option linter.unusedSimpArgs false
set_option linter.unusedSectionVars false

/-- Variables by a list. -/
def byL (vars : List Int) (v : Int) : Int := vars.getD (v - 1).toNat 0
/-- What an array of numbers is. -/
abbrev arO (n : Nm) (vars : List Int) : List (Nm × Ob) := [(n, .cells 3 (vars.map iA))]
theorem nth_mapA {α : Type} (g : α → AV) {l : List α} {k : Nat} (hk : k < l.length) (d : AV) : (l.map g).getD k d = g l[k] := by
  rw [List.getD_eq_getElem?_getD, List.getElem?_map, List.getElem?_eq_getElem hk]; rfl
theorem arOk {k : Nat} {n : Nm} {vars : List Int} {h : Heap} (hr : RoOK k (arO n vars) h) : h n = some (.cells 3 (vars.map iA)) := (hr.get _ (List.mem_cons_self ..)).2
theorem arNe {k : Nat} {n : Nm} {vars : List Int} {h : Heap} (hr : RoOK k (arO n vars) h) : (∀ j, (n = (k, j)) = False) ∧ (∀ j, (n = (k + 1, j)) = False) ∧ (∀ j, (n = (k + 1 + 1, j)) = False) := by
  obtain ⟨h1, h2, h3, _⟩ := nmne (hr.get _ (List.mem_cons_self ..)).1
  exact ⟨h1, h2, h3⟩
section
variable {g : List Int} {sz : Int} {tb : List (List Int)} {vars : List Int} (hm : mdOk g sz tb = 0)
include hm
def ValOf_lists (n : Nm) (g : List Int) (sz : Int) (tb : List (List Int)) (vars : List Int) (t : Tm) : Prop :=
  Fine g sz (byL vars) (parts t) → (∀ x ∈ parts t, x.v > 0 → x.v ≤ vars.length) → Tri Try.prog 23 [.d (mdDV sz tb), .d (tmDV t), .d (.sl (vars.map iD))] (pure' (iA (valM sz tb (byL vars) t)))
set_option maxHeartbeats 1000000 in
set_option maxRecDepth 20000 in
theorem valueOf_lists_step (n : Nm) (hvl : vars.length ≤ 4000000) (t : Tm) (ih : ∀ u ∈ t.us, ValOf_lists n g sz tb vars u) : ValOf_lists n g sz tb vars t := by
  intro hf his
  have hsz := mdOk_all hm
  refine tri_enter Try.func23 rfl Try.ntmps23 (by simp only [List.length_cons, List.length_nil]; omega) fun w0 h0 k hrd hwr => ?_
  cases hv : decide (t.v > 0) with
  | true =>
    have hv' : t.v > 0 := by simpa using hv
    have h1 := his t (by rw [parts_eq]; simp) hv'
    have hx : (t.v - 1).toNat < vars.length := by omega
    have e : valM sz tb (byL vars) t = vars[(t.v - 1).toNat] := by rw [valM_eq, if_pos hv', byL, getD_at hx]
    have e1 : (vars.map iD).getD (t.v - 1).toNat default = iD vars[(t.v - 1).toNat] := nth_map iD hx _
    have e2 : (vars.map iA).getD (t.v - 1).toNat .junk = iA vars[(t.v - 1).toNat] := nth_mapA iA hx _
    have hz1 : t.v - 1 < (vars.length : Int) := by omega
    rw [e]
    repeat' (first
      | refine awp_seq_k fun K hK => ?_
      | (refine awp_region_k (by kernel_rfl) fun R hR => ?_; simp only [go_sem, hv, e1, e2, hz1, List.length_map, Nat.mul_one, List.length_map])
      | (refine awp_draw mixed (by kernel_rfl) (by kernel_rfl) fun R hR => ?_; simp only [go_sem, hv, e1, e2, hz1, List.length_map, Nat.mul_one, List.length_map])
      | (refine hR _ ?_; clear hR R; try simp only [thenA, inBlockA, reduceIte, reduceCtorEq, Nat.reduceEqDiff, if_false, if_true])
      | (refine hK _ ?_; clear hK K)
      | (clear hK K; refine hK _ ?_; clear hK K)
      | (clear hK K; clear hK K; refine hK _ ?_; clear hK K)
      | (clear hK K; clear hK K; clear hK K; refine hK _ ?_; clear hK K)
      | (clear hK K; clear hK K; clear hK K; clear hK K; refine hK _ ?_; clear hK K)
      | refine awp_true rfl rfl ?_
      | refine awp_false rfl rfl ?_
      | (refine awp_cond rfl rfl (fun hc => ?_) (fun hc => ?_) <;> (try simp only [go_sem, hv, e1, e2, hz1, List.length_map, Nat.mul_one, List.length_map] at hc) <;> (try (exfalso; omega)))
      | refine awp_block ?_
      | (refine awp_skip ?_; try simp only [thenA, inBlockA, reduceIte, reduceCtorEq, Nat.reduceEqDiff, if_false, if_true])
      | (refine awp_exit ?_; try simp only [thenA, inBlockA, reduceIte, reduceCtorEq, Nat.reduceEqDiff, if_false, if_true])
      | (refine awp_ret ?_; try simp only [thenA, inBlockA, reduceIte, reduceCtorEq, Nat.reduceEqDiff, if_false, if_true])
      | (refine runL_split ?_ (fun hc => ?_) (fun hc => ?_); (simp only [go_sem, hv, e1, e2, hz1, List.length_map, Nat.mul_one, List.length_map]; exact rfl); all_goals (try simp only [go_sem, hc, hv, e1, e2, hz1, List.length_map, Nat.mul_one, List.length_map]); all_goals (try simp only [go_sem, hv, e1, e2, hz1, List.length_map, Nat.mul_one, List.length_map] at hc); all_goals (try (exfalso; omega)))
      | (refine runD_split ?_ (fun hc => ?_) (fun hc => ?_); (simp only [go_sem, hv, e1, e2, hz1, List.length_map, Nat.mul_one, List.length_map]; exact rfl); all_goals (try simp only [go_sem, hc, hv, e1, e2, hz1, List.length_map, Nat.mul_one, List.length_map]); all_goals (try simp only [go_sem, hv, e1, e2, hz1, List.length_map, Nat.mul_one, List.length_map] at hc); all_goals (try (exfalso; omega)))
      | refine And.intro (by first | omega | exact trivial | rfl | assumption | (apply map_sz; intro a; simp only [go_sem]; done) | ((and_intros <;> first | omega | exact trivial | rfl | assumption | (apply map_sz; intro a; simp only [go_sem]; done) | fail); done) | fail) ?_
      | fail)
    first | refine ret_pure (by simp only [Try.results23, resOkL, resOk, Try.ntmps23, List.toList_toArray]; first | decide | (simp only [go_sem]; done) | (simp only [go_sem]; and_intros <;> first | omega | rfl | decide)) ?_ (by repeat (first | exact Fr.rfl' _ _ | assumption | refine Fr.updk ?_ (by omega) _)) | refine ret_ro (by simp only [Try.results23, resOkL, resOk, Try.ntmps23, List.toList_toArray]; first | decide | (simp only [go_sem]; done) | (simp only [go_sem]; and_intros <;> first | omega | rfl | decide)) ?_ (by repeat (first | exact Fr.rfl' _ _ | assumption | refine Fr.updk ?_ (by omega) _))
    simp only [resA, resV, Try.results23, go_sem]
    all_goals try (first | exact Co.t2 (.dat rfl) (.dat rfl) | exact Co.t3 (.dat rfl) (.dat rfl) (.dat rfl))
    exact .dat rfl
  | false =>
    have hv' : ¬ t.v > 0 := by simpa using hv
    obtain ⟨a1, a2, a3, a4, a5⟩ := md_at hm hf hv'
    obtain ⟨a6, a7⟩ := a3 a1
    repeat' (first
      | refine awp_seq_k fun K hK => ?_
      | (refine awp_region_k (by kernel_rfl) fun R hR => ?_; simp only [go_sem, hv])
      | (refine awp_draw mixed (by kernel_rfl) (by kernel_rfl) fun R hR => ?_; simp only [go_sem, hv])
      | (refine hR _ ?_; clear hR R; try simp only [thenA, inBlockA, reduceIte, reduceCtorEq, Nat.reduceEqDiff, if_false, if_true])
      | (refine hK _ ?_; clear hK K)
      | (clear hK K; refine hK _ ?_; clear hK K)
      | (clear hK K; clear hK K; refine hK _ ?_; clear hK K)
      | (clear hK K; clear hK K; clear hK K; refine hK _ ?_; clear hK K)
      | (clear hK K; clear hK K; clear hK K; clear hK K; refine hK _ ?_; clear hK K)
      | refine awp_true rfl rfl ?_
      | refine awp_false rfl rfl ?_
      | (refine awp_cond rfl rfl (fun hc => ?_) (fun hc => ?_) <;> (try simp only [go_sem, hv] at hc) <;> (try (exfalso; omega)))
      | refine awp_block ?_
      | (refine awp_skip ?_; try simp only [thenA, inBlockA, reduceIte, reduceCtorEq, Nat.reduceEqDiff, if_false, if_true])
      | (refine awp_exit ?_; try simp only [thenA, inBlockA, reduceIte, reduceCtorEq, Nat.reduceEqDiff, if_false, if_true])
      | (refine awp_ret ?_; try simp only [thenA, inBlockA, reduceIte, reduceCtorEq, Nat.reduceEqDiff, if_false, if_true])
      | (refine runL_split ?_ (fun hc => ?_) (fun hc => ?_); (simp only [go_sem, hv]; exact rfl); all_goals (try simp only [go_sem, hc, hv]); all_goals (try simp only [go_sem, hv] at hc); all_goals (try (exfalso; omega)))
      | (refine runD_split ?_ (fun hc => ?_) (fun hc => ?_); (simp only [go_sem, hv]; exact rfl); all_goals (try simp only [go_sem, hc, hv]); all_goals (try simp only [go_sem, hv] at hc); all_goals (try (exfalso; omega)))
      | refine And.intro (by first | omega | exact trivial | rfl | assumption | (apply map_sz; intro a; simp only [go_sem]; done) | ((and_intros <;> first | omega | exact trivial | rfl | assumption | (apply map_sz; intro a; simp only [go_sem]; done) | fail); done) | fail) ?_
      | fail)
    refine awp_loop (fun σ => ∃ i : Nat, σ.t 2 = .d (.sl (vars.map iD)) ∧ σ.t 3 = .ptr (k, 0) 0 ∧ σ.t 4 = .ptr (k, 1) 0 ∧ σ.t 7 = iA (valL sz tb (byL vars) (t.us.take i) 0) ∧ σ.t 8 = iA i ∧ σ.h (k, 0) = some (.cells 39 [iA sz, .d (.sl (tb.map gI))]) ∧ σ.h (k, 1) = some (.cells 27 [iA t.v, iA t.f, .d (.sl (t.us.map tmDV))]) ∧ Fr k h0 σ.h ∧ k < σ.k ∧ i ≤ t.us.length) (fun σ => t.us.length - (intOf' (σ.t 8)).toNat) ?_ ?_
    · refine ⟨0, ?_⟩
      simp only [go_sem, List.take_zero]
      and_intros; all_goals try (first | rfl | omega | assumption | ((repeat (first | exact Fr.rfl' _ _ | assumption | refine Fr.updk ?_ (by omega) _)); done))
    · rintro σ ⟨i, s2, s3, s4, s7, s8, sh, sh', hF, hk, hi⟩
      have hne := ltne hk
      have hb := valL_ok hm (t.us.take i) 0 0 (hf.take i) (by omega) (by simp)
      simp only [Nat.zero_add, List.length_take] at hb
      have hp := pw_le hsz.2.1 hsz.2.2.1 (i := min i t.us.length) (by omega)
      rcases Nat.lt_or_ge i t.us.length with hlt | hge
      · have hz : (i : Int) < (t.us.length : Int) := by omega
        have e1 : (t.us.map tmDV).getD i default = tmDV t.us[i] := nth_map tmDV hlt _
        have hu := List.getElem_mem hlt
        have h1 := ih _ hu (fun x hx => hf x (parts_sub hu x hx)) (fun x hx => his x (parts_sub hu x hx))
        have hb' := valM_ok hm t.us[i] (fun x hx => hf x (parts_sub hu x hx))
        have e2 : valL sz tb (byL vars) (t.us.take (i + 1)) 0 = sz * valL sz tb (byL vars) (t.us.take i) 0 + valM sz tb (byL vars) t.us[i] := by rw [valL_take hlt 0, Int.mul_comm]
        generalize valL sz tb (byL vars) (t.us.take i) 0 = a at *
        have hbd : 0 ≤ sz * a ∧ sz * a ≤ 20000 := by
          have : sz = 1 ∨ sz = 2 ∨ sz = 3 := by omega
          rcases this with h | h | h <;> rw [h] at hb hp ⊢ <;> omega
        repeat' (first
          | refine awp_seq_k fun K hK => ?_
          | (refine awp_region_k (by kernel_rfl) fun R hR => ?_; simp only [go_sem, s2, s3, s4, s7, s8, sh, sh', hz, e1, hne, ← e2, Nat.reduceBEq, ite_self, implies_true, Int.toNat_natCast])
          | (refine awp_draw mixed (by kernel_rfl) (by kernel_rfl) fun R hR => ?_; simp only [go_sem, s2, s3, s4, s7, s8, sh, sh', hz, e1, hne, ← e2, Nat.reduceBEq, ite_self, implies_true, Int.toNat_natCast])
          | (refine hR _ ?_; clear hR R; try simp only [thenA, inBlockA, reduceIte, reduceCtorEq, Nat.reduceEqDiff, if_false, if_true])
          | (refine hK _ ?_; clear hK K)
          | (clear hK K; refine hK _ ?_; clear hK K)
          | (clear hK K; clear hK K; refine hK _ ?_; clear hK K)
          | (clear hK K; clear hK K; clear hK K; refine hK _ ?_; clear hK K)
          | (clear hK K; clear hK K; clear hK K; clear hK K; refine hK _ ?_; clear hK K)
          | refine awp_true rfl rfl ?_
          | refine awp_false rfl rfl ?_
          | (refine awp_cond rfl rfl (fun hc => ?_) (fun hc => ?_) <;> (try simp only [go_sem, s2, s3, s4, s7, s8, sh, sh', hz, e1, hne, ← e2, Nat.reduceBEq, ite_self, implies_true, Int.toNat_natCast] at hc) <;> (try (exfalso; omega)))
          | refine awp_block ?_
          | (refine awp_skip ?_; try simp only [thenA, inBlockA, reduceIte, reduceCtorEq, Nat.reduceEqDiff, if_false, if_true])
          | (refine awp_exit ?_; try simp only [thenA, inBlockA, reduceIte, reduceCtorEq, Nat.reduceEqDiff, if_false, if_true])
          | (refine awp_ret ?_; try simp only [thenA, inBlockA, reduceIte, reduceCtorEq, Nat.reduceEqDiff, if_false, if_true])
          | (refine runL_split ?_ (fun hc => ?_) (fun hc => ?_); (simp only [go_sem, s2, s3, s4, s7, s8, sh, sh', hz, e1, hne, ← e2, Nat.reduceBEq, ite_self, implies_true, Int.toNat_natCast]; exact rfl); all_goals (try simp only [go_sem, hc, s2, s3, s4, s7, s8, sh, sh', hz, e1, hne, ← e2, Nat.reduceBEq, ite_self, implies_true, Int.toNat_natCast]); all_goals (try simp only [go_sem, s2, s3, s4, s7, s8, sh, sh', hz, e1, hne, ← e2, Nat.reduceBEq, ite_self, implies_true, Int.toNat_natCast] at hc); all_goals (try (exfalso; omega)))
          | (refine runD_split ?_ (fun hc => ?_) (fun hc => ?_); (simp only [go_sem, s2, s3, s4, s7, s8, sh, sh', hz, e1, hne, ← e2, Nat.reduceBEq, ite_self, implies_true, Int.toNat_natCast]; exact rfl); all_goals (try simp only [go_sem, hc, s2, s3, s4, s7, s8, sh, sh', hz, e1, hne, ← e2, Nat.reduceBEq, ite_self, implies_true, Int.toNat_natCast]); all_goals (try simp only [go_sem, s2, s3, s4, s7, s8, sh, sh', hz, e1, hne, ← e2, Nat.reduceBEq, ite_self, implies_true, Int.toNat_natCast] at hc); all_goals (try (exfalso; omega)))
          | (first | (refine CallK.pure (enter23) (h1) ?_ ?_; (focus first | ((repeat (first | exact trivial | refine ⟨(by first | exact Or.inl rfl | exact Or.inr rfl), ?_⟩)); done) | (simp only [coL, AV.dat, true_or, or_true, AV.d.injEq, go_sem]; done)); simp only [go_sem, s2, s3, s4, s7, s8, sh, sh', hz, e1, hne, ← e2, Nat.reduceBEq, ite_self, implies_true, Int.toNat_natCast]) | (refine CallD.pure (enter23) (h1) ?_ ?_; (focus first | ((repeat (first | exact trivial | refine ⟨(by first | exact Or.inl rfl | exact Or.inr rfl), ?_⟩)); done) | (simp only [coL, AV.dat, true_or, or_true, AV.d.injEq, go_sem]; done)); simp only [go_sem, s2, s3, s4, s7, s8, sh, sh', hz, e1, hne, ← e2, Nat.reduceBEq, ite_self, implies_true, Int.toNat_natCast]))
          | refine And.intro (by first | omega | exact trivial | rfl | assumption | (apply map_sz; intro a; simp only [go_sem]; done) | ((and_intros <;> first | omega | exact trivial | rfl | assumption | (apply map_sz; intro a; simp only [go_sem]; done) | fail); done) | fail) ?_
          | fail)
        refine ⟨⟨i + 1, ?_⟩, ?_⟩
        rotate_left
        · simp only [go_sem, s2, s3, s4, s7, s8, sh, sh', hne]; omega
        simp only [go_sem, s2, s3, s4, s7, s8, sh, sh', hne]
        and_intros; all_goals try (first | rfl | omega | assumption | ((repeat (first | exact Fr.rfl' _ _ | assumption | refine Fr.updk ?_ (by omega) _)); done))
      · have hz : ¬ ((i : Int) < (t.us.length : Int)) := by omega
        obtain rfl : i = t.us.length := by omega
        rw [List.take_length] at s7
        have e1 : (tb.map gI).getD t.f.toNat default = gI tb[t.f.toNat] := nth_map gI a1 _
        have e2 : (tb[t.f.toNat].map iD).getD (valL sz tb (byL vars) t.us 0).toNat default = iD tb[t.f.toNat][(valL sz tb (byL vars) t.us 0).toNat] := nth_map iD a6 _
        have hz1 : t.f < (tb.length : Int) := by omega
        have hz2 : valL sz tb (byL vars) t.us 0 < (tb[t.f.toNat].length : Int) := by omega
        repeat' (first
          | refine awp_seq_k fun K hK => ?_
          | (refine awp_region_k (by kernel_rfl) fun R hR => ?_; simp only [go_sem, s3, s4, s7, s8, sh, sh', hz, hz1, hz2, e1, e2, hne])
          | (refine awp_draw mixed (by kernel_rfl) (by kernel_rfl) fun R hR => ?_; simp only [go_sem, s3, s4, s7, s8, sh, sh', hz, hz1, hz2, e1, e2, hne])
          | (refine hR _ ?_; clear hR R; try simp only [thenA, inBlockA, reduceIte, reduceCtorEq, Nat.reduceEqDiff, if_false, if_true])
          | (refine hK _ ?_; clear hK K)
          | (clear hK K; refine hK _ ?_; clear hK K)
          | (clear hK K; clear hK K; refine hK _ ?_; clear hK K)
          | (clear hK K; clear hK K; clear hK K; refine hK _ ?_; clear hK K)
          | (clear hK K; clear hK K; clear hK K; clear hK K; refine hK _ ?_; clear hK K)
          | refine awp_true rfl rfl ?_
          | refine awp_false rfl rfl ?_
          | (refine awp_cond rfl rfl (fun hc => ?_) (fun hc => ?_) <;> (try simp only [go_sem, s3, s4, s7, s8, sh, sh', hz, hz1, hz2, e1, e2, hne] at hc) <;> (try (exfalso; omega)))
          | refine awp_block ?_
          | (refine awp_skip ?_; try simp only [thenA, inBlockA, reduceIte, reduceCtorEq, Nat.reduceEqDiff, if_false, if_true])
          | (refine awp_exit ?_; try simp only [thenA, inBlockA, reduceIte, reduceCtorEq, Nat.reduceEqDiff, if_false, if_true])
          | (refine awp_ret ?_; try simp only [thenA, inBlockA, reduceIte, reduceCtorEq, Nat.reduceEqDiff, if_false, if_true])
          | (refine runL_split ?_ (fun hc => ?_) (fun hc => ?_); (simp only [go_sem, s3, s4, s7, s8, sh, sh', hz, hz1, hz2, e1, e2, hne]; exact rfl); all_goals (try simp only [go_sem, hc, s3, s4, s7, s8, sh, sh', hz, hz1, hz2, e1, e2, hne]); all_goals (try simp only [go_sem, s3, s4, s7, s8, sh, sh', hz, hz1, hz2, e1, e2, hne] at hc); all_goals (try (exfalso; omega)))
          | (refine runD_split ?_ (fun hc => ?_) (fun hc => ?_); (simp only [go_sem, s3, s4, s7, s8, sh, sh', hz, hz1, hz2, e1, e2, hne]; exact rfl); all_goals (try simp only [go_sem, hc, s3, s4, s7, s8, sh, sh', hz, hz1, hz2, e1, e2, hne]); all_goals (try simp only [go_sem, s3, s4, s7, s8, sh, sh', hz, hz1, hz2, e1, e2, hne] at hc); all_goals (try (exfalso; omega)))
          | refine And.intro (by first | omega | exact trivial | rfl | assumption | (apply map_sz; intro a; simp only [go_sem]; done) | ((and_intros <;> first | omega | exact trivial | rfl | assumption | (apply map_sz; intro a; simp only [go_sem]; done) | fail); done) | fail) ?_
          | fail)
        first | refine ret_pure (by simp only [Try.results23, resOkL, resOk, Try.ntmps23, List.toList_toArray]; first | decide | (simp only [go_sem]; done) | (simp only [go_sem]; and_intros <;> first | omega | rfl | decide)) ?_ (by repeat (first | exact Fr.rfl' _ _ | assumption | refine Fr.updk ?_ (by omega) _)) | refine ret_ro (by simp only [Try.results23, resOkL, resOk, Try.ntmps23, List.toList_toArray]; first | decide | (simp only [go_sem]; done) | (simp only [go_sem]; and_intros <;> first | omega | rfl | decide)) ?_ (by repeat (first | exact Fr.rfl' _ _ | assumption | refine Fr.updk ?_ (by omega) _))
        simp only [resA, resV, Try.results23, go_sem]
        all_goals try (first | exact Co.t2 (.dat rfl) (.dat rfl) | exact Co.t3 (.dat rfl) (.dat rfl) (.dat rfl))
        exact co_i a7.symm
theorem valueOf_lists (n : Nm) (hvl : vars.length ≤ 4000000) : ∀ t : Tm, ValOf_lists n g sz tb vars t := Tm.ind (valueOf_lists_step hm n hvl)
def ValOf_arrs (n : Nm) (g : List Int) (sz : Int) (tb : List (List Int)) (vars : List Int) (t : Tm) : Prop :=
  Fine g sz (byL vars) (parts t) → (∀ x ∈ parts t, x.v > 0 → x.v ≤ vars.length) → Tri Try.prog 23 [.d (mdDV sz tb), .d (tmDV t), .arr n 0 vars.length] (rdE (arO n vars) (iA (valM sz tb (byL vars) t)))
set_option maxHeartbeats 1000000 in
set_option maxRecDepth 20000 in
theorem valueOf_arrs_step (n : Nm) (hvl : vars.length ≤ 4000000) (t : Tm) (ih : ∀ u ∈ t.us, ValOf_arrs n g sz tb vars u) : ValOf_arrs n g sz tb vars t := by
  intro hf his
  have hsz := mdOk_all hm
  refine tri_enter_ro Try.func23 rfl Try.ntmps23 (by simp only [List.length_cons, List.length_nil]; omega) fun w0 h0 k hro => ?_
  cases hv : decide (t.v > 0) with
  | true =>
    have hv' : t.v > 0 := by simpa using hv
    have h1 := his t (by rw [parts_eq]; simp) hv'
    have hx : (t.v - 1).toNat < vars.length := by omega
    have e : valM sz tb (byL vars) t = vars[(t.v - 1).toNat] := by rw [valM_eq, if_pos hv', byL, getD_at hx]
    have e1 : (vars.map iD).getD (t.v - 1).toNat default = iD vars[(t.v - 1).toNat] := nth_map iD hx _
    have e2 : (vars.map iA).getD (t.v - 1).toNat .junk = iA vars[(t.v - 1).toNat] := nth_mapA iA hx _
    have hz1 : t.v - 1 < (vars.length : Int) := by omega
    rw [e]
    repeat' (first
      | refine awp_seq_k fun K hK => ?_
      | (refine awp_region_k (by kernel_rfl) fun R hR => ?_; simp only [go_sem, hv, e1, e2, hz1, arOk hro, arNe hro, Nat.mul_one, List.length_map])
      | (refine awp_draw mixed (by kernel_rfl) (by kernel_rfl) fun R hR => ?_; simp only [go_sem, hv, e1, e2, hz1, arOk hro, arNe hro, Nat.mul_one, List.length_map])
      | (refine hR _ ?_; clear hR R; try simp only [thenA, inBlockA, reduceIte, reduceCtorEq, Nat.reduceEqDiff, if_false, if_true])
      | (refine hK _ ?_; clear hK K)
      | (clear hK K; refine hK _ ?_; clear hK K)
      | (clear hK K; clear hK K; refine hK _ ?_; clear hK K)
      | (clear hK K; clear hK K; clear hK K; refine hK _ ?_; clear hK K)
      | (clear hK K; clear hK K; clear hK K; clear hK K; refine hK _ ?_; clear hK K)
      | refine awp_true rfl rfl ?_
      | refine awp_false rfl rfl ?_
      | (refine awp_cond rfl rfl (fun hc => ?_) (fun hc => ?_) <;> (try simp only [go_sem, hv, e1, e2, hz1, arOk hro, arNe hro, Nat.mul_one, List.length_map] at hc) <;> (try (exfalso; omega)))
      | refine awp_block ?_
      | (refine awp_skip ?_; try simp only [thenA, inBlockA, reduceIte, reduceCtorEq, Nat.reduceEqDiff, if_false, if_true])
      | (refine awp_exit ?_; try simp only [thenA, inBlockA, reduceIte, reduceCtorEq, Nat.reduceEqDiff, if_false, if_true])
      | (refine awp_ret ?_; try simp only [thenA, inBlockA, reduceIte, reduceCtorEq, Nat.reduceEqDiff, if_false, if_true])
      | (refine runL_split ?_ (fun hc => ?_) (fun hc => ?_); (simp only [go_sem, hv, e1, e2, hz1, arOk hro, arNe hro, Nat.mul_one, List.length_map]; exact rfl); all_goals (try simp only [go_sem, hc, hv, e1, e2, hz1, arOk hro, arNe hro, Nat.mul_one, List.length_map]); all_goals (try simp only [go_sem, hv, e1, e2, hz1, arOk hro, arNe hro, Nat.mul_one, List.length_map] at hc); all_goals (try (exfalso; omega)))
      | (refine runD_split ?_ (fun hc => ?_) (fun hc => ?_); (simp only [go_sem, hv, e1, e2, hz1, arOk hro, arNe hro, Nat.mul_one, List.length_map]; exact rfl); all_goals (try simp only [go_sem, hc, hv, e1, e2, hz1, arOk hro, arNe hro, Nat.mul_one, List.length_map]); all_goals (try simp only [go_sem, hv, e1, e2, hz1, arOk hro, arNe hro, Nat.mul_one, List.length_map] at hc); all_goals (try (exfalso; omega)))
      | refine And.intro (by first | omega | exact trivial | rfl | assumption | (apply map_sz; intro a; simp only [go_sem]; done) | ((and_intros <;> first | omega | exact trivial | rfl | assumption | (apply map_sz; intro a; simp only [go_sem]; done) | fail); done) | fail) ?_
      | fail)
    first | refine ret_pure (by simp only [Try.results23, resOkL, resOk, Try.ntmps23, List.toList_toArray]; first | decide | (simp only [go_sem]; done) | (simp only [go_sem]; and_intros <;> first | omega | rfl | decide)) ?_ (by repeat (first | exact Fr.rfl' _ _ | assumption | refine Fr.updk ?_ (by omega) _)) | refine ret_ro (by simp only [Try.results23, resOkL, resOk, Try.ntmps23, List.toList_toArray]; first | decide | (simp only [go_sem]; done) | (simp only [go_sem]; and_intros <;> first | omega | rfl | decide)) ?_ (by repeat (first | exact Fr.rfl' _ _ | assumption | refine Fr.updk ?_ (by omega) _))
    simp only [resA, resV, Try.results23, go_sem]
    all_goals try (first | exact Co.t2 (.dat rfl) (.dat rfl) | exact Co.t3 (.dat rfl) (.dat rfl) (.dat rfl))
    exact .dat rfl
  | false =>
    have hv' : ¬ t.v > 0 := by simpa using hv
    obtain ⟨a1, a2, a3, a4, a5⟩ := md_at hm hf hv'
    obtain ⟨a6, a7⟩ := a3 a1
    repeat' (first
      | refine awp_seq_k fun K hK => ?_
      | (refine awp_region_k (by kernel_rfl) fun R hR => ?_; simp only [go_sem, hv])
      | (refine awp_draw mixed (by kernel_rfl) (by kernel_rfl) fun R hR => ?_; simp only [go_sem, hv])
      | (refine hR _ ?_; clear hR R; try simp only [thenA, inBlockA, reduceIte, reduceCtorEq, Nat.reduceEqDiff, if_false, if_true])
      | (refine hK _ ?_; clear hK K)
      | (clear hK K; refine hK _ ?_; clear hK K)
      | (clear hK K; clear hK K; refine hK _ ?_; clear hK K)
      | (clear hK K; clear hK K; clear hK K; refine hK _ ?_; clear hK K)
      | (clear hK K; clear hK K; clear hK K; clear hK K; refine hK _ ?_; clear hK K)
      | refine awp_true rfl rfl ?_
      | refine awp_false rfl rfl ?_
      | (refine awp_cond rfl rfl (fun hc => ?_) (fun hc => ?_) <;> (try simp only [go_sem, hv] at hc) <;> (try (exfalso; omega)))
      | refine awp_block ?_
      | (refine awp_skip ?_; try simp only [thenA, inBlockA, reduceIte, reduceCtorEq, Nat.reduceEqDiff, if_false, if_true])
      | (refine awp_exit ?_; try simp only [thenA, inBlockA, reduceIte, reduceCtorEq, Nat.reduceEqDiff, if_false, if_true])
      | (refine awp_ret ?_; try simp only [thenA, inBlockA, reduceIte, reduceCtorEq, Nat.reduceEqDiff, if_false, if_true])
      | (refine runL_split ?_ (fun hc => ?_) (fun hc => ?_); (simp only [go_sem, hv]; exact rfl); all_goals (try simp only [go_sem, hc, hv]); all_goals (try simp only [go_sem, hv] at hc); all_goals (try (exfalso; omega)))
      | (refine runD_split ?_ (fun hc => ?_) (fun hc => ?_); (simp only [go_sem, hv]; exact rfl); all_goals (try simp only [go_sem, hc, hv]); all_goals (try simp only [go_sem, hv] at hc); all_goals (try (exfalso; omega)))
      | refine And.intro (by first | omega | exact trivial | rfl | assumption | (apply map_sz; intro a; simp only [go_sem]; done) | ((and_intros <;> first | omega | exact trivial | rfl | assumption | (apply map_sz; intro a; simp only [go_sem]; done) | fail); done) | fail) ?_
      | fail)
    refine awp_loop (fun σ => ∃ i : Nat, σ.t 2 = .arr n 0 vars.length ∧ σ.t 3 = .ptr (k, 0) 0 ∧ σ.t 4 = .ptr (k, 1) 0 ∧ σ.t 7 = iA (valL sz tb (byL vars) (t.us.take i) 0) ∧ σ.t 8 = iA i ∧ σ.h (k, 0) = some (.cells 39 [iA sz, .d (.sl (tb.map gI))]) ∧ σ.h (k, 1) = some (.cells 27 [iA t.v, iA t.f, .d (.sl (t.us.map tmDV))]) ∧ Fr k h0 σ.h ∧ k < σ.k ∧ i ≤ t.us.length) (fun σ => t.us.length - (intOf' (σ.t 8)).toNat) ?_ ?_
    · refine ⟨0, ?_⟩
      simp only [go_sem, List.take_zero]
      and_intros; all_goals try (first | rfl | omega | assumption | ((repeat (first | exact Fr.rfl' _ _ | assumption | refine Fr.updk ?_ (by omega) _)); done))
    · rintro σ ⟨i, s2, s3, s4, s7, s8, sh, sh', hF, hk, hi⟩
      have hne := ltne hk
      have hb := valL_ok hm (t.us.take i) 0 0 (hf.take i) (by omega) (by simp)
      simp only [Nat.zero_add, List.length_take] at hb
      have hp := pw_le hsz.2.1 hsz.2.2.1 (i := min i t.us.length) (by omega)
      rcases Nat.lt_or_ge i t.us.length with hlt | hge
      · have hz : (i : Int) < (t.us.length : Int) := by omega
        have e1 : (t.us.map tmDV).getD i default = tmDV t.us[i] := nth_map tmDV hlt _
        have hu := List.getElem_mem hlt
        have h1 := ih _ hu (fun x hx => hf x (parts_sub hu x hx)) (fun x hx => his x (parts_sub hu x hx))
        have hb' := valM_ok hm t.us[i] (fun x hx => hf x (parts_sub hu x hx))
        have e2 : valL sz tb (byL vars) (t.us.take (i + 1)) 0 = sz * valL sz tb (byL vars) (t.us.take i) 0 + valM sz tb (byL vars) t.us[i] := by rw [valL_take hlt 0, Int.mul_comm]
        generalize valL sz tb (byL vars) (t.us.take i) 0 = a at *
        have hbd : 0 ≤ sz * a ∧ sz * a ≤ 20000 := by
          have : sz = 1 ∨ sz = 2 ∨ sz = 3 := by omega
          rcases this with h | h | h <;> rw [h] at hb hp ⊢ <;> omega
        repeat' (first
          | refine awp_seq_k fun K hK => ?_
          | (refine awp_region_k (by kernel_rfl) fun R hR => ?_; simp only [go_sem, s2, s3, s4, s7, s8, sh, sh', hz, e1, hne, ← e2, Nat.reduceBEq, ite_self, implies_true, Int.toNat_natCast])
          | (refine awp_draw mixed (by kernel_rfl) (by kernel_rfl) fun R hR => ?_; simp only [go_sem, s2, s3, s4, s7, s8, sh, sh', hz, e1, hne, ← e2, Nat.reduceBEq, ite_self, implies_true, Int.toNat_natCast])
          | (refine hR _ ?_; clear hR R; try simp only [thenA, inBlockA, reduceIte, reduceCtorEq, Nat.reduceEqDiff, if_false, if_true])
          | (refine hK _ ?_; clear hK K)
          | (clear hK K; refine hK _ ?_; clear hK K)
          | (clear hK K; clear hK K; refine hK _ ?_; clear hK K)
          | (clear hK K; clear hK K; clear hK K; refine hK _ ?_; clear hK K)
          | (clear hK K; clear hK K; clear hK K; clear hK K; refine hK _ ?_; clear hK K)
          | refine awp_true rfl rfl ?_
          | refine awp_false rfl rfl ?_
          | (refine awp_cond rfl rfl (fun hc => ?_) (fun hc => ?_) <;> (try simp only [go_sem, s2, s3, s4, s7, s8, sh, sh', hz, e1, hne, ← e2, Nat.reduceBEq, ite_self, implies_true, Int.toNat_natCast] at hc) <;> (try (exfalso; omega)))
          | refine awp_block ?_
          | (refine awp_skip ?_; try simp only [thenA, inBlockA, reduceIte, reduceCtorEq, Nat.reduceEqDiff, if_false, if_true])
          | (refine awp_exit ?_; try simp only [thenA, inBlockA, reduceIte, reduceCtorEq, Nat.reduceEqDiff, if_false, if_true])
          | (refine awp_ret ?_; try simp only [thenA, inBlockA, reduceIte, reduceCtorEq, Nat.reduceEqDiff, if_false, if_true])
          | (refine runL_split ?_ (fun hc => ?_) (fun hc => ?_); (simp only [go_sem, s2, s3, s4, s7, s8, sh, sh', hz, e1, hne, ← e2, Nat.reduceBEq, ite_self, implies_true, Int.toNat_natCast]; exact rfl); all_goals (try simp only [go_sem, hc, s2, s3, s4, s7, s8, sh, sh', hz, e1, hne, ← e2, Nat.reduceBEq, ite_self, implies_true, Int.toNat_natCast]); all_goals (try simp only [go_sem, s2, s3, s4, s7, s8, sh, sh', hz, e1, hne, ← e2, Nat.reduceBEq, ite_self, implies_true, Int.toNat_natCast] at hc); all_goals (try (exfalso; omega)))
          | (refine runD_split ?_ (fun hc => ?_) (fun hc => ?_); (simp only [go_sem, s2, s3, s4, s7, s8, sh, sh', hz, e1, hne, ← e2, Nat.reduceBEq, ite_self, implies_true, Int.toNat_natCast]; exact rfl); all_goals (try simp only [go_sem, hc, s2, s3, s4, s7, s8, sh, sh', hz, e1, hne, ← e2, Nat.reduceBEq, ite_self, implies_true, Int.toNat_natCast]); all_goals (try simp only [go_sem, s2, s3, s4, s7, s8, sh, sh', hz, e1, hne, ← e2, Nat.reduceBEq, ite_self, implies_true, Int.toNat_natCast] at hc); all_goals (try (exfalso; omega)))
          | (first | (first | (refine CallK.look (enter23) (h1) ?_ (by assumption) (by repeat (first | exact Fr.rfl' _ _ | assumption | refine Fr.updk ?_ (by omega) _)) ?_; (focus first | ((repeat (first | exact trivial | refine ⟨(by first | exact Or.inl rfl | exact Or.inr rfl), ?_⟩)); done) | (simp only [coL, AV.dat, true_or, or_true, AV.d.injEq, go_sem]; done)); simp only [go_sem, s2, s3, s4, s7, s8, sh, sh', hz, e1, hne, ← e2, Nat.reduceBEq, ite_self, implies_true, Int.toNat_natCast])) | (first | (refine CallD.look (enter23) (h1) ?_ (by assumption) (by repeat (first | exact Fr.rfl' _ _ | assumption | refine Fr.updk ?_ (by omega) _)) (by first | assumption | exact List.cons_ne_nil _ _) ?_; (focus first | ((repeat (first | exact trivial | refine ⟨(by first | exact Or.inl rfl | exact Or.inr rfl), ?_⟩)); done) | (simp only [coL, AV.dat, true_or, or_true, AV.d.injEq, go_sem]; done)); simp only [go_sem, s2, s3, s4, s7, s8, sh, sh', hz, e1, hne, ← e2, Nat.reduceBEq, ite_self, implies_true, Int.toNat_natCast])))
          | refine And.intro (by first | omega | exact trivial | rfl | assumption | (apply map_sz; intro a; simp only [go_sem]; done) | ((and_intros <;> first | omega | exact trivial | rfl | assumption | (apply map_sz; intro a; simp only [go_sem]; done) | fail); done) | fail) ?_
          | fail)
        refine ⟨⟨i + 1, ?_⟩, ?_⟩
        rotate_left
        · simp only [go_sem, s2, s3, s4, s7, s8, sh, sh', hne]; omega
        simp only [go_sem, s2, s3, s4, s7, s8, sh, sh', hne]
        and_intros; all_goals try (first | rfl | omega | assumption | ((repeat (first | exact Fr.rfl' _ _ | assumption | refine Fr.updk ?_ (by omega) _)); done))
      · have hz : ¬ ((i : Int) < (t.us.length : Int)) := by omega
        obtain rfl : i = t.us.length := by omega
        rw [List.take_length] at s7
        have e1 : (tb.map gI).getD t.f.toNat default = gI tb[t.f.toNat] := nth_map gI a1 _
        have e2 : (tb[t.f.toNat].map iD).getD (valL sz tb (byL vars) t.us 0).toNat default = iD tb[t.f.toNat][(valL sz tb (byL vars) t.us 0).toNat] := nth_map iD a6 _
        have hz1 : t.f < (tb.length : Int) := by omega
        have hz2 : valL sz tb (byL vars) t.us 0 < (tb[t.f.toNat].length : Int) := by omega
        repeat' (first
          | refine awp_seq_k fun K hK => ?_
          | (refine awp_region_k (by kernel_rfl) fun R hR => ?_; simp only [go_sem, s3, s4, s7, s8, sh, sh', hz, hz1, hz2, e1, e2, hne])
          | (refine awp_draw mixed (by kernel_rfl) (by kernel_rfl) fun R hR => ?_; simp only [go_sem, s3, s4, s7, s8, sh, sh', hz, hz1, hz2, e1, e2, hne])
          | (refine hR _ ?_; clear hR R; try simp only [thenA, inBlockA, reduceIte, reduceCtorEq, Nat.reduceEqDiff, if_false, if_true])
          | (refine hK _ ?_; clear hK K)
          | (clear hK K; refine hK _ ?_; clear hK K)
          | (clear hK K; clear hK K; refine hK _ ?_; clear hK K)
          | (clear hK K; clear hK K; clear hK K; refine hK _ ?_; clear hK K)
          | (clear hK K; clear hK K; clear hK K; clear hK K; refine hK _ ?_; clear hK K)
          | refine awp_true rfl rfl ?_
          | refine awp_false rfl rfl ?_
          | (refine awp_cond rfl rfl (fun hc => ?_) (fun hc => ?_) <;> (try simp only [go_sem, s3, s4, s7, s8, sh, sh', hz, hz1, hz2, e1, e2, hne] at hc) <;> (try (exfalso; omega)))
          | refine awp_block ?_
          | (refine awp_skip ?_; try simp only [thenA, inBlockA, reduceIte, reduceCtorEq, Nat.reduceEqDiff, if_false, if_true])
          | (refine awp_exit ?_; try simp only [thenA, inBlockA, reduceIte, reduceCtorEq, Nat.reduceEqDiff, if_false, if_true])
          | (refine awp_ret ?_; try simp only [thenA, inBlockA, reduceIte, reduceCtorEq, Nat.reduceEqDiff, if_false, if_true])
          | (refine runL_split ?_ (fun hc => ?_) (fun hc => ?_); (simp only [go_sem, s3, s4, s7, s8, sh, sh', hz, hz1, hz2, e1, e2, hne]; exact rfl); all_goals (try simp only [go_sem, hc, s3, s4, s7, s8, sh, sh', hz, hz1, hz2, e1, e2, hne]); all_goals (try simp only [go_sem, s3, s4, s7, s8, sh, sh', hz, hz1, hz2, e1, e2, hne] at hc); all_goals (try (exfalso; omega)))
          | (refine runD_split ?_ (fun hc => ?_) (fun hc => ?_); (simp only [go_sem, s3, s4, s7, s8, sh, sh', hz, hz1, hz2, e1, e2, hne]; exact rfl); all_goals (try simp only [go_sem, hc, s3, s4, s7, s8, sh, sh', hz, hz1, hz2, e1, e2, hne]); all_goals (try simp only [go_sem, s3, s4, s7, s8, sh, sh', hz, hz1, hz2, e1, e2, hne] at hc); all_goals (try (exfalso; omega)))
          | refine And.intro (by first | omega | exact trivial | rfl | assumption | (apply map_sz; intro a; simp only [go_sem]; done) | ((and_intros <;> first | omega | exact trivial | rfl | assumption | (apply map_sz; intro a; simp only [go_sem]; done) | fail); done) | fail) ?_
          | fail)
        first | refine ret_pure (by simp only [Try.results23, resOkL, resOk, Try.ntmps23, List.toList_toArray]; first | decide | (simp only [go_sem]; done) | (simp only [go_sem]; and_intros <;> first | omega | rfl | decide)) ?_ (by repeat (first | exact Fr.rfl' _ _ | assumption | refine Fr.updk ?_ (by omega) _)) | refine ret_ro (by simp only [Try.results23, resOkL, resOk, Try.ntmps23, List.toList_toArray]; first | decide | (simp only [go_sem]; done) | (simp only [go_sem]; and_intros <;> first | omega | rfl | decide)) ?_ (by repeat (first | exact Fr.rfl' _ _ | assumption | refine Fr.updk ?_ (by omega) _))
        simp only [resA, resV, Try.results23, go_sem]
        all_goals try (first | exact Co.t2 (.dat rfl) (.dat rfl) | exact Co.t3 (.dat rfl) (.dat rfl) (.dat rfl))
        exact co_i a7.symm
theorem valueOf_arrs (n : Nm) (hvl : vars.length ≤ 4000000) : ∀ t : Tm, ValOf_arrs n g sz tb vars t := Tm.ind (valueOf_arrs_step hm n hvl)
end
end Go.Proofs.Ytmeekpinkfpnhaa

namespace Go.Proofs.Ytmeekpinkfpnhaa
open Go.RowKit
set_option linter.unusedSimpArgs false
set_option linter.unusedSectionVars false

abbrev vbO (b : Nm) (vars : List Int) : List (Nm × Ob) := [(b, .cells 22 [.d (.sl (vars.map iD))])]
theorem roVb {b : Nm} {vars : List Int} {k : Nat} {h : Heap} (hb : b.1 < k) (h1 : h b = some (.cells 22 [.d (.sl (vars.map iD))])) : RoOK k (vbO b vars) h := ⟨fun x hx => by
  simp only [vbO, List.mem_cons, List.not_mem_nil, or_false] at hx; subst hx; exact ⟨hb, h1⟩⟩
set_option maxRecDepth 20000 in
theorem value1_tri (b : Nm) (vars : List Int) (v : Int) : Tri Try.prog 71 [iA v, .ptr b 0] (rdE (vbO b vars) (bA (decide (v > vars.length)))) := by
  refine tri_enter_ro Try.func71 rfl Try.ntmps71 (by simp only [List.length_cons, List.length_nil]; omega) fun w0 h0 k hro => ?_
  have eb := (hro.get _ (List.mem_cons_self ..)).2
  repeat' (first
    | refine awp_seq_k fun K hK => ?_
    | (refine awp_region_k (by kernel_rfl) fun R hR => ?_; simp only [go_sem, eb])
    | (refine awp_draw mixed (by kernel_rfl) (by kernel_rfl) fun R hR => ?_; simp only [go_sem, eb])
    | (refine hR _ ?_; clear hR R; try simp only [thenA, inBlockA, reduceIte, reduceCtorEq, Nat.reduceEqDiff, if_false, if_true])
    | (refine hK _ ?_; clear hK K)
    | (clear hK K; refine hK _ ?_; clear hK K)
    | (clear hK K; clear hK K; refine hK _ ?_; clear hK K)
    | (clear hK K; clear hK K; clear hK K; refine hK _ ?_; clear hK K)
    | (clear hK K; clear hK K; clear hK K; clear hK K; refine hK _ ?_; clear hK K)
    | refine awp_true rfl rfl ?_
    | refine awp_false rfl rfl ?_
    | (refine awp_cond rfl rfl (fun hc => ?_) (fun hc => ?_) <;> (try simp only [go_sem, eb] at hc) <;> (try (exfalso; omega)))
    | refine awp_block ?_
    | (refine awp_skip ?_; try simp only [thenA, inBlockA, reduceIte, reduceCtorEq, Nat.reduceEqDiff, if_false, if_true])
    | (refine awp_exit ?_; try simp only [thenA, inBlockA, reduceIte, reduceCtorEq, Nat.reduceEqDiff, if_false, if_true])
    | (refine awp_ret ?_; try simp only [thenA, inBlockA, reduceIte, reduceCtorEq, Nat.reduceEqDiff, if_false, if_true])
    | (refine runL_split ?_ (fun hc => ?_) (fun hc => ?_); (simp only [go_sem, eb]; exact rfl); all_goals (try simp only [go_sem, hc, eb]); all_goals (try simp only [go_sem, eb] at hc); all_goals (try (exfalso; omega)))
    | (refine runD_split ?_ (fun hc => ?_) (fun hc => ?_); (simp only [go_sem, eb]; exact rfl); all_goals (try simp only [go_sem, hc, eb]); all_goals (try simp only [go_sem, eb] at hc); all_goals (try (exfalso; omega)))
    | refine And.intro (by first | omega | exact trivial | rfl | assumption | (apply map_sz; intro a; simp only [go_sem]; done) | ((and_intros <;> first | omega | exact trivial | rfl | assumption | (apply map_sz; intro a; simp only [go_sem]; done) | fail); done) | fail) ?_
    | fail)
  first | refine ret_pure (by simp only [Try.results71, resOkL, resOk, Try.ntmps71, List.toList_toArray]; first | decide | (simp only [go_sem]; done) | (simp only [go_sem]; and_intros <;> first | omega | rfl | decide)) ?_ (by repeat (first | exact Fr.rfl' _ _ | assumption | refine Fr.updk ?_ (by omega) _)) | refine ret_ro (by simp only [Try.results71, resOkL, resOk, Try.ntmps71, List.toList_toArray]; first | decide | (simp only [go_sem]; done) | (simp only [go_sem]; and_intros <;> first | omega | rfl | decide)) ?_ (by repeat (first | exact Fr.rfl' _ _ | assumption | refine Fr.updk ?_ (by omega) _))
  simp only [resA, resV, Try.results71, go_sem]
  all_goals try (first | exact Co.t2 (.dat rfl) (.dat rfl) | exact Co.t3 (.dat rfl) (.dat rfl) (.dat rfl))
  exact .dat rfl
set_option maxRecDepth 20000 in
theorem value2_tri (b : Nm) (sz : Int) (tb : List (List Int)) (n : Int) : Tri Try.prog 72 [iA n, .ptr b 0] (rdE (mdO b sz tb) (bA (outOf sz n))) := by
  refine tri_enter_ro Try.func72 rfl Try.ntmps72 (by simp only [List.length_cons, List.length_nil]; omega) fun w0 h0 k hro => ?_
  obtain ⟨hb, eb⟩ := hro.get _ (List.mem_cons_self ..)
  unfold outOf
  cases h1 : decide (n < 0) with
  | true =>
    repeat' (first
      | refine awp_seq_k fun K hK => ?_
      | (refine awp_region_k (by kernel_rfl) fun R hR => ?_; simp only [go_sem, eb, h1])
      | (refine awp_draw mixed (by kernel_rfl) (by kernel_rfl) fun R hR => ?_; simp only [go_sem, eb, h1])
      | (refine hR _ ?_; clear hR R; try simp only [thenA, inBlockA, reduceIte, reduceCtorEq, Nat.reduceEqDiff, if_false, if_true])
      | (refine hK _ ?_; clear hK K)
      | (clear hK K; refine hK _ ?_; clear hK K)
      | (clear hK K; clear hK K; refine hK _ ?_; clear hK K)
      | (clear hK K; clear hK K; clear hK K; refine hK _ ?_; clear hK K)
      | (clear hK K; clear hK K; clear hK K; clear hK K; refine hK _ ?_; clear hK K)
      | refine awp_true rfl rfl ?_
      | refine awp_false rfl rfl ?_
      | (refine awp_cond rfl rfl (fun hc => ?_) (fun hc => ?_) <;> (try simp only [go_sem, eb, h1] at hc) <;> (try (exfalso; omega)))
      | refine awp_block ?_
      | (refine awp_skip ?_; try simp only [thenA, inBlockA, reduceIte, reduceCtorEq, Nat.reduceEqDiff, if_false, if_true])
      | (refine awp_exit ?_; try simp only [thenA, inBlockA, reduceIte, reduceCtorEq, Nat.reduceEqDiff, if_false, if_true])
      | (refine awp_ret ?_; try simp only [thenA, inBlockA, reduceIte, reduceCtorEq, Nat.reduceEqDiff, if_false, if_true])
      | (refine runL_split ?_ (fun hc => ?_) (fun hc => ?_); (simp only [go_sem, eb, h1]; exact rfl); all_goals (try simp only [go_sem, hc, eb, h1]); all_goals (try simp only [go_sem, eb, h1] at hc); all_goals (try (exfalso; omega)))
      | (refine runD_split ?_ (fun hc => ?_) (fun hc => ?_); (simp only [go_sem, eb, h1]; exact rfl); all_goals (try simp only [go_sem, hc, eb, h1]); all_goals (try simp only [go_sem, eb, h1] at hc); all_goals (try (exfalso; omega)))
      | refine And.intro (by first | omega | exact trivial | rfl | assumption | (apply map_sz; intro a; simp only [go_sem]; done) | ((and_intros <;> first | omega | exact trivial | rfl | assumption | (apply map_sz; intro a; simp only [go_sem]; done) | fail); done) | fail) ?_
      | fail)
    first | refine ret_pure (by simp only [Try.results72, resOkL, resOk, Try.ntmps72, List.toList_toArray]; first | decide | (simp only [go_sem]; done) | (simp only [go_sem]; and_intros <;> first | omega | rfl | decide)) ?_ (by repeat (first | exact Fr.rfl' _ _ | assumption | refine Fr.updk ?_ (by omega) _)) | refine ret_ro (by simp only [Try.results72, resOkL, resOk, Try.ntmps72, List.toList_toArray]; first | decide | (simp only [go_sem]; done) | (simp only [go_sem]; and_intros <;> first | omega | rfl | decide)) ?_ (by repeat (first | exact Fr.rfl' _ _ | assumption | refine Fr.updk ?_ (by omega) _))
    simp only [resA, resV, Try.results72, go_sem]
    all_goals try (first | exact Co.t2 (.dat rfl) (.dat rfl) | exact Co.t3 (.dat rfl) (.dat rfl) (.dat rfl))
    exact .dat rfl
  | false =>
    repeat' (first
      | refine awp_seq_k fun K hK => ?_
      | (refine awp_region_k (by kernel_rfl) fun R hR => ?_; simp only [go_sem, eb, h1])
      | (refine awp_draw mixed (by kernel_rfl) (by kernel_rfl) fun R hR => ?_; simp only [go_sem, eb, h1])
      | (refine hR _ ?_; clear hR R; try simp only [thenA, inBlockA, reduceIte, reduceCtorEq, Nat.reduceEqDiff, if_false, if_true])
      | (refine hK _ ?_; clear hK K)
      | (clear hK K; refine hK _ ?_; clear hK K)
      | (clear hK K; clear hK K; refine hK _ ?_; clear hK K)
      | (clear hK K; clear hK K; clear hK K; refine hK _ ?_; clear hK K)
      | (clear hK K; clear hK K; clear hK K; clear hK K; refine hK _ ?_; clear hK K)
      | refine awp_true rfl rfl ?_
      | refine awp_false rfl rfl ?_
      | (refine awp_cond rfl rfl (fun hc => ?_) (fun hc => ?_) <;> (try simp only [go_sem, eb, h1] at hc) <;> (try (exfalso; omega)))
      | refine awp_block ?_
      | (refine awp_skip ?_; try simp only [thenA, inBlockA, reduceIte, reduceCtorEq, Nat.reduceEqDiff, if_false, if_true])
      | (refine awp_exit ?_; try simp only [thenA, inBlockA, reduceIte, reduceCtorEq, Nat.reduceEqDiff, if_false, if_true])
      | (refine awp_ret ?_; try simp only [thenA, inBlockA, reduceIte, reduceCtorEq, Nat.reduceEqDiff, if_false, if_true])
      | (refine runL_split ?_ (fun hc => ?_) (fun hc => ?_); (simp only [go_sem, eb, h1]; exact rfl); all_goals (try simp only [go_sem, hc, eb, h1]); all_goals (try simp only [go_sem, eb, h1] at hc); all_goals (try (exfalso; omega)))
      | (refine runD_split ?_ (fun hc => ?_) (fun hc => ?_); (simp only [go_sem, eb, h1]; exact rfl); all_goals (try simp only [go_sem, hc, eb, h1]); all_goals (try simp only [go_sem, eb, h1] at hc); all_goals (try (exfalso; omega)))
      | refine And.intro (by first | omega | exact trivial | rfl | assumption | (apply map_sz; intro a; simp only [go_sem]; done) | ((and_intros <;> first | omega | exact trivial | rfl | assumption | (apply map_sz; intro a; simp only [go_sem]; done) | fail); done) | fail) ?_
      | fail)
    first | refine ret_pure (by simp only [Try.results72, resOkL, resOk, Try.ntmps72, List.toList_toArray]; first | decide | (simp only [go_sem]; done) | (simp only [go_sem]; and_intros <;> first | omega | rfl | decide)) ?_ (by repeat (first | exact Fr.rfl' _ _ | assumption | refine Fr.updk ?_ (by omega) _)) | refine ret_ro (by simp only [Try.results72, resOkL, resOk, Try.ntmps72, List.toList_toArray]; first | decide | (simp only [go_sem]; done) | (simp only [go_sem]; and_intros <;> first | omega | rfl | decide)) ?_ (by repeat (first | exact Fr.rfl' _ _ | assumption | refine Fr.updk ?_ (by omega) _))
    simp only [resA, resV, Try.results72, go_sem]
    all_goals try (first | exact Co.t2 (.dat rfl) (.dat rfl) | exact Co.t3 (.dat rfl) (.dat rfl) (.dat rfl))
    exact .dat rfl
set_option maxRecDepth 20000 in
theorem value3_tri (b : Nm) (vars : List Int) (v : Int) (h1 : 0 < v) (h2 : v ≤ vars.length) (hl : vars.length ≤ 4000000) : Tri Try.prog 74 [iA v, .ptr b 0] (rdE (vbO b vars) (iA (byL vars v))) := by
  refine tri_enter_ro Try.func74 rfl Try.ntmps74 (by simp only [List.length_cons, List.length_nil]; omega) fun w0 h0 k hro => ?_
  have eb := (hro.get _ (List.mem_cons_self ..)).2
  have hx : (v - 1).toNat < vars.length := by omega
  have e1 : (vars.map iD).getD (v - 1).toNat default = iD vars[(v - 1).toNat] := nth_map iD hx _
  have hz1 : v - 1 < (vars.length : Int) := by omega
  have e : byL vars v = vars[(v - 1).toNat] := by rw [byL, getD_at hx]
  repeat' (first
    | refine awp_seq_k fun K hK => ?_
    | (refine awp_region_k (by kernel_rfl) fun R hR => ?_; simp only [go_sem, eb, e1, hz1])
    | (refine awp_draw mixed (by kernel_rfl) (by kernel_rfl) fun R hR => ?_; simp only [go_sem, eb, e1, hz1])
    | (refine hR _ ?_; clear hR R; try simp only [thenA, inBlockA, reduceIte, reduceCtorEq, Nat.reduceEqDiff, if_false, if_true])
    | (refine hK _ ?_; clear hK K)
    | (clear hK K; refine hK _ ?_; clear hK K)
    | (clear hK K; clear hK K; refine hK _ ?_; clear hK K)
    | (clear hK K; clear hK K; clear hK K; refine hK _ ?_; clear hK K)
    | (clear hK K; clear hK K; clear hK K; clear hK K; refine hK _ ?_; clear hK K)
    | refine awp_true rfl rfl ?_
    | refine awp_false rfl rfl ?_
    | (refine awp_cond rfl rfl (fun hc => ?_) (fun hc => ?_) <;> (try simp only [go_sem, eb, e1, hz1] at hc) <;> (try (exfalso; omega)))
    | refine awp_block ?_
    | (refine awp_skip ?_; try simp only [thenA, inBlockA, reduceIte, reduceCtorEq, Nat.reduceEqDiff, if_false, if_true])
    | (refine awp_exit ?_; try simp only [thenA, inBlockA, reduceIte, reduceCtorEq, Nat.reduceEqDiff, if_false, if_true])
    | (refine awp_ret ?_; try simp only [thenA, inBlockA, reduceIte, reduceCtorEq, Nat.reduceEqDiff, if_false, if_true])
    | (refine runL_split ?_ (fun hc => ?_) (fun hc => ?_); (simp only [go_sem, eb, e1, hz1]; exact rfl); all_goals (try simp only [go_sem, hc, eb, e1, hz1]); all_goals (try simp only [go_sem, eb, e1, hz1] at hc); all_goals (try (exfalso; omega)))
    | (refine runD_split ?_ (fun hc => ?_) (fun hc => ?_); (simp only [go_sem, eb, e1, hz1]; exact rfl); all_goals (try simp only [go_sem, hc, eb, e1, hz1]); all_goals (try simp only [go_sem, eb, e1, hz1] at hc); all_goals (try (exfalso; omega)))
    | refine And.intro (by first | omega | exact trivial | rfl | assumption | (apply map_sz; intro a; simp only [go_sem]; done) | ((and_intros <;> first | omega | exact trivial | rfl | assumption | (apply map_sz; intro a; simp only [go_sem]; done) | fail); done) | fail) ?_
    | fail)
  first | refine ret_pure (by simp only [Try.results74, resOkL, resOk, Try.ntmps74, List.toList_toArray]; first | decide | (simp only [go_sem]; done) | (simp only [go_sem]; and_intros <;> first | omega | rfl | decide)) ?_ (by repeat (first | exact Fr.rfl' _ _ | assumption | refine Fr.updk ?_ (by omega) _)) | refine ret_ro (by simp only [Try.results74, resOkL, resOk, Try.ntmps74, List.toList_toArray]; first | decide | (simp only [go_sem]; done) | (simp only [go_sem]; and_intros <;> first | omega | rfl | decide)) ?_ (by repeat (first | exact Fr.rfl' _ _ | assumption | refine Fr.updk ?_ (by omega) _))
  simp only [resA, resV, Try.results74, go_sem]
  all_goals try (first | exact Co.t2 (.dat rfl) (.dat rfl) | exact Co.t3 (.dat rfl) (.dat rfl) (.dat rfl))
  exact co_i e.symm
/-- model.Value's answer. -/
def valAns (g : List Int) (sz : Int) (tb : List (List Int)) (t : Tm) (vars : List Int) : Int × Int :=
  if mdOk g sz tb ≠ 0 then (0, mdOk g sz tb) else if own g t ≠ 0 then (0, own g t) else if ((firstVars [t]).any fun v => decide (v > vars.length)) = true then (0, 1)
  else if (vars.any (outOf sz)) = true then (0, 5) else (valM sz tb (byL vars) t, 0)
/-- What is right for a value. -/
theorem fine_of {g : List Int} {sz : Int} {t : Tm} {vars : List Int} (ho : own g t = 0) (h1 : ((firstVars [t]).any fun v => decide (v > vars.length)) = false) (h2 : (vars.any (outOf sz)) = false) : Fine g sz (byL vars) (parts t) ∧ ∀ x ∈ parts t, x.v > 0 → x.v ≤ vars.length := by
  have key : ∀ x ∈ parts t, x.v > 0 → x.v ≤ vars.length := by
    intro x hx hv
    have hm : x.v ∈ firstVars [t] := addVs_has (by simpa using hx) hv
    have := List.any_eq_false.1 h1 _ hm
    simp at this
    omega
  refine ⟨fun x hx => ⟨own_each ho hx, fun hv => ?_⟩, key⟩
  have hl := key x hx hv
  have hi : (x.v - 1).toNat < vars.length := by omega
  rw [byL, getD_at hi]
  have := List.any_eq_false.1 h2 _ (List.getElem_mem hi)
  generalize vars[(x.v - 1).toNat] = y at *
  simp [outOf] at this
  omega
theorem stands_one {g : List Int} {t : Tm} (ho : own g t = 0) : addVs [] ([t].flatMap pre) = firstVars [t] := stands_eq (fun u hu => by simp at hu; subst hu; exact own_bare ho) []
set_option maxHeartbeats 2000000 in
set_option maxRecDepth 20000 in
theorem mdValue_tri (g : List Int) (sz : Int) (tb : List (List Int)) (t : Tm) (vars : List Int) (hl : tb.length ≤ 4000000) (hr : ∀ r ∈ tb, r.length ≤ 4000000) (ht : t.size ≤ 4000000) (hvl : vars.length ≤ 4000000) :
    Tri Try.prog 18 [.d (sgDV g), .d (mdDV sz tb), .d (tmDV t), .d (.sl (vars.map iD))] (pure' (.tup [iA (valAns g sz tb t vars).1, iA (valAns g sz tb t vars).2])) := by
  refine tri_enter Try.func18 rfl Try.ntmps18 (by simp only [List.length_cons, List.length_nil]; omega) fun w0 h0 k hrd hwr => ?_
  cases hm : mdOk g sz tb == 0 with
  | false =>
    have hm' : (mdOk g sz tb != 0) = true := by simpa using hm
    have ha : valAns g sz tb t vars = (0, mdOk g sz tb) := by unfold valAns; rw [if_pos (by simpa using hm)]
    repeat' (first
      | refine awp_seq_k fun K hK => ?_
      | (refine awp_region_k (by kernel_rfl) fun R hR => ?_; simp only [go_sem, hm, hm'])
      | (refine awp_draw mixed (by kernel_rfl) (by kernel_rfl) fun R hR => ?_; simp only [go_sem, hm, hm'])
      | (refine hR _ ?_; clear hR R; try simp only [thenA, inBlockA, reduceIte, reduceCtorEq, Nat.reduceEqDiff, if_false, if_true])
      | (refine hK _ ?_; clear hK K)
      | (clear hK K; refine hK _ ?_; clear hK K)
      | (clear hK K; clear hK K; refine hK _ ?_; clear hK K)
      | (clear hK K; clear hK K; clear hK K; refine hK _ ?_; clear hK K)
      | (clear hK K; clear hK K; clear hK K; clear hK K; refine hK _ ?_; clear hK K)
      | refine awp_true rfl rfl ?_
      | refine awp_false rfl rfl ?_
      | (refine awp_cond rfl rfl (fun hc => ?_) (fun hc => ?_) <;> (try simp only [go_sem, hm, hm'] at hc) <;> (try (exfalso; omega)))
      | refine awp_block ?_
      | (refine awp_skip ?_; try simp only [thenA, inBlockA, reduceIte, reduceCtorEq, Nat.reduceEqDiff, if_false, if_true])
      | (refine awp_exit ?_; try simp only [thenA, inBlockA, reduceIte, reduceCtorEq, Nat.reduceEqDiff, if_false, if_true])
      | (refine awp_ret ?_; try simp only [thenA, inBlockA, reduceIte, reduceCtorEq, Nat.reduceEqDiff, if_false, if_true])
      | (refine runL_split ?_ (fun hc => ?_) (fun hc => ?_); (simp only [go_sem, hm, hm']; exact rfl); all_goals (try simp only [go_sem, hc, hm, hm']); all_goals (try simp only [go_sem, hm, hm'] at hc); all_goals (try (exfalso; omega)))
      | (refine runD_split ?_ (fun hc => ?_) (fun hc => ?_); (simp only [go_sem, hm, hm']; exact rfl); all_goals (try simp only [go_sem, hc, hm, hm']); all_goals (try simp only [go_sem, hm, hm'] at hc); all_goals (try (exfalso; omega)))
      | (first | (refine CallK.pure (enter28) (mdCheck_tri g sz tb hl hr) ?_ ?_; (focus first | ((repeat (first | exact trivial | refine ⟨(by first | exact Or.inl rfl | exact Or.inr rfl), ?_⟩)); done) | (simp only [coL, AV.dat, true_or, or_true, AV.d.injEq, go_sem]; done)); simp only [go_sem, hm, hm']) | (refine CallD.pure (enter28) (mdCheck_tri g sz tb hl hr) ?_ ?_; (focus first | ((repeat (first | exact trivial | refine ⟨(by first | exact Or.inl rfl | exact Or.inr rfl), ?_⟩)); done) | (simp only [coL, AV.dat, true_or, or_true, AV.d.injEq, go_sem]; done)); simp only [go_sem, hm, hm']))
      | refine And.intro (by first | omega | exact trivial | rfl | assumption | (apply map_sz; intro a; simp only [go_sem]; done) | ((and_intros <;> first | omega | exact trivial | rfl | assumption | (apply map_sz; intro a; simp only [go_sem]; done) | fail); done) | fail) ?_
      | fail)
    rw [ha]
    first | refine ret_pure (by simp only [Try.results18, resOkL, resOk, Try.ntmps18, List.toList_toArray]; first | decide | (simp only [go_sem]; done) | (simp only [go_sem]; and_intros <;> first | omega | rfl | decide)) ?_ (by repeat (first | exact Fr.rfl' _ _ | assumption | refine Fr.updk ?_ (by omega) _)) | refine ret_ro (by simp only [Try.results18, resOkL, resOk, Try.ntmps18, List.toList_toArray]; first | decide | (simp only [go_sem]; done) | (simp only [go_sem]; and_intros <;> first | omega | rfl | decide)) ?_ (by repeat (first | exact Fr.rfl' _ _ | assumption | refine Fr.updk ?_ (by omega) _))
    simp only [resA, resV, Try.results18, go_sem]
    all_goals try (first | exact Co.t2 (.dat rfl) (.dat rfl) | exact Co.t3 (.dat rfl) (.dat rfl) (.dat rfl))
  | true =>
    have hm2 : mdOk g sz tb = 0 := by simpa using hm
    cases ho : own g t == 0 with
    | false =>
      have ho' : (own g t != 0) = true := by simpa using ho
      have ha : valAns g sz tb t vars = (0, own g t) := by unfold valAns; rw [if_neg (by simp [hm2]), if_pos (by simpa using ho)]
      repeat' (first
        | refine awp_seq_k fun K hK => ?_
        | (refine awp_region_k (by kernel_rfl) fun R hR => ?_; simp only [go_sem, hm2, ho', beq_self_eq_true])
        | (refine awp_draw mixed (by kernel_rfl) (by kernel_rfl) fun R hR => ?_; simp only [go_sem, hm2, ho', beq_self_eq_true])
        | (refine hR _ ?_; clear hR R; try simp only [thenA, inBlockA, reduceIte, reduceCtorEq, Nat.reduceEqDiff, if_false, if_true])
        | (refine hK _ ?_; clear hK K)
        | (clear hK K; refine hK _ ?_; clear hK K)
        | (clear hK K; clear hK K; refine hK _ ?_; clear hK K)
        | (clear hK K; clear hK K; clear hK K; refine hK _ ?_; clear hK K)
        | (clear hK K; clear hK K; clear hK K; clear hK K; refine hK _ ?_; clear hK K)
        | refine awp_true rfl rfl ?_
        | refine awp_false rfl rfl ?_
        | (refine awp_cond rfl rfl (fun hc => ?_) (fun hc => ?_) <;> (try simp only [go_sem, hm2, ho', beq_self_eq_true] at hc) <;> (try (exfalso; omega)))
        | refine awp_block ?_
        | (refine awp_skip ?_; try simp only [thenA, inBlockA, reduceIte, reduceCtorEq, Nat.reduceEqDiff, if_false, if_true])
        | (refine awp_exit ?_; try simp only [thenA, inBlockA, reduceIte, reduceCtorEq, Nat.reduceEqDiff, if_false, if_true])
        | (refine awp_ret ?_; try simp only [thenA, inBlockA, reduceIte, reduceCtorEq, Nat.reduceEqDiff, if_false, if_true])
        | (refine runL_split ?_ (fun hc => ?_) (fun hc => ?_); (simp only [go_sem, hm2, ho', beq_self_eq_true]; exact rfl); all_goals (try simp only [go_sem, hc, hm2, ho', beq_self_eq_true]); all_goals (try simp only [go_sem, hm2, ho', beq_self_eq_true] at hc); all_goals (try (exfalso; omega)))
        | (refine runD_split ?_ (fun hc => ?_) (fun hc => ?_); (simp only [go_sem, hm2, ho', beq_self_eq_true]; exact rfl); all_goals (try simp only [go_sem, hc, hm2, ho', beq_self_eq_true]); all_goals (try simp only [go_sem, hm2, ho', beq_self_eq_true] at hc); all_goals (try (exfalso; omega)))
        | (first | (refine CallK.pure (enter28) (mdCheck_tri g sz tb hl hr) ?_ ?_; (focus first | ((repeat (first | exact trivial | refine ⟨(by first | exact Or.inl rfl | exact Or.inr rfl), ?_⟩)); done) | (simp only [coL, AV.dat, true_or, or_true, AV.d.injEq, go_sem]; done)); simp only [go_sem, hm2, ho', beq_self_eq_true]) | (refine CallD.pure (enter28) (mdCheck_tri g sz tb hl hr) ?_ ?_; (focus first | ((repeat (first | exact trivial | refine ⟨(by first | exact Or.inl rfl | exact Or.inr rfl), ?_⟩)); done) | (simp only [coL, AV.dat, true_or, or_true, AV.d.injEq, go_sem]; done)); simp only [go_sem, hm2, ho', beq_self_eq_true]))
        | (first | (refine CallK.pure (enter68) (own_tri g t) ?_ ?_; (focus first | ((repeat (first | exact trivial | refine ⟨(by first | exact Or.inl rfl | exact Or.inr rfl), ?_⟩)); done) | (simp only [coL, AV.dat, true_or, or_true, AV.d.injEq, go_sem]; done)); simp only [go_sem, hm2, ho', beq_self_eq_true]) | (refine CallD.pure (enter68) (own_tri g t) ?_ ?_; (focus first | ((repeat (first | exact trivial | refine ⟨(by first | exact Or.inl rfl | exact Or.inr rfl), ?_⟩)); done) | (simp only [coL, AV.dat, true_or, or_true, AV.d.injEq, go_sem]; done)); simp only [go_sem, hm2, ho', beq_self_eq_true]))
        | refine And.intro (by first | omega | exact trivial | rfl | assumption | (apply map_sz; intro a; simp only [go_sem]; done) | ((and_intros <;> first | omega | exact trivial | rfl | assumption | (apply map_sz; intro a; simp only [go_sem]; done) | fail); done) | fail) ?_
        | fail)
      rw [ha]
      first | refine ret_pure (by simp only [Try.results18, resOkL, resOk, Try.ntmps18, List.toList_toArray]; first | decide | (simp only [go_sem]; done) | (simp only [go_sem]; and_intros <;> first | omega | rfl | decide)) ?_ (by repeat (first | exact Fr.rfl' _ _ | assumption | refine Fr.updk ?_ (by omega) _)) | refine ret_ro (by simp only [Try.results18, resOkL, resOk, Try.ntmps18, List.toList_toArray]; first | decide | (simp only [go_sem]; done) | (simp only [go_sem]; and_intros <;> first | omega | rfl | decide)) ?_ (by repeat (first | exact Fr.rfl' _ _ | assumption | refine Fr.updk ?_ (by omega) _))
      simp only [resA, resV, Try.results18, go_sem]
      all_goals try (first | exact Co.t2 (.dat rfl) (.dat rfl) | exact Co.t3 (.dat rfl) (.dat rfl) (.dat rfl))
    | true =>
      have ho2 : own g t = 0 := by simpa using ho
      have hst := stands_tri [t] (by simp [Tm.size.sizes]; omega)
      rw [stands_one ho2] at hst
      have hfl : (firstVars [t]).length ≤ 16777216 := by
        have h1 := addVs_len ([t].flatMap parts) []
        have h2 := parts_len t
        simp at h1
        unfold firstVars
        simp
        omega
      have hc1 := containsF_ints (firstVars [t]) hfl 71 (enter71) [.ptr (k, 3) 0] (vbO (k, 3) vars) (fun v => decide (v > vars.length)) (fun v _ => value1_tri (k, 3) vars v)
      have hc2 := containsF_ints vars (by omega) 72 (enter72) [.ptr (k, 1) 0] (mdO (k, 1) sz tb) (outOf sz) (fun v _ => value2_tri (k, 1) sz tb v)
      have hb1 : ∀ h : Heap, h (k, 3) = some (.cells 22 [.d (.sl (vars.map iD))]) → RoOK (k + 1) (vbO (k, 3) vars) h := fun h e => roVb (Nat.lt_succ_self k) e
      have hb2 : ∀ h : Heap, h (k, 1) = some (.cells 39 [iA sz, .d (.sl (tb.map gI))]) → RoOK (k + 1) (mdO (k, 1) sz tb) h := fun h e => roMd (Nat.lt_succ_self k) e
      cases h1 : (firstVars [t]).any fun v => decide (v > vars.length) with
      | true =>
        have ha : valAns g sz tb t vars = (0, 1) := by unfold valAns; rw [if_neg (by simp [hm2]), if_neg (by simp [ho2]), if_pos h1]
        rw [h1] at hc1
        repeat' (first
          | refine awp_seq_k fun K hK => ?_
          | (refine awp_region_k (by kernel_rfl) fun R hR => ?_; simp only [go_sem, hm2, ho2, beq_self_eq_true, bne_self_eq_false])
          | (refine awp_draw mixed (by kernel_rfl) (by kernel_rfl) fun R hR => ?_; simp only [go_sem, hm2, ho2, beq_self_eq_true, bne_self_eq_false])
          | (refine hR _ ?_; clear hR R; try simp only [thenA, inBlockA, reduceIte, reduceCtorEq, Nat.reduceEqDiff, if_false, if_true])
          | (refine hK _ ?_; clear hK K)
          | (clear hK K; refine hK _ ?_; clear hK K)
          | (clear hK K; clear hK K; refine hK _ ?_; clear hK K)
          | (clear hK K; clear hK K; clear hK K; refine hK _ ?_; clear hK K)
          | (clear hK K; clear hK K; clear hK K; clear hK K; refine hK _ ?_; clear hK K)
          | refine awp_true rfl rfl ?_
          | refine awp_false rfl rfl ?_
          | (refine awp_cond rfl rfl (fun hc => ?_) (fun hc => ?_) <;> (try simp only [go_sem, hm2, ho2, beq_self_eq_true, bne_self_eq_false] at hc) <;> (try (exfalso; omega)))
          | refine awp_block ?_
          | (refine awp_skip ?_; try simp only [thenA, inBlockA, reduceIte, reduceCtorEq, Nat.reduceEqDiff, if_false, if_true])
          | (refine awp_exit ?_; try simp only [thenA, inBlockA, reduceIte, reduceCtorEq, Nat.reduceEqDiff, if_false, if_true])
          | (refine awp_ret ?_; try simp only [thenA, inBlockA, reduceIte, reduceCtorEq, Nat.reduceEqDiff, if_false, if_true])
          | (refine runL_split ?_ (fun hc => ?_) (fun hc => ?_); (simp only [go_sem, hm2, ho2, beq_self_eq_true, bne_self_eq_false]; exact rfl); all_goals (try simp only [go_sem, hc, hm2, ho2, beq_self_eq_true, bne_self_eq_false]); all_goals (try simp only [go_sem, hm2, ho2, beq_self_eq_true, bne_self_eq_false] at hc); all_goals (try (exfalso; omega)))
          | (refine runD_split ?_ (fun hc => ?_) (fun hc => ?_); (simp only [go_sem, hm2, ho2, beq_self_eq_true, bne_self_eq_false]; exact rfl); all_goals (try simp only [go_sem, hc, hm2, ho2, beq_self_eq_true, bne_self_eq_false]); all_goals (try simp only [go_sem, hm2, ho2, beq_self_eq_true, bne_self_eq_false] at hc); all_goals (try (exfalso; omega)))
          | (first | (refine CallK.pure (enter28) (mdCheck_tri g sz tb hl hr) ?_ ?_; (focus first | ((repeat (first | exact trivial | refine ⟨(by first | exact Or.inl rfl | exact Or.inr rfl), ?_⟩)); done) | (simp only [coL, AV.dat, true_or, or_true, AV.d.injEq, go_sem]; done)); simp only [go_sem, hm2, ho2, beq_self_eq_true, bne_self_eq_false]) | (refine CallD.pure (enter28) (mdCheck_tri g sz tb hl hr) ?_ ?_; (focus first | ((repeat (first | exact trivial | refine ⟨(by first | exact Or.inl rfl | exact Or.inr rfl), ?_⟩)); done) | (simp only [coL, AV.dat, true_or, or_true, AV.d.injEq, go_sem]; done)); simp only [go_sem, hm2, ho2, beq_self_eq_true, bne_self_eq_false]))
          | (first | (refine CallK.pure (enter68) (own_tri g t) ?_ ?_; (focus first | ((repeat (first | exact trivial | refine ⟨(by first | exact Or.inl rfl | exact Or.inr rfl), ?_⟩)); done) | (simp only [coL, AV.dat, true_or, or_true, AV.d.injEq, go_sem]; done)); simp only [go_sem, hm2, ho2, beq_self_eq_true, bne_self_eq_false]) | (refine CallD.pure (enter68) (own_tri g t) ?_ ?_; (focus first | ((repeat (first | exact trivial | refine ⟨(by first | exact Or.inl rfl | exact Or.inr rfl), ?_⟩)); done) | (simp only [coL, AV.dat, true_or, or_true, AV.d.injEq, go_sem]; done)); simp only [go_sem, hm2, ho2, beq_self_eq_true, bne_self_eq_false]))
          | (first | (refine CallK.pure (enter70) (hst) ?_ ?_; (focus first | ((repeat (first | exact trivial | refine ⟨(by first | exact Or.inl rfl | exact Or.inr rfl), ?_⟩)); done) | (simp only [coL, AV.dat, true_or, or_true, AV.d.injEq, go_sem]; done)); simp only [go_sem, hm2, ho2, beq_self_eq_true, bne_self_eq_false]) | (refine CallD.pure (enter70) (hst) ?_ ?_; (focus first | ((repeat (first | exact trivial | refine ⟨(by first | exact Or.inl rfl | exact Or.inr rfl), ?_⟩)); done) | (simp only [coL, AV.dat, true_or, or_true, AV.d.injEq, go_sem]; done)); simp only [go_sem, hm2, ho2, beq_self_eq_true, bne_self_eq_false]))
          | (first | (first | (refine CallK.look (enter69) (hc1) ?_ (hb1 _ (by simp only [go_sem])) (Fr.rfl' _ _) ?_; (focus first | ((repeat (first | exact trivial | refine ⟨(by first | exact Or.inl rfl | exact Or.inr rfl), ?_⟩)); done) | (simp only [coL, AV.dat, true_or, or_true, AV.d.injEq, go_sem]; done)); simp only [go_sem, hm2, ho2, beq_self_eq_true, bne_self_eq_false])) | (first | (refine CallD.look (enter69) (hc1) ?_ (hb1 _ (by simp only [go_sem])) (Fr.rfl' _ _) (by first | assumption | exact List.cons_ne_nil _ _) ?_; (focus first | ((repeat (first | exact trivial | refine ⟨(by first | exact Or.inl rfl | exact Or.inr rfl), ?_⟩)); done) | (simp only [coL, AV.dat, true_or, or_true, AV.d.injEq, go_sem]; done)); simp only [go_sem, hm2, ho2, beq_self_eq_true, bne_self_eq_false])))
          | refine And.intro (by first | omega | exact trivial | rfl | assumption | (apply map_sz; intro a; simp only [go_sem]; done) | ((and_intros <;> first | omega | exact trivial | rfl | assumption | (apply map_sz; intro a; simp only [go_sem]; done) | fail); done) | fail) ?_
          | fail)
        rw [ha]
        first | refine ret_pure (by simp only [Try.results18, resOkL, resOk, Try.ntmps18, List.toList_toArray]; first | decide | (simp only [go_sem]; done) | (simp only [go_sem]; and_intros <;> first | omega | rfl | decide)) ?_ (by repeat (first | exact Fr.rfl' _ _ | assumption | refine Fr.updk ?_ (by omega) _)) | refine ret_ro (by simp only [Try.results18, resOkL, resOk, Try.ntmps18, List.toList_toArray]; first | decide | (simp only [go_sem]; done) | (simp only [go_sem]; and_intros <;> first | omega | rfl | decide)) ?_ (by repeat (first | exact Fr.rfl' _ _ | assumption | refine Fr.updk ?_ (by omega) _))
        simp only [resA, resV, Try.results18, go_sem]
        all_goals try (first | exact Co.t2 (.dat rfl) (.dat rfl) | exact Co.t3 (.dat rfl) (.dat rfl) (.dat rfl))
      | false =>
        rw [h1] at hc1
        cases h2 : vars.any (outOf sz) with
        | true =>
          have ha : valAns g sz tb t vars = (0, 5) := by unfold valAns; rw [if_neg (by simp [hm2]), if_neg (by simp [ho2]), if_neg (by rw [h1]; simp), if_pos h2]
          rw [h2] at hc2
          repeat' (first
            | refine awp_seq_k fun K hK => ?_
            | (refine awp_region_k (by kernel_rfl) fun R hR => ?_; simp only [go_sem, hm2, ho2, beq_self_eq_true, bne_self_eq_false])
            | (refine awp_draw mixed (by kernel_rfl) (by kernel_rfl) fun R hR => ?_; simp only [go_sem, hm2, ho2, beq_self_eq_true, bne_self_eq_false])
            | (refine hR _ ?_; clear hR R; try simp only [thenA, inBlockA, reduceIte, reduceCtorEq, Nat.reduceEqDiff, if_false, if_true])
            | (refine hK _ ?_; clear hK K)
            | (clear hK K; refine hK _ ?_; clear hK K)
            | (clear hK K; clear hK K; refine hK _ ?_; clear hK K)
            | (clear hK K; clear hK K; clear hK K; refine hK _ ?_; clear hK K)
            | (clear hK K; clear hK K; clear hK K; clear hK K; refine hK _ ?_; clear hK K)
            | refine awp_true rfl rfl ?_
            | refine awp_false rfl rfl ?_
            | (refine awp_cond rfl rfl (fun hc => ?_) (fun hc => ?_) <;> (try simp only [go_sem, hm2, ho2, beq_self_eq_true, bne_self_eq_false] at hc) <;> (try (exfalso; omega)))
            | refine awp_block ?_
            | (refine awp_skip ?_; try simp only [thenA, inBlockA, reduceIte, reduceCtorEq, Nat.reduceEqDiff, if_false, if_true])
            | (refine awp_exit ?_; try simp only [thenA, inBlockA, reduceIte, reduceCtorEq, Nat.reduceEqDiff, if_false, if_true])
            | (refine awp_ret ?_; try simp only [thenA, inBlockA, reduceIte, reduceCtorEq, Nat.reduceEqDiff, if_false, if_true])
            | (refine runL_split ?_ (fun hc => ?_) (fun hc => ?_); (simp only [go_sem, hm2, ho2, beq_self_eq_true, bne_self_eq_false]; exact rfl); all_goals (try simp only [go_sem, hc, hm2, ho2, beq_self_eq_true, bne_self_eq_false]); all_goals (try simp only [go_sem, hm2, ho2, beq_self_eq_true, bne_self_eq_false] at hc); all_goals (try (exfalso; omega)))
            | (refine runD_split ?_ (fun hc => ?_) (fun hc => ?_); (simp only [go_sem, hm2, ho2, beq_self_eq_true, bne_self_eq_false]; exact rfl); all_goals (try simp only [go_sem, hc, hm2, ho2, beq_self_eq_true, bne_self_eq_false]); all_goals (try simp only [go_sem, hm2, ho2, beq_self_eq_true, bne_self_eq_false] at hc); all_goals (try (exfalso; omega)))
            | (first | (refine CallK.pure (enter28) (mdCheck_tri g sz tb hl hr) ?_ ?_; (focus first | ((repeat (first | exact trivial | refine ⟨(by first | exact Or.inl rfl | exact Or.inr rfl), ?_⟩)); done) | (simp only [coL, AV.dat, true_or, or_true, AV.d.injEq, go_sem]; done)); simp only [go_sem, hm2, ho2, beq_self_eq_true, bne_self_eq_false]) | (refine CallD.pure (enter28) (mdCheck_tri g sz tb hl hr) ?_ ?_; (focus first | ((repeat (first | exact trivial | refine ⟨(by first | exact Or.inl rfl | exact Or.inr rfl), ?_⟩)); done) | (simp only [coL, AV.dat, true_or, or_true, AV.d.injEq, go_sem]; done)); simp only [go_sem, hm2, ho2, beq_self_eq_true, bne_self_eq_false]))
            | (first | (refine CallK.pure (enter68) (own_tri g t) ?_ ?_; (focus first | ((repeat (first | exact trivial | refine ⟨(by first | exact Or.inl rfl | exact Or.inr rfl), ?_⟩)); done) | (simp only [coL, AV.dat, true_or, or_true, AV.d.injEq, go_sem]; done)); simp only [go_sem, hm2, ho2, beq_self_eq_true, bne_self_eq_false]) | (refine CallD.pure (enter68) (own_tri g t) ?_ ?_; (focus first | ((repeat (first | exact trivial | refine ⟨(by first | exact Or.inl rfl | exact Or.inr rfl), ?_⟩)); done) | (simp only [coL, AV.dat, true_or, or_true, AV.d.injEq, go_sem]; done)); simp only [go_sem, hm2, ho2, beq_self_eq_true, bne_self_eq_false]))
            | (first | (refine CallK.pure (enter70) (hst) ?_ ?_; (focus first | ((repeat (first | exact trivial | refine ⟨(by first | exact Or.inl rfl | exact Or.inr rfl), ?_⟩)); done) | (simp only [coL, AV.dat, true_or, or_true, AV.d.injEq, go_sem]; done)); simp only [go_sem, hm2, ho2, beq_self_eq_true, bne_self_eq_false]) | (refine CallD.pure (enter70) (hst) ?_ ?_; (focus first | ((repeat (first | exact trivial | refine ⟨(by first | exact Or.inl rfl | exact Or.inr rfl), ?_⟩)); done) | (simp only [coL, AV.dat, true_or, or_true, AV.d.injEq, go_sem]; done)); simp only [go_sem, hm2, ho2, beq_self_eq_true, bne_self_eq_false]))
            | (first | (first | (refine CallK.look (enter69) (hc1) ?_ (hb1 _ (by simp only [go_sem])) (Fr.rfl' _ _) ?_; (focus first | ((repeat (first | exact trivial | refine ⟨(by first | exact Or.inl rfl | exact Or.inr rfl), ?_⟩)); done) | (simp only [coL, AV.dat, true_or, or_true, AV.d.injEq, go_sem]; done)); simp only [go_sem, hm2, ho2, beq_self_eq_true, bne_self_eq_false])) | (first | (refine CallD.look (enter69) (hc1) ?_ (hb1 _ (by simp only [go_sem])) (Fr.rfl' _ _) (by first | assumption | exact List.cons_ne_nil _ _) ?_; (focus first | ((repeat (first | exact trivial | refine ⟨(by first | exact Or.inl rfl | exact Or.inr rfl), ?_⟩)); done) | (simp only [coL, AV.dat, true_or, or_true, AV.d.injEq, go_sem]; done)); simp only [go_sem, hm2, ho2, beq_self_eq_true, bne_self_eq_false])))
            | (first | (first | (refine CallK.look (enter69) (hc2) ?_ (hb2 _ (by simp only [go_sem])) (Fr.rfl' _ _) ?_; (focus first | ((repeat (first | exact trivial | refine ⟨(by first | exact Or.inl rfl | exact Or.inr rfl), ?_⟩)); done) | (simp only [coL, AV.dat, true_or, or_true, AV.d.injEq, go_sem]; done)); simp only [go_sem, hm2, ho2, beq_self_eq_true, bne_self_eq_false])) | (first | (refine CallD.look (enter69) (hc2) ?_ (hb2 _ (by simp only [go_sem])) (Fr.rfl' _ _) (by first | assumption | exact List.cons_ne_nil _ _) ?_; (focus first | ((repeat (first | exact trivial | refine ⟨(by first | exact Or.inl rfl | exact Or.inr rfl), ?_⟩)); done) | (simp only [coL, AV.dat, true_or, or_true, AV.d.injEq, go_sem]; done)); simp only [go_sem, hm2, ho2, beq_self_eq_true, bne_self_eq_false])))
            | refine And.intro (by first | omega | exact trivial | rfl | assumption | (apply map_sz; intro a; simp only [go_sem]; done) | ((and_intros <;> first | omega | exact trivial | rfl | assumption | (apply map_sz; intro a; simp only [go_sem]; done) | fail); done) | fail) ?_
            | fail)
          rw [ha]
          first | refine ret_pure (by simp only [Try.results18, resOkL, resOk, Try.ntmps18, List.toList_toArray]; first | decide | (simp only [go_sem]; done) | (simp only [go_sem]; and_intros <;> first | omega | rfl | decide)) ?_ (by repeat (first | exact Fr.rfl' _ _ | assumption | refine Fr.updk ?_ (by omega) _)) | refine ret_ro (by simp only [Try.results18, resOkL, resOk, Try.ntmps18, List.toList_toArray]; first | decide | (simp only [go_sem]; done) | (simp only [go_sem]; and_intros <;> first | omega | rfl | decide)) ?_ (by repeat (first | exact Fr.rfl' _ _ | assumption | refine Fr.updk ?_ (by omega) _))
          simp only [resA, resV, Try.results18, go_sem]
          all_goals try (first | exact Co.t2 (.dat rfl) (.dat rfl) | exact Co.t3 (.dat rfl) (.dat rfl) (.dat rfl))
        | false =>
          have ha : valAns g sz tb t vars = (valM sz tb (byL vars) t, 0) := by unfold valAns; rw [if_neg (by simp [hm2]), if_neg (by simp [ho2]), if_neg (by rw [h1]; simp), if_neg (by rw [h2]; simp)]
          rw [h2] at hc2
          obtain ⟨hf, hk⟩ := fine_of ho2 h1 h2
          have hval := value_tri hm2 74 (enter74) [.ptr (k, 3) 0] (vbO (k, 3) vars) (List.cons_ne_nil _ _) t hf (fun x hx hv => value3_tri (k, 3) vars x.v hv (hk x hx hv) hvl)
          repeat' (first
            | refine awp_seq_k fun K hK => ?_
            | (refine awp_region_k (by kernel_rfl) fun R hR => ?_; simp only [go_sem, hm2, ho2, beq_self_eq_true, bne_self_eq_false])
            | (refine awp_draw mixed (by kernel_rfl) (by kernel_rfl) fun R hR => ?_; simp only [go_sem, hm2, ho2, beq_self_eq_true, bne_self_eq_false])
            | (refine hR _ ?_; clear hR R; try simp only [thenA, inBlockA, reduceIte, reduceCtorEq, Nat.reduceEqDiff, if_false, if_true])
            | (refine hK _ ?_; clear hK K)
            | (clear hK K; refine hK _ ?_; clear hK K)
            | (clear hK K; clear hK K; refine hK _ ?_; clear hK K)
            | (clear hK K; clear hK K; clear hK K; refine hK _ ?_; clear hK K)
            | (clear hK K; clear hK K; clear hK K; clear hK K; refine hK _ ?_; clear hK K)
            | refine awp_true rfl rfl ?_
            | refine awp_false rfl rfl ?_
            | (refine awp_cond rfl rfl (fun hc => ?_) (fun hc => ?_) <;> (try simp only [go_sem, hm2, ho2, beq_self_eq_true, bne_self_eq_false] at hc) <;> (try (exfalso; omega)))
            | refine awp_block ?_
            | (refine awp_skip ?_; try simp only [thenA, inBlockA, reduceIte, reduceCtorEq, Nat.reduceEqDiff, if_false, if_true])
            | (refine awp_exit ?_; try simp only [thenA, inBlockA, reduceIte, reduceCtorEq, Nat.reduceEqDiff, if_false, if_true])
            | (refine awp_ret ?_; try simp only [thenA, inBlockA, reduceIte, reduceCtorEq, Nat.reduceEqDiff, if_false, if_true])
            | (refine runL_split ?_ (fun hc => ?_) (fun hc => ?_); (simp only [go_sem, hm2, ho2, beq_self_eq_true, bne_self_eq_false]; exact rfl); all_goals (try simp only [go_sem, hc, hm2, ho2, beq_self_eq_true, bne_self_eq_false]); all_goals (try simp only [go_sem, hm2, ho2, beq_self_eq_true, bne_self_eq_false] at hc); all_goals (try (exfalso; omega)))
            | (refine runD_split ?_ (fun hc => ?_) (fun hc => ?_); (simp only [go_sem, hm2, ho2, beq_self_eq_true, bne_self_eq_false]; exact rfl); all_goals (try simp only [go_sem, hc, hm2, ho2, beq_self_eq_true, bne_self_eq_false]); all_goals (try simp only [go_sem, hm2, ho2, beq_self_eq_true, bne_self_eq_false] at hc); all_goals (try (exfalso; omega)))
            | (first | (refine CallK.pure (enter28) (mdCheck_tri g sz tb hl hr) ?_ ?_; (focus first | ((repeat (first | exact trivial | refine ⟨(by first | exact Or.inl rfl | exact Or.inr rfl), ?_⟩)); done) | (simp only [coL, AV.dat, true_or, or_true, AV.d.injEq, go_sem]; done)); simp only [go_sem, hm2, ho2, beq_self_eq_true, bne_self_eq_false]) | (refine CallD.pure (enter28) (mdCheck_tri g sz tb hl hr) ?_ ?_; (focus first | ((repeat (first | exact trivial | refine ⟨(by first | exact Or.inl rfl | exact Or.inr rfl), ?_⟩)); done) | (simp only [coL, AV.dat, true_or, or_true, AV.d.injEq, go_sem]; done)); simp only [go_sem, hm2, ho2, beq_self_eq_true, bne_self_eq_false]))
            | (first | (refine CallK.pure (enter68) (own_tri g t) ?_ ?_; (focus first | ((repeat (first | exact trivial | refine ⟨(by first | exact Or.inl rfl | exact Or.inr rfl), ?_⟩)); done) | (simp only [coL, AV.dat, true_or, or_true, AV.d.injEq, go_sem]; done)); simp only [go_sem, hm2, ho2, beq_self_eq_true, bne_self_eq_false]) | (refine CallD.pure (enter68) (own_tri g t) ?_ ?_; (focus first | ((repeat (first | exact trivial | refine ⟨(by first | exact Or.inl rfl | exact Or.inr rfl), ?_⟩)); done) | (simp only [coL, AV.dat, true_or, or_true, AV.d.injEq, go_sem]; done)); simp only [go_sem, hm2, ho2, beq_self_eq_true, bne_self_eq_false]))
            | (first | (refine CallK.pure (enter70) (hst) ?_ ?_; (focus first | ((repeat (first | exact trivial | refine ⟨(by first | exact Or.inl rfl | exact Or.inr rfl), ?_⟩)); done) | (simp only [coL, AV.dat, true_or, or_true, AV.d.injEq, go_sem]; done)); simp only [go_sem, hm2, ho2, beq_self_eq_true, bne_self_eq_false]) | (refine CallD.pure (enter70) (hst) ?_ ?_; (focus first | ((repeat (first | exact trivial | refine ⟨(by first | exact Or.inl rfl | exact Or.inr rfl), ?_⟩)); done) | (simp only [coL, AV.dat, true_or, or_true, AV.d.injEq, go_sem]; done)); simp only [go_sem, hm2, ho2, beq_self_eq_true, bne_self_eq_false]))
            | (first | (first | (refine CallK.look (enter69) (hc1) ?_ (hb1 _ (by simp only [go_sem])) (Fr.rfl' _ _) ?_; (focus first | ((repeat (first | exact trivial | refine ⟨(by first | exact Or.inl rfl | exact Or.inr rfl), ?_⟩)); done) | (simp only [coL, AV.dat, true_or, or_true, AV.d.injEq, go_sem]; done)); simp only [go_sem, hm2, ho2, beq_self_eq_true, bne_self_eq_false])) | (first | (refine CallD.look (enter69) (hc1) ?_ (hb1 _ (by simp only [go_sem])) (Fr.rfl' _ _) (by first | assumption | exact List.cons_ne_nil _ _) ?_; (focus first | ((repeat (first | exact trivial | refine ⟨(by first | exact Or.inl rfl | exact Or.inr rfl), ?_⟩)); done) | (simp only [coL, AV.dat, true_or, or_true, AV.d.injEq, go_sem]; done)); simp only [go_sem, hm2, ho2, beq_self_eq_true, bne_self_eq_false])))
            | (first | (first | (refine CallK.look (enter69) (hc2) ?_ (hb2 _ (by simp only [go_sem])) (Fr.rfl' _ _) ?_; (focus first | ((repeat (first | exact trivial | refine ⟨(by first | exact Or.inl rfl | exact Or.inr rfl), ?_⟩)); done) | (simp only [coL, AV.dat, true_or, or_true, AV.d.injEq, go_sem]; done)); simp only [go_sem, hm2, ho2, beq_self_eq_true, bne_self_eq_false])) | (first | (refine CallD.look (enter69) (hc2) ?_ (hb2 _ (by simp only [go_sem])) (Fr.rfl' _ _) (by first | assumption | exact List.cons_ne_nil _ _) ?_; (focus first | ((repeat (first | exact trivial | refine ⟨(by first | exact Or.inl rfl | exact Or.inr rfl), ?_⟩)); done) | (simp only [coL, AV.dat, true_or, or_true, AV.d.injEq, go_sem]; done)); simp only [go_sem, hm2, ho2, beq_self_eq_true, bne_self_eq_false])))
            | (first | (first | (refine CallK.look (enter73) (hval) ?_ (hb1 _ (by simp only [go_sem])) (Fr.rfl' _ _) ?_; (focus first | ((repeat (first | exact trivial | refine ⟨(by first | exact Or.inl rfl | exact Or.inr rfl), ?_⟩)); done) | (simp only [coL, AV.dat, true_or, or_true, AV.d.injEq, go_sem]; done)); simp only [go_sem, hm2, ho2, beq_self_eq_true, bne_self_eq_false])) | (first | (refine CallD.look (enter73) (hval) ?_ (hb1 _ (by simp only [go_sem])) (Fr.rfl' _ _) (by first | assumption | exact List.cons_ne_nil _ _) ?_; (focus first | ((repeat (first | exact trivial | refine ⟨(by first | exact Or.inl rfl | exact Or.inr rfl), ?_⟩)); done) | (simp only [coL, AV.dat, true_or, or_true, AV.d.injEq, go_sem]; done)); simp only [go_sem, hm2, ho2, beq_self_eq_true, bne_self_eq_false])))
            | refine And.intro (by first | omega | exact trivial | rfl | assumption | (apply map_sz; intro a; simp only [go_sem]; done) | ((and_intros <;> first | omega | exact trivial | rfl | assumption | (apply map_sz; intro a; simp only [go_sem]; done) | fail); done) | fail) ?_
            | fail)
          rw [ha]
          first | refine ret_pure (by simp only [Try.results18, resOkL, resOk, Try.ntmps18, List.toList_toArray]; first | decide | (simp only [go_sem]; done) | (simp only [go_sem]; and_intros <;> first | omega | rfl | decide)) ?_ (by repeat (first | exact Fr.rfl' _ _ | assumption | refine Fr.updk ?_ (by omega) _)) | refine ret_ro (by simp only [Try.results18, resOkL, resOk, Try.ntmps18, List.toList_toArray]; first | decide | (simp only [go_sem]; done) | (simp only [go_sem]; and_intros <;> first | omega | rfl | decide)) ?_ (by repeat (first | exact Fr.rfl' _ _ | assumption | refine Fr.updk ?_ (by omega) _))
          simp only [resA, resV, Try.results18, go_sem]
          all_goals try (first | exact Co.t2 (.dat rfl) (.dat rfl) | exact Co.t3 (.dat rfl) (.dat rfl) (.dat rfl))
end Go.Proofs.Ytmeekpinkfpnhaa

namespace Go.Proofs.Ytmeekpinkfpnhaa

/-- What a variable is, by a number's digits. -/
def dig (sz : Int) : List Int → Int → Int → Int
  | [], _, _ => 0
  | x :: l, n, v => if v = x then n.tmod sz else dig sz l (n.tdiv sz) v
def litIn (sz : Int) (tb : List (List Int)) (vs : Int → Int) (l : Lt) : Bool := (valM sz tb vs l.a == valM sz tb vs l.b) == l.y
/-- Does a clause hold for all variables, from a number on? -/
def holdsF (sz : Int) (tb : List (List Int)) (c : List Lt) (names : List Int) (N n : Nat) : Bool := ((List.range N).drop n).all fun i => c.any (litIn sz tb (dig sz names i))
def holdsC (sz : Int) (tb : List (List Int)) (c : List Lt) : Bool := holdsF sz tb c (firstVars (termsOf c)) (sz ^ (firstVars (termsOf c)).length).toNat 0
theorem holdsF_at {sz : Int} {tb : List (List Int)} {c : List Lt} {names : List Int} {N n : Nat} (hn : n < N) : holdsF sz tb c names N n = (c.any (litIn sz tb (dig sz names n)) && holdsF sz tb c names N (n + 1)) := by
  have h : n < (List.range N).length := by simpa using hn
  unfold holdsF
  rw [List.drop_eq_getElem_cons h, List.all_cons, List.getElem_range]
theorem holdsF_end {sz : Int} {tb : List (List Int)} {c : List Lt} {names : List Int} {N n : Nat} (hn : N ≤ n) : holdsF sz tb c names N n = true := by
  unfold holdsF
  rw [List.drop_eq_nil_of_le (by simpa using hn)]; rfl
theorem tmod_in {n sz : Int} (h0 : 0 ≤ n) (h1 : 1 ≤ sz) : 0 ≤ n.tmod sz ∧ n.tmod sz < sz := ⟨Int.tmod_nonneg _ h0, Int.tmod_lt_of_pos _ (by omega)⟩
theorem tdiv_in {n sz : Int} (h0 : 0 ≤ n) (h1 : 1 ≤ sz) : 0 ≤ n.tdiv sz ∧ n.tdiv sz ≤ n := ⟨Int.tdiv_nonneg h0 (by omega), by
  rw [Int.tdiv_eq_ediv_of_nonneg h0]
  exact Int.ediv_le_self _ h0⟩
theorem dig_in {sz : Int} (h1 : 1 ≤ sz) : ∀ (l : List Int) (n v : Int), 0 ≤ n → v ∈ l → 0 ≤ dig sz l n v ∧ dig sz l n v < sz
  | x :: l, n, v, h0, hv => by
    rw [dig]
    by_cases h : v = x
    · rw [if_pos h]; exact tmod_in h0 h1
    · rw [if_neg h]
      exact dig_in h1 l _ v (tdiv_in h0 h1).1 (by rcases List.mem_cons.1 hv with h2 | h2; exact absurd h2 h; exact h2)
/-- A clause that is right, of variables that are things. -/
theorem fine_lit {g : List Int} {sz : Int} {c : List Lt} {n : Int} (h1 : 1 ≤ sz) (hn : 0 ≤ n) (hc : ∀ l ∈ c, own g l.a = 0 ∧ own g l.b = 0) {l : Lt} (hl : l ∈ c) :
    (Fine g sz (dig sz (firstVars (termsOf c)) n) (parts l.a) ∧ ∀ x ∈ parts l.a, x.v > 0 → x.v ∈ firstVars (termsOf c)) ∧ (Fine g sz (dig sz (firstVars (termsOf c)) n) (parts l.b) ∧ ∀ x ∈ parts l.b, x.v > 0 → x.v ∈ firstVars (termsOf c)) := by
  have key : ∀ t, t ∈ termsOf c → own g t = 0 → Fine g sz (dig sz (firstVars (termsOf c)) n) (parts t) ∧ ∀ x ∈ parts t, x.v > 0 → x.v ∈ firstVars (termsOf c) := by
    intro t ht ho
    have hk : ∀ x ∈ parts t, x.v > 0 → x.v ∈ firstVars (termsOf c) := fun x hx hv => addVs_has (List.mem_flatMap.2 ⟨t, ht, hx⟩) hv
    exact ⟨fun x hx => ⟨own_each ho hx, fun hv => dig_in h1 _ _ _ hn (hk x hx hv)⟩, hk⟩
  exact ⟨key _ (List.mem_flatMap.2 ⟨l, hl, by simp⟩) (hc l hl).1, key _ (List.mem_flatMap.2 ⟨l, hl, by simp⟩) (hc l hl).2⟩
theorem own_vmax {g : List Int} {t : Tm} (ho : own g t = 0) {x : Tm} (hx : x ∈ parts t) (hv : x.v > 0) : x.v ≤ 1000 := by
  have h1 := own_each ho hx
  unfold formOne at h1
  rw [if_pos (by omega)] at h1
  split at h1
  · cases h1
  · omega
theorem termsOf_own {g : List Int} {c : List Lt} (hc : ∀ l ∈ c, own g l.a = 0 ∧ own g l.b = 0) : ∀ t ∈ termsOf c, own g t = 0 := by
  intro t ht
  obtain ⟨l, hl, h⟩ := List.mem_flatMap.1 ht
  simp at h
  rcases h with rfl | rfl
  · exact (hc l hl).1
  · exact (hc l hl).2
theorem names_in {g : List Int} {c : List Lt} (hc : ∀ l ∈ c, own g l.a = 0 ∧ own g l.b = 0) : ∀ v ∈ firstVars (termsOf c), 1 ≤ v ∧ v ≤ 1000 := by
  intro v hv
  rcases addVs_mem hv with h | ⟨x, hx, rfl, h2⟩
  · simp at h
  · obtain ⟨t, ht, hx⟩ := List.mem_flatMap.1 hx
    exact ⟨by omega, own_vmax (termsOf_own hc t ht) hx h2⟩
end Go.Proofs.Ytmeekpinkfpnhaa

namespace Go.Proofs.Ytmeekpinkfpnhaa
open Go.RowKit

attribute [go_sem] effLook okLook effPut okPut askM mapEs isMapO isNilM isI64
@[go_sem] theorem mapTii : mapT Try.prog 104 = some 3 := by kernel_rfl
@[go_sem] theorem zeroDi : zeroD Try.prog 3 = .d (.v (.int .i64 0)) := by kernel_rfl
theorem getM_put (k k' : Int) (x : DV) : ∀ es : List (Int × DV), getM k' (putM k x es) = if k' = k then some x else getM k' es
  | [] => by
    unfold putM
    simp only [getM]
  | p :: m => by
    unfold putM
    by_cases h : k = p.1
    · rw [if_pos h]
      simp only [getM]
      by_cases h2 : k' = k
      · rw [if_pos h2, if_pos h2]
      · rw [if_neg h2, if_neg h2, if_neg (by rw [← h]; exact h2)]
    · rw [if_neg h]
      simp only [getM]
      rw [getM_put k k' x m]
      by_cases h2 : k' = p.1
      · rw [if_pos h2, if_pos h2, if_neg (by rintro rfl; exact h h2)]
      · rw [if_neg h2, if_neg h2]
end Go.Proofs.Ytmeekpinkfpnhaa

namespace Go.Proofs.Ytmeekpinkfpnhaa
open Go.RowKit
set_option linter.unusedSimpArgs false
set_option linter.unusedSectionVars false

/-- A box with a map, and the map. -/
abbrev byO (b mm : Nm) (es : List (Int × DV)) : List (Nm × Ob) := [(b, .cells 104 [.map mm]), (mm, .map es)]
set_option maxRecDepth 20000 in
theorem holds1_tri (b mm : Nm) (es : List (Int × DV)) (v d : Int) (hd : getM v es = some (iD d)) : Tri Try.prog 77 [iA v, .ptr b 0] (rdE (byO b mm es) (iA d)) := by
  refine tri_enter_ro Try.func77 rfl Try.ntmps77 (by simp only [List.length_cons, List.length_nil]; omega) fun w0 h0 k hro => ?_
  have eb := (hro.get _ (List.mem_cons_self ..)).2
  have em := (hro.get _ (List.mem_cons_of_mem _ (List.mem_cons_self ..))).2
  repeat' (first
    | refine awp_seq_k fun K hK => ?_
    | (refine awp_region_k (by kernel_rfl) fun R hR => ?_; simp only [go_sem, eb, em, hd])
    | (refine awp_draw mixed (by kernel_rfl) (by kernel_rfl) fun R hR => ?_; simp only [go_sem, eb, em, hd])
    | (refine hR _ ?_; clear hR R; try simp only [thenA, inBlockA, reduceIte, reduceCtorEq, Nat.reduceEqDiff, if_false, if_true])
    | (refine hK _ ?_; clear hK K)
    | (clear hK K; refine hK _ ?_; clear hK K)
    | (clear hK K; clear hK K; refine hK _ ?_; clear hK K)
    | (clear hK K; clear hK K; clear hK K; refine hK _ ?_; clear hK K)
    | (clear hK K; clear hK K; clear hK K; clear hK K; refine hK _ ?_; clear hK K)
    | refine awp_true rfl rfl ?_
    | refine awp_false rfl rfl ?_
    | (refine awp_cond rfl rfl (fun hc => ?_) (fun hc => ?_) <;> (try simp only [go_sem, eb, em, hd] at hc) <;> (try (exfalso; omega)))
    | refine awp_block ?_
    | (refine awp_skip ?_; try simp only [thenA, inBlockA, reduceIte, reduceCtorEq, Nat.reduceEqDiff, if_false, if_true])
    | (refine awp_exit ?_; try simp only [thenA, inBlockA, reduceIte, reduceCtorEq, Nat.reduceEqDiff, if_false, if_true])
    | (refine awp_ret ?_; try simp only [thenA, inBlockA, reduceIte, reduceCtorEq, Nat.reduceEqDiff, if_false, if_true])
    | (refine runL_split ?_ (fun hc => ?_) (fun hc => ?_); (simp only [go_sem, eb, em, hd]; exact rfl); all_goals (try simp only [go_sem, hc, eb, em, hd]); all_goals (try simp only [go_sem, eb, em, hd] at hc); all_goals (try (exfalso; omega)))
    | (refine runD_split ?_ (fun hc => ?_) (fun hc => ?_); (simp only [go_sem, eb, em, hd]; exact rfl); all_goals (try simp only [go_sem, hc, eb, em, hd]); all_goals (try simp only [go_sem, eb, em, hd] at hc); all_goals (try (exfalso; omega)))
    | refine And.intro (by first | omega | exact trivial | rfl | assumption | (apply map_sz; intro a; simp only [go_sem]; done) | ((and_intros <;> first | omega | exact trivial | rfl | assumption | (apply map_sz; intro a; simp only [go_sem]; done) | fail); done) | fail) ?_
    | fail)
  first | refine ret_pure (by simp only [Try.results77, resOkL, resOk, Try.ntmps77, List.toList_toArray]; first | decide | (simp only [go_sem]; done) | (simp only [go_sem]; and_intros <;> first | omega | rfl | decide)) ?_ (by repeat (first | exact Fr.rfl' _ _ | assumption | refine Fr.updk ?_ (by omega) _)) | refine ret_ro (by simp only [Try.results77, resOkL, resOk, Try.ntmps77, List.toList_toArray]; first | decide | (simp only [go_sem]; done) | (simp only [go_sem]; and_intros <;> first | omega | rfl | decide)) ?_ (by repeat (first | exact Fr.rfl' _ _ | assumption | refine Fr.updk ?_ (by omega) _))
  simp only [resA, resV, Try.results77, go_sem]
  all_goals try (first | exact Co.t2 (.dat rfl) (.dat rfl) | exact Co.t3 (.dat rfl) (.dat rfl) (.dat rfl))
  exact .dat rfl
/-- What a literal's test looks at. -/
abbrev litO (m f b mm : Nm) (sz : Int) (tb : List (List Int)) (es : List (Int × DV)) : List (Nm × Ob) :=
  [(m, .cells 39 [iA sz, .d (.sl (tb.map gI))]), (f, .cells 102 [.fn (.func 77) [] [.ptr b 0]]), (b, .cells 104 [.map mm]), (mm, .map es)]
set_option maxRecDepth 20000 in
theorem holds2_tri {g : List Int} {sz : Int} {tb : List (List Int)} (hm : mdOk g sz tb = 0) (m f b mm : Nm) (es : List (Int × DV)) (vs : Int → Int) (l : Lt) (ha : Fine g sz vs (parts l.a)) (hb : Fine g sz vs (parts l.b)) (hea : ∀ x ∈ parts l.a, x.v > 0 → getM x.v es = some (iD (vs x.v))) (heb : ∀ x ∈ parts l.b, x.v > 0 → getM x.v es = some (iD (vs x.v))) :
    Tri Try.prog 79 [.d (ltDV l), .ptr m 0, .ptr f 0] (rdE (litO m f b mm sz tb es) (bA (litIn sz tb vs l))) := by
  refine tri_enter_ro Try.func79 rfl Try.ntmps79 (by simp only [List.length_cons, List.length_nil]; omega) fun w0 h0 k hro => ?_
  obtain ⟨n1, e1⟩ := hro.get _ (List.mem_cons_self ..)
  obtain ⟨n2, e2⟩ := hro.get _ (List.mem_cons_of_mem _ (List.mem_cons_self ..))
  obtain ⟨n3, e3⟩ := hro.get _ (List.mem_cons_of_mem _ (List.mem_cons_of_mem _ (List.mem_cons_self ..)))
  obtain ⟨n4, e4⟩ := hro.get _ (List.mem_cons_of_mem _ (List.mem_cons_of_mem _ (List.mem_cons_of_mem _ (List.mem_cons_self ..))))
  have hro2 : RoOK k (byO b mm es) h0 := ⟨fun x hx => by
    simp only [byO, List.mem_cons, List.not_mem_nil, or_false] at hx
    rcases hx with rfl | rfl
    · exact ⟨n3, e3⟩
    · exact ⟨n4, e4⟩⟩
  have q1 := nmne n1
  have q2 := nmne n2
  have va := value_tri hm 77 (enter77) [.ptr b 0] (byO b mm es) (List.cons_ne_nil _ _) l.a ha (fun x hx hv => holds1_tri b mm es x.v _ (hea x hx hv))
  have vb := value_tri hm 77 (enter77) [.ptr b 0] (byO b mm es) (List.cons_ne_nil _ _) l.b hb (fun x hx hv => holds1_tri b mm es x.v _ (heb x hx hv))
  unfold litIn
  clear hro
  repeat' (first
    | refine awp_seq_k fun K hK => ?_
    | (refine awp_region_k (by kernel_rfl) fun R hR => ?_; simp only [go_sem, e1, e2, q1, q2])
    | (refine awp_draw mixed (by kernel_rfl) (by kernel_rfl) fun R hR => ?_; simp only [go_sem, e1, e2, q1, q2])
    | (refine hR _ ?_; clear hR R; try simp only [thenA, inBlockA, reduceIte, reduceCtorEq, Nat.reduceEqDiff, if_false, if_true])
    | (refine hK _ ?_; clear hK K)
    | (clear hK K; refine hK _ ?_; clear hK K)
    | (clear hK K; clear hK K; refine hK _ ?_; clear hK K)
    | (clear hK K; clear hK K; clear hK K; refine hK _ ?_; clear hK K)
    | (clear hK K; clear hK K; clear hK K; clear hK K; refine hK _ ?_; clear hK K)
    | refine awp_true rfl rfl ?_
    | refine awp_false rfl rfl ?_
    | (refine awp_cond rfl rfl (fun hc => ?_) (fun hc => ?_) <;> (try simp only [go_sem, e1, e2, q1, q2] at hc) <;> (try (exfalso; omega)))
    | refine awp_block ?_
    | (refine awp_skip ?_; try simp only [thenA, inBlockA, reduceIte, reduceCtorEq, Nat.reduceEqDiff, if_false, if_true])
    | (refine awp_exit ?_; try simp only [thenA, inBlockA, reduceIte, reduceCtorEq, Nat.reduceEqDiff, if_false, if_true])
    | (refine awp_ret ?_; try simp only [thenA, inBlockA, reduceIte, reduceCtorEq, Nat.reduceEqDiff, if_false, if_true])
    | (refine runL_split ?_ (fun hc => ?_) (fun hc => ?_); (simp only [go_sem, e1, e2, q1, q2]; exact rfl); all_goals (try simp only [go_sem, hc, e1, e2, q1, q2]); all_goals (try simp only [go_sem, e1, e2, q1, q2] at hc); all_goals (try (exfalso; omega)))
    | (refine runD_split ?_ (fun hc => ?_) (fun hc => ?_); (simp only [go_sem, e1, e2, q1, q2]; exact rfl); all_goals (try simp only [go_sem, hc, e1, e2, q1, q2]); all_goals (try simp only [go_sem, e1, e2, q1, q2] at hc); all_goals (try (exfalso; omega)))
    | (first | (first | (refine CallK.look (enter73) (va) ?_ (by assumption) (by repeat (first | exact Fr.rfl' _ _ | assumption | refine Fr.updk ?_ (by omega) _)) ?_; (focus first | ((repeat (first | exact trivial | refine ⟨(by first | exact Or.inl rfl | exact Or.inr rfl), ?_⟩)); done) | (simp only [coL, AV.dat, true_or, or_true, AV.d.injEq, go_sem]; done)); simp only [go_sem, e1, e2, q1, q2])) | (first | (refine CallD.look (enter73) (va) ?_ (by assumption) (by repeat (first | exact Fr.rfl' _ _ | assumption | refine Fr.updk ?_ (by omega) _)) (by first | assumption | exact List.cons_ne_nil _ _) ?_; (focus first | ((repeat (first | exact trivial | refine ⟨(by first | exact Or.inl rfl | exact Or.inr rfl), ?_⟩)); done) | (simp only [coL, AV.dat, true_or, or_true, AV.d.injEq, go_sem]; done)); simp only [go_sem, e1, e2, q1, q2])))
    | (first | (first | (refine CallK.look (enter73) (vb) ?_ (by assumption) (by repeat (first | exact Fr.rfl' _ _ | assumption | refine Fr.updk ?_ (by omega) _)) ?_; (focus first | ((repeat (first | exact trivial | refine ⟨(by first | exact Or.inl rfl | exact Or.inr rfl), ?_⟩)); done) | (simp only [coL, AV.dat, true_or, or_true, AV.d.injEq, go_sem]; done)); simp only [go_sem, e1, e2, q1, q2])) | (first | (refine CallD.look (enter73) (vb) ?_ (by assumption) (by repeat (first | exact Fr.rfl' _ _ | assumption | refine Fr.updk ?_ (by omega) _)) (by first | assumption | exact List.cons_ne_nil _ _) ?_; (focus first | ((repeat (first | exact trivial | refine ⟨(by first | exact Or.inl rfl | exact Or.inr rfl), ?_⟩)); done) | (simp only [coL, AV.dat, true_or, or_true, AV.d.injEq, go_sem]; done)); simp only [go_sem, e1, e2, q1, q2])))
    | refine And.intro (by first | omega | exact trivial | rfl | assumption | (apply map_sz; intro a; simp only [go_sem]; done) | ((and_intros <;> first | omega | exact trivial | rfl | assumption | (apply map_sz; intro a; simp only [go_sem]; done) | fail); done) | fail) ?_
    | fail)
  first | refine ret_pure (by simp only [Try.results79, resOkL, resOk, Try.ntmps79, List.toList_toArray]; first | decide | (simp only [go_sem]; done) | (simp only [go_sem]; and_intros <;> first | omega | rfl | decide)) ?_ (by repeat (first | exact Fr.rfl' _ _ | assumption | refine Fr.updk ?_ (by omega) _)) | refine ret_ro (by simp only [Try.results79, resOkL, resOk, Try.ntmps79, List.toList_toArray]; first | decide | (simp only [go_sem]; done) | (simp only [go_sem]; and_intros <;> first | omega | rfl | decide)) ?_ (by repeat (first | exact Fr.rfl' _ _ | assumption | refine Fr.updk ?_ (by omega) _))
  simp only [resA, resV, Try.results79, go_sem]
  all_goals try (first | exact Co.t2 (.dat rfl) (.dat rfl) | exact Co.t3 (.dat rfl) (.dat rfl) (.dat rfl))
  exact .dat rfl
end Go.Proofs.Ytmeekpinkfpnhaa
