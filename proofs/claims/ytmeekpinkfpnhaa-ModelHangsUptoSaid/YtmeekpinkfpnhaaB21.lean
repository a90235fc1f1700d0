/- Values of terms in models: superposeref.ValueOf, of a list, and of an array that changes. model.Value. model.Holds: its closures. model.Holds. Models checked: superposeref.CheckModel. -/
import Derived.Test.YtmeekpinkfpnhaaB07
import Derived.Test.YtmeekpinkfpnhaaB17
import Derived.Test.YtmeekpinkfpnhaaB18
import Derived.Test.YtmeekpinkfpnhaaB20
set_option linter.unusedSimpArgs false
set_option linter.unusedSectionVars false
set_option linter.unusedVariables false
set_option linter.unnecessarySimpa false
set_option linter.all false
namespace Go.Proofs.Ytmeekpinkfpnhaa
open Go.RowKit
def byL (vars : List Int) (v : Int) : Int := vars.getD (v - 1).toNat 0
abbrev arO (n : Nm) (vars : List Int) : List (Nm × Ob) := [(n, .cells 3 (vars.map iA))]
theorem nth_mapA {α : Type} (g : α → AV) {l : List α} {k : Nat} (hk : k < l.length) (d : AV) : (l.map g).getD k d = g l[k] := by
  rw [List.getD_eq_getElem?_getD, List.getElem?_map, List.getElem?_eq_getElem hk]; rfl
theorem arOk {k : Nat} {n : Nm} {vars : List Int} {h : Heap} (hr : RoOK k (arO n vars) h) : h n = some (.cells 3 (vars.map iA)) := (hr.get _ (List.mem_cons_self ..)).2
theorem arNe {k : Nat} {n : Nm} {vars : List Int} {h : Heap} (hr : RoOK k (arO n vars) h) : (∀ j, (n = (k, j)) = False) ∧ (∀ j, (n = (k + 1, j)) = False) ∧ (∀ j, (n = (k + 1 + 1, j)) = False) := by
  obtain ⟨h1, h2, h3, _⟩ := nmne (hr.get _ (List.mem_cons_self ..)).1
  exact ⟨h1, h2, h3⟩
section
variable {g : List Int} {sz : Int} {tb : List (List Int)} {vars : List Int} (hm : mdOk g sz tb = 0)
include hm
def ValOf_lists (n : Nm) (g : List Int) (sz : Int) (tb : List (List Int)) (vars : List Int) (t : Tm) : Prop :=
  Fine g sz (byL vars) (parts t) → (∀ x ∈ parts t, x.v > 0 → x.v ≤ vars.length) → Tri Try.prog 23 [.d (mdDV sz tb), .d (tmDV t), .d (.sl (vars.map iD))] (pure' (iA (valM sz tb (byL vars) t)))
set_option maxHeartbeats 1000000 in
set_option maxRecDepth 20000 in
theorem valueOf_lists_step (n : Nm) (hvl : vars.length ≤ 4000000) (t : Tm) (ih : ∀ u ∈ t.us, ValOf_lists n g sz tb vars u) : ValOf_lists n g sz tb vars t := by
  intro hf his
  have hsz := mdOk_all hm
  refine tri_enter Try.func23 rfl Try.ntmps23 (by simp only [List.length_cons, List.length_nil]; omega) fun w0 h0 k hrd hwr => ?_
  cases hv : decide (t.v > 0) with
  | true =>
    have hv' : t.v > 0 := by simpa using hv
    have h1 := his t (by rw [parts_eq]; simp) hv'
    have hx : (t.v - 1).toNat < vars.length := by omega
    have e : valM sz tb (byL vars) t = vars[(t.v - 1).toNat] := by rw [valM_eq, if_pos hv', byL, getD_at hx]
    have e1 : (vars.map iD).getD (t.v - 1).toNat default = iD vars[(t.v - 1).toNat] := nth_map iD hx _
    have e2 : (vars.map iA).getD (t.v - 1).toNat .junk = iA vars[(t.v - 1).toNat] := nth_mapA iA hx _
    have hz1 : t.v - 1 < (vars.length : Int) := by omega
    rw [e]
    repeat' (first | refine awp_seq_k fun K hK => ?_ | ((first | refine awp_region_k (by kernel_rfl) fun R hR => ?_ | refine awp_draw mixed (by kernel_rfl) (by kernel_rfl) fun R hR => ?_); simp only [go_sem, hv, e1, e2, hz1, List.length_map, Nat.mul_one, List.length_map]) | ((first | (refine hR _ ?_; clear hR R) | refine awp_skip ?_ | refine awp_exit ?_ | refine awp_ret ?_); try simp only [thenA, inBlockA, reduceIte, reduceCtorEq, Nat.reduceEqDiff, if_false, if_true]) | ((first | refine hK _ ?_ | (clear hK K; first | refine hK _ ?_ | (clear hK K; first | refine hK _ ?_ | (clear hK K; first | refine hK _ ?_ | (clear hK K; refine hK _ ?_))))); clear hK K) | refine awp_true rfl rfl ?_ | refine awp_false rfl rfl ?_ | refine awp_block ?_ | refine And.intro (by first | ((repeat' first | omega | exact trivial | rfl | assumption | (intro a e; subst e; rfl) | exact map_sz fun a => (by simp only [go_sem]) | refine And.intro ?_ ?_); done) | fail) ?_ | fail)
    (first | refine ret_pure ?_ ?_ ?_ | refine ret_ro ?_ ?_ ?_); focus exact (by simp only [Try.results23, resOkL, resOk, Try.ntmps23, List.toList_toArray]; first | decide | (simp only [go_sem]; done) | (simp only [go_sem]; and_intros <;> first | omega | rfl | decide))
    rotate_left; focus exact (by repeat (first | exact Fr.rfl' _ _ | assumption | refine Fr.updk ?_ (by omega) _))
    simp only [resA, resV, Try.results23, go_sem]
    all_goals try (first | exact Co.t2 (.dat rfl) (.dat rfl) | exact Co.t3 (.dat rfl) (.dat rfl) (.dat rfl))
    exact .dat rfl
  | false =>
    have hv' : ¬ t.v > 0 := by simpa using hv
    obtain ⟨a1, a2, a3, a4, a5⟩ := md_at hm hf hv'
    obtain ⟨a6, a7⟩ := a3 a1
    repeat' (first | refine awp_seq_k fun K hK => ?_ | ((first | refine awp_region_k (by kernel_rfl) fun R hR => ?_ | refine awp_draw mixed (by kernel_rfl) (by kernel_rfl) fun R hR => ?_); simp only [go_sem, hv]) | ((first | (refine hR _ ?_; clear hR R) | refine awp_skip ?_ | refine awp_exit ?_ | refine awp_ret ?_); try simp only [thenA, inBlockA, reduceIte, reduceCtorEq, Nat.reduceEqDiff, if_false, if_true]) | ((first | refine hK _ ?_ | (clear hK K; first | refine hK _ ?_ | (clear hK K; first | refine hK _ ?_ | (clear hK K; first | refine hK _ ?_ | (clear hK K; refine hK _ ?_))))); clear hK K) | refine awp_true rfl rfl ?_ | refine awp_false rfl rfl ?_ | refine awp_block ?_ | refine And.intro (by first | ((repeat' first | omega | exact trivial | rfl | assumption | (intro a e; subst e; rfl) | exact map_sz fun a => (by simp only [go_sem]) | refine And.intro ?_ ?_); done) | fail) ?_ | fail)
    refine awp_loop (fun σ => ∃ i : Nat, σ.t 2 = .d (.sl (vars.map iD)) ∧ σ.t 3 = .ptr (k, 0) 0 ∧ σ.t 4 = .ptr (k, 1) 0 ∧ σ.t 7 = iA (valL sz tb (byL vars) (t.us.take i) 0) ∧ σ.t 8 = iA i ∧ σ.h (k, 0) = some (.cells 39 [iA sz, .d (.sl (tb.map gI))]) ∧ σ.h (k, 1) = some (.cells 27 [iA t.v, iA t.f, .d (.sl (t.us.map tmDV))]) ∧ Fr k h0 σ.h ∧ k < σ.k ∧ i ≤ t.us.length) (fun σ => t.us.length - (intOf' (σ.t 8)).toNat) ?_ ?_
    · refine ⟨0, ?_⟩
      simp only [go_sem, List.take_zero]
      and_intros; all_goals try (first | rfl | omega | assumption | ((repeat (first | exact Fr.rfl' _ _ | assumption | refine Fr.updk ?_ (by omega) _)); done))
    · rintro σ ⟨i, s2, s3, s4, s7, s8, sh, sh', hF, hk, hi⟩
      have hne := ltne hk
      have hb := valL_ok hm (t.us.take i) 0 0 (hf.take i) (by omega) (by simp)
      simp only [Nat.zero_add, List.length_take] at hb
      have hp := pw_le hsz.2.1 hsz.2.2.1 (i := min i t.us.length) (by omega)
      rcases Nat.lt_or_ge i t.us.length with hlt | hge
      · have hz : (i : Int) < (t.us.length : Int) := by omega
        have e1 : (t.us.map tmDV).getD i default = tmDV t.us[i] := nth_map tmDV hlt _
        have hu := List.getElem_mem hlt
        have h1 := ih _ hu (fun x hx => hf x (parts_sub hu x hx)) (fun x hx => his x (parts_sub hu x hx))
        have hb' := valM_ok hm t.us[i] (fun x hx => hf x (parts_sub hu x hx))
        have e2 : valL sz tb (byL vars) (t.us.take (i + 1)) 0 = sz * valL sz tb (byL vars) (t.us.take i) 0 + valM sz tb (byL vars) t.us[i] := by rw [valL_take hlt 0, Int.mul_comm]
        generalize valL sz tb (byL vars) (t.us.take i) 0 = a at *
        have hbd : 0 ≤ sz * a ∧ sz * a ≤ 20000 := by
          have : sz = 1 ∨ sz = 2 ∨ sz = 3 := by omega
          rcases this with h | h | h <;> rw [h] at hb hp ⊢ <;> omega
        repeat' (first | refine awp_seq_k fun K hK => ?_ | ((first | refine awp_region_k (by kernel_rfl) fun R hR => ?_ | refine awp_draw mixed (by kernel_rfl) (by kernel_rfl) fun R hR => ?_); simp only [go_sem, s2, s3, s4, s7, s8, sh, sh', hz, e1, hne, ← e2, Nat.reduceBEq, ite_self, implies_true, Int.toNat_natCast]) | ((first | (refine hR _ ?_; clear hR R) | refine awp_skip ?_ | refine awp_exit ?_ | refine awp_ret ?_); try simp only [thenA, inBlockA, reduceIte, reduceCtorEq, Nat.reduceEqDiff, if_false, if_true]) | ((first | refine hK _ ?_ | (clear hK K; first | refine hK _ ?_ | (clear hK K; first | refine hK _ ?_ | (clear hK K; first | refine hK _ ?_ | (clear hK K; refine hK _ ?_))))); clear hK K) | refine awp_true rfl rfl ?_ | refine awp_false rfl rfl ?_ | refine awp_block ?_ | ((first | refine CallK.pure (enter23) (h1) ?_ ?_ | refine CallD.pure (enter23) (h1) ?_ ?_); (focus first | ((repeat (first | exact trivial | refine ⟨(by first | exact Or.inl rfl | exact Or.inr rfl), ?_⟩)); done) | (simp only [coL, AV.dat, true_or, or_true, AV.d.injEq, go_sem]; done)); simp only [go_sem, s2, s3, s4, s7, s8, sh, sh', hz, e1, hne, ← e2, Nat.reduceBEq, ite_self, implies_true, Int.toNat_natCast]) | refine And.intro (by first | ((repeat' first | omega | exact trivial | rfl | assumption | (intro a e; subst e; rfl) | exact map_sz fun a => (by simp only [go_sem]) | refine And.intro ?_ ?_); done) | fail) ?_ | fail)
        refine ⟨⟨i + 1, ?_⟩, ?_⟩
        rotate_left
        · simp only [go_sem, s2, s3, s4, s7, s8, sh, sh', hne]; omega
        simp only [go_sem, s2, s3, s4, s7, s8, sh, sh', hne]
        and_intros; all_goals try (first | rfl | omega | assumption | ((repeat (first | exact Fr.rfl' _ _ | assumption | refine Fr.updk ?_ (by omega) _)); done))
      · have hz : ¬ ((i : Int) < (t.us.length : Int)) := by omega
        obtain rfl : i = t.us.length := by omega
        rw [List.take_length] at s7
        have e1 : (tb.map gI).getD t.f.toNat default = gI tb[t.f.toNat] := nth_map gI a1 _
        have e2 : (tb[t.f.toNat].map iD).getD (valL sz tb (byL vars) t.us 0).toNat default = iD tb[t.f.toNat][(valL sz tb (byL vars) t.us 0).toNat] := nth_map iD a6 _
        have hz1 : t.f < (tb.length : Int) := by omega
        have hz2 : valL sz tb (byL vars) t.us 0 < (tb[t.f.toNat].length : Int) := by omega
        repeat' (first | refine awp_seq_k fun K hK => ?_ | ((first | refine awp_region_k (by kernel_rfl) fun R hR => ?_ | refine awp_draw mixed (by kernel_rfl) (by kernel_rfl) fun R hR => ?_); simp only [go_sem, s3, s4, s7, s8, sh, sh', hz, hz1, hz2, e1, e2, hne]) | ((first | (refine hR _ ?_; clear hR R) | refine awp_skip ?_ | refine awp_exit ?_ | refine awp_ret ?_); try simp only [thenA, inBlockA, reduceIte, reduceCtorEq, Nat.reduceEqDiff, if_false, if_true]) | ((first | refine hK _ ?_ | (clear hK K; first | refine hK _ ?_ | (clear hK K; first | refine hK _ ?_ | (clear hK K; first | refine hK _ ?_ | (clear hK K; refine hK _ ?_))))); clear hK K) | refine awp_true rfl rfl ?_ | refine awp_false rfl rfl ?_ | refine awp_block ?_ | refine And.intro (by first | ((repeat' first | omega | exact trivial | rfl | assumption | (intro a e; subst e; rfl) | exact map_sz fun a => (by simp only [go_sem]) | refine And.intro ?_ ?_); done) | fail) ?_ | fail)
        (first | refine ret_pure ?_ ?_ ?_ | refine ret_ro ?_ ?_ ?_); focus exact (by simp only [Try.results23, resOkL, resOk, Try.ntmps23, List.toList_toArray]; first | decide | (simp only [go_sem]; done) | (simp only [go_sem]; and_intros <;> first | omega | rfl | decide))
        rotate_left; focus exact (by repeat (first | exact Fr.rfl' _ _ | assumption | refine Fr.updk ?_ (by omega) _))
        simp only [resA, resV, Try.results23, go_sem]
        all_goals try (first | exact Co.t2 (.dat rfl) (.dat rfl) | exact Co.t3 (.dat rfl) (.dat rfl) (.dat rfl))
        exact co_i a7.symm
theorem valueOf_lists (n : Nm) (hvl : vars.length ≤ 4000000) : ∀ t : Tm, ValOf_lists n g sz tb vars t := Tm.ind (valueOf_lists_step hm n hvl)
def ValOf_arrs (n : Nm) (g : List Int) (sz : Int) (tb : List (List Int)) (vars : List Int) (t : Tm) : Prop :=
  Fine g sz (byL vars) (parts t) → (∀ x ∈ parts t, x.v > 0 → x.v ≤ vars.length) → Tri Try.prog 23 [.d (mdDV sz tb), .d (tmDV t), .arr n 0 vars.length] (rdE (arO n vars) (iA (valM sz tb (byL vars) t)))
set_option maxHeartbeats 1000000 in
set_option maxRecDepth 20000 in
theorem valueOf_arrs_step (n : Nm) (hvl : vars.length ≤ 4000000) (t : Tm) (ih : ∀ u ∈ t.us, ValOf_arrs n g sz tb vars u) : ValOf_arrs n g sz tb vars t := by
  intro hf his
  have hsz := mdOk_all hm
  refine tri_enter_ro Try.func23 rfl Try.ntmps23 (by simp only [List.length_cons, List.length_nil]; omega) fun w0 h0 k hro => ?_
  cases hv : decide (t.v > 0) with
  | true =>
    have hv' : t.v > 0 := by simpa using hv
    have h1 := his t (by rw [parts_eq]; simp) hv'
    have hx : (t.v - 1).toNat < vars.length := by omega
    have e : valM sz tb (byL vars) t = vars[(t.v - 1).toNat] := by rw [valM_eq, if_pos hv', byL, getD_at hx]
    have e1 : (vars.map iD).getD (t.v - 1).toNat default = iD vars[(t.v - 1).toNat] := nth_map iD hx _
    have e2 : (vars.map iA).getD (t.v - 1).toNat .junk = iA vars[(t.v - 1).toNat] := nth_mapA iA hx _
    have hz1 : t.v - 1 < (vars.length : Int) := by omega
    rw [e]
    repeat' (first | refine awp_seq_k fun K hK => ?_ | ((first | refine awp_region_k (by kernel_rfl) fun R hR => ?_ | refine awp_draw mixed (by kernel_rfl) (by kernel_rfl) fun R hR => ?_); simp only [go_sem, hv, e1, e2, hz1, arOk hro, arNe hro, Nat.mul_one, List.length_map]) | ((first | (refine hR _ ?_; clear hR R) | refine awp_skip ?_ | refine awp_exit ?_ | refine awp_ret ?_); try simp only [thenA, inBlockA, reduceIte, reduceCtorEq, Nat.reduceEqDiff, if_false, if_true]) | ((first | refine hK _ ?_ | (clear hK K; first | refine hK _ ?_ | (clear hK K; first | refine hK _ ?_ | (clear hK K; first | refine hK _ ?_ | (clear hK K; refine hK _ ?_))))); clear hK K) | refine awp_true rfl rfl ?_ | refine awp_false rfl rfl ?_ | refine awp_block ?_ | refine And.intro (by first | ((repeat' first | omega | exact trivial | rfl | assumption | (intro a e; subst e; rfl) | exact map_sz fun a => (by simp only [go_sem]) | refine And.intro ?_ ?_); done) | fail) ?_ | fail)
    (first | refine ret_pure ?_ ?_ ?_ | refine ret_ro ?_ ?_ ?_); focus exact (by simp only [Try.results23, resOkL, resOk, Try.ntmps23, List.toList_toArray]; first | decide | (simp only [go_sem]; done) | (simp only [go_sem]; and_intros <;> first | omega | rfl | decide))
    rotate_left; focus exact (by repeat (first | exact Fr.rfl' _ _ | assumption | refine Fr.updk ?_ (by omega) _))
    simp only [resA, resV, Try.results23, go_sem]
    all_goals try (first | exact Co.t2 (.dat rfl) (.dat rfl) | exact Co.t3 (.dat rfl) (.dat rfl) (.dat rfl))
    exact .dat rfl
  | false =>
    have hv' : ¬ t.v > 0 := by simpa using hv
    obtain ⟨a1, a2, a3, a4, a5⟩ := md_at hm hf hv'
    obtain ⟨a6, a7⟩ := a3 a1
    repeat' (first | refine awp_seq_k fun K hK => ?_ | ((first | refine awp_region_k (by kernel_rfl) fun R hR => ?_ | refine awp_draw mixed (by kernel_rfl) (by kernel_rfl) fun R hR => ?_); simp only [go_sem, hv]) | ((first | (refine hR _ ?_; clear hR R) | refine awp_skip ?_ | refine awp_exit ?_ | refine awp_ret ?_); try simp only [thenA, inBlockA, reduceIte, reduceCtorEq, Nat.reduceEqDiff, if_false, if_true]) | ((first | refine hK _ ?_ | (clear hK K; first | refine hK _ ?_ | (clear hK K; first | refine hK _ ?_ | (clear hK K; first | refine hK _ ?_ | (clear hK K; refine hK _ ?_))))); clear hK K) | refine awp_true rfl rfl ?_ | refine awp_false rfl rfl ?_ | refine awp_block ?_ | refine And.intro (by first | ((repeat' first | omega | exact trivial | rfl | assumption | (intro a e; subst e; rfl) | exact map_sz fun a => (by simp only [go_sem]) | refine And.intro ?_ ?_); done) | fail) ?_ | fail)
    refine awp_loop (fun σ => ∃ i : Nat, σ.t 2 = .arr n 0 vars.length ∧ σ.t 3 = .ptr (k, 0) 0 ∧ σ.t 4 = .ptr (k, 1) 0 ∧ σ.t 7 = iA (valL sz tb (byL vars) (t.us.take i) 0) ∧ σ.t 8 = iA i ∧ σ.h (k, 0) = some (.cells 39 [iA sz, .d (.sl (tb.map gI))]) ∧ σ.h (k, 1) = some (.cells 27 [iA t.v, iA t.f, .d (.sl (t.us.map tmDV))]) ∧ Fr k h0 σ.h ∧ k < σ.k ∧ i ≤ t.us.length) (fun σ => t.us.length - (intOf' (σ.t 8)).toNat) ?_ ?_
    · refine ⟨0, ?_⟩
      simp only [go_sem, List.take_zero]
      and_intros; all_goals try (first | rfl | omega | assumption | ((repeat (first | exact Fr.rfl' _ _ | assumption | refine Fr.updk ?_ (by omega) _)); done))
    · rintro σ ⟨i, s2, s3, s4, s7, s8, sh, sh', hF, hk, hi⟩
      have hne := ltne hk
      have hb := valL_ok hm (t.us.take i) 0 0 (hf.take i) (by omega) (by simp)
      simp only [Nat.zero_add, List.length_take] at hb
      have hp := pw_le hsz.2.1 hsz.2.2.1 (i := min i t.us.length) (by omega)
      rcases Nat.lt_or_ge i t.us.length with hlt | hge
      · have hz : (i : Int) < (t.us.length : Int) := by omega
        have e1 : (t.us.map tmDV).getD i default = tmDV t.us[i] := nth_map tmDV hlt _
        have hu := List.getElem_mem hlt
        have h1 := ih _ hu (fun x hx => hf x (parts_sub hu x hx)) (fun x hx => his x (parts_sub hu x hx))
        have hb' := valM_ok hm t.us[i] (fun x hx => hf x (parts_sub hu x hx))
        have e2 : valL sz tb (byL vars) (t.us.take (i + 1)) 0 = sz * valL sz tb (byL vars) (t.us.take i) 0 + valM sz tb (byL vars) t.us[i] := by rw [valL_take hlt 0, Int.mul_comm]
        generalize valL sz tb (byL vars) (t.us.take i) 0 = a at *
        have hbd : 0 ≤ sz * a ∧ sz * a ≤ 20000 := by
          have : sz = 1 ∨ sz = 2 ∨ sz = 3 := by omega
          rcases this with h | h | h <;> rw [h] at hb hp ⊢ <;> omega
        repeat' (first | refine awp_seq_k fun K hK => ?_ | ((first | refine awp_region_k (by kernel_rfl) fun R hR => ?_ | refine awp_draw mixed (by kernel_rfl) (by kernel_rfl) fun R hR => ?_); simp only [go_sem, s2, s3, s4, s7, s8, sh, sh', hz, e1, hne, ← e2, Nat.reduceBEq, ite_self, implies_true, Int.toNat_natCast]) | ((first | (refine hR _ ?_; clear hR R) | refine awp_skip ?_ | refine awp_exit ?_ | refine awp_ret ?_); try simp only [thenA, inBlockA, reduceIte, reduceCtorEq, Nat.reduceEqDiff, if_false, if_true]) | ((first | refine hK _ ?_ | (clear hK K; first | refine hK _ ?_ | (clear hK K; first | refine hK _ ?_ | (clear hK K; first | refine hK _ ?_ | (clear hK K; refine hK _ ?_))))); clear hK K) | refine awp_true rfl rfl ?_ | refine awp_false rfl rfl ?_ | refine awp_block ?_ | ((first | refine CallK.look (enter23) (h1) ?_ (by assumption) (by repeat (first | exact Fr.rfl' _ _ | assumption | refine Fr.updk ?_ (by omega) _)) ?_ | refine CallD.look (enter23) (h1) ?_ (by assumption) (by repeat (first | exact Fr.rfl' _ _ | assumption | refine Fr.updk ?_ (by omega) _)) (by first | assumption | exact List.cons_ne_nil _ _) ?_); (focus first | ((repeat (first | exact trivial | refine ⟨(by first | exact Or.inl rfl | exact Or.inr rfl), ?_⟩)); done) | (simp only [coL, AV.dat, true_or, or_true, AV.d.injEq, go_sem]; done)); simp only [go_sem, s2, s3, s4, s7, s8, sh, sh', hz, e1, hne, ← e2, Nat.reduceBEq, ite_self, implies_true, Int.toNat_natCast]) | refine And.intro (by first | ((repeat' first | omega | exact trivial | rfl | assumption | (intro a e; subst e; rfl) | exact map_sz fun a => (by simp only [go_sem]) | refine And.intro ?_ ?_); done) | fail) ?_ | fail)
        refine ⟨⟨i + 1, ?_⟩, ?_⟩
        rotate_left
        · simp only [go_sem, s2, s3, s4, s7, s8, sh, sh', hne]; omega
        simp only [go_sem, s2, s3, s4, s7, s8, sh, sh', hne]
        and_intros; all_goals try (first | rfl | omega | assumption | ((repeat (first | exact Fr.rfl' _ _ | assumption | refine Fr.updk ?_ (by omega) _)); done))
      · have hz : ¬ ((i : Int) < (t.us.length : Int)) := by omega
        obtain rfl : i = t.us.length := by omega
        rw [List.take_length] at s7
        have e1 : (tb.map gI).getD t.f.toNat default = gI tb[t.f.toNat] := nth_map gI a1 _
        have e2 : (tb[t.f.toNat].map iD).getD (valL sz tb (byL vars) t.us 0).toNat default = iD tb[t.f.toNat][(valL sz tb (byL vars) t.us 0).toNat] := nth_map iD a6 _
        have hz1 : t.f < (tb.length : Int) := by omega
        have hz2 : valL sz tb (byL vars) t.us 0 < (tb[t.f.toNat].length : Int) := by omega
        repeat' (first | refine awp_seq_k fun K hK => ?_ | ((first | refine awp_region_k (by kernel_rfl) fun R hR => ?_ | refine awp_draw mixed (by kernel_rfl) (by kernel_rfl) fun R hR => ?_); simp only [go_sem, s3, s4, s7, s8, sh, sh', hz, hz1, hz2, e1, e2, hne]) | ((first | (refine hR _ ?_; clear hR R) | refine awp_skip ?_ | refine awp_exit ?_ | refine awp_ret ?_); try simp only [thenA, inBlockA, reduceIte, reduceCtorEq, Nat.reduceEqDiff, if_false, if_true]) | ((first | refine hK _ ?_ | (clear hK K; first | refine hK _ ?_ | (clear hK K; first | refine hK _ ?_ | (clear hK K; first | refine hK _ ?_ | (clear hK K; refine hK _ ?_))))); clear hK K) | refine awp_true rfl rfl ?_ | refine awp_false rfl rfl ?_ | refine awp_block ?_ | refine And.intro (by first | ((repeat' first | omega | exact trivial | rfl | assumption | (intro a e; subst e; rfl) | exact map_sz fun a => (by simp only [go_sem]) | refine And.intro ?_ ?_); done) | fail) ?_ | fail)
        (first | refine ret_pure ?_ ?_ ?_ | refine ret_ro ?_ ?_ ?_); focus exact (by simp only [Try.results23, resOkL, resOk, Try.ntmps23, List.toList_toArray]; first | decide | (simp only [go_sem]; done) | (simp only [go_sem]; and_intros <;> first | omega | rfl | decide))
        rotate_left; focus exact (by repeat (first | exact Fr.rfl' _ _ | assumption | refine Fr.updk ?_ (by omega) _))
        simp only [resA, resV, Try.results23, go_sem]
        all_goals try (first | exact Co.t2 (.dat rfl) (.dat rfl) | exact Co.t3 (.dat rfl) (.dat rfl) (.dat rfl))
        exact co_i a7.symm
theorem valueOf_arrs (n : Nm) (hvl : vars.length ≤ 4000000) : ∀ t : Tm, ValOf_arrs n g sz tb vars t := Tm.ind (valueOf_arrs_step hm n hvl)
end
end Go.Proofs.Ytmeekpinkfpnhaa
namespace Go.Proofs.Ytmeekpinkfpnhaa
open Go.RowKit
abbrev vbO (b : Nm) (vars : List Int) : List (Nm × Ob) := [(b, .cells 22 [.d (.sl (vars.map iD))])]
theorem roVb {b : Nm} {vars : List Int} {k : Nat} {h : Heap} (hb : b.1 < k) (h1 : h b = some (.cells 22 [.d (.sl (vars.map iD))])) : RoOK k (vbO b vars) h := ⟨fun x hx => by
  simp only [vbO, List.mem_cons, List.not_mem_nil, or_false] at hx; subst hx; exact ⟨hb, h1⟩⟩
set_option maxRecDepth 20000 in
theorem value1_tri (b : Nm) (vars : List Int) (v : Int) : Tri Try.prog 71 [iA v, .ptr b 0] (rdE (vbO b vars) (bA (decide (v > vars.length)))) := by
  refine tri_enter_ro Try.func71 rfl Try.ntmps71 (by simp only [List.length_cons, List.length_nil]; omega) fun w0 h0 k hro => ?_
  have eb := (hro.get _ (List.mem_cons_self ..)).2
  repeat' (first | refine awp_seq_k fun K hK => ?_ | ((first | refine awp_region_k (by kernel_rfl) fun R hR => ?_ | refine awp_draw mixed (by kernel_rfl) (by kernel_rfl) fun R hR => ?_); simp only [go_sem, eb]) | ((first | (refine hR _ ?_; clear hR R) | refine awp_skip ?_ | refine awp_exit ?_ | refine awp_ret ?_); try simp only [thenA, inBlockA, reduceIte, reduceCtorEq, Nat.reduceEqDiff, if_false, if_true]) | ((first | refine hK _ ?_ | (clear hK K; first | refine hK _ ?_ | (clear hK K; first | refine hK _ ?_ | (clear hK K; first | refine hK _ ?_ | (clear hK K; refine hK _ ?_))))); clear hK K) | refine awp_true rfl rfl ?_ | refine awp_false rfl rfl ?_ | refine awp_block ?_ | refine And.intro (by first | ((repeat' first | omega | exact trivial | rfl | assumption | (intro a e; subst e; rfl) | exact map_sz fun a => (by simp only [go_sem]) | refine And.intro ?_ ?_); done) | fail) ?_ | fail)
  (first | refine ret_pure ?_ ?_ ?_ | refine ret_ro ?_ ?_ ?_); focus exact (by simp only [Try.results71, resOkL, resOk, Try.ntmps71, List.toList_toArray]; first | decide | (simp only [go_sem]; done) | (simp only [go_sem]; and_intros <;> first | omega | rfl | decide))
  rotate_left; focus exact (by repeat (first | exact Fr.rfl' _ _ | assumption | refine Fr.updk ?_ (by omega) _))
  simp only [resA, resV, Try.results71, go_sem]
  all_goals try (first | exact Co.t2 (.dat rfl) (.dat rfl) | exact Co.t3 (.dat rfl) (.dat rfl) (.dat rfl))
  exact .dat rfl
set_option maxRecDepth 20000 in
theorem value2_tri (b : Nm) (sz : Int) (tb : List (List Int)) (n : Int) : Tri Try.prog 72 [iA n, .ptr b 0] (rdE (mdO b sz tb) (bA (outOf sz n))) := by
  refine tri_enter_ro Try.func72 rfl Try.ntmps72 (by simp only [List.length_cons, List.length_nil]; omega) fun w0 h0 k hro => ?_
  obtain ⟨hb, eb⟩ := hro.get _ (List.mem_cons_self ..)
  unfold outOf
  cases h1 : decide (n < 0) with
  | true =>
    repeat' (first | refine awp_seq_k fun K hK => ?_ | ((first | refine awp_region_k (by kernel_rfl) fun R hR => ?_ | refine awp_draw mixed (by kernel_rfl) (by kernel_rfl) fun R hR => ?_); simp only [go_sem, eb, h1]) | ((first | (refine hR _ ?_; clear hR R) | refine awp_skip ?_ | refine awp_exit ?_ | refine awp_ret ?_); try simp only [thenA, inBlockA, reduceIte, reduceCtorEq, Nat.reduceEqDiff, if_false, if_true]) | ((first | refine hK _ ?_ | (clear hK K; first | refine hK _ ?_ | (clear hK K; first | refine hK _ ?_ | (clear hK K; first | refine hK _ ?_ | (clear hK K; refine hK _ ?_))))); clear hK K) | refine awp_true rfl rfl ?_ | refine awp_false rfl rfl ?_ | refine awp_block ?_ | refine And.intro (by first | ((repeat' first | omega | exact trivial | rfl | assumption | (intro a e; subst e; rfl) | exact map_sz fun a => (by simp only [go_sem]) | refine And.intro ?_ ?_); done) | fail) ?_ | fail)
    (first | refine ret_pure ?_ ?_ ?_ | refine ret_ro ?_ ?_ ?_); focus exact (by simp only [Try.results72, resOkL, resOk, Try.ntmps72, List.toList_toArray]; first | decide | (simp only [go_sem]; done) | (simp only [go_sem]; and_intros <;> first | omega | rfl | decide))
    rotate_left; focus exact (by repeat (first | exact Fr.rfl' _ _ | assumption | refine Fr.updk ?_ (by omega) _))
    simp only [resA, resV, Try.results72, go_sem]
    all_goals try (first | exact Co.t2 (.dat rfl) (.dat rfl) | exact Co.t3 (.dat rfl) (.dat rfl) (.dat rfl))
    exact .dat rfl
  | false =>
    repeat' (first | refine awp_seq_k fun K hK => ?_ | ((first | refine awp_region_k (by kernel_rfl) fun R hR => ?_ | refine awp_draw mixed (by kernel_rfl) (by kernel_rfl) fun R hR => ?_); simp only [go_sem, eb, h1]) | ((first | (refine hR _ ?_; clear hR R) | refine awp_skip ?_ | refine awp_exit ?_ | refine awp_ret ?_); try simp only [thenA, inBlockA, reduceIte, reduceCtorEq, Nat.reduceEqDiff, if_false, if_true]) | ((first | refine hK _ ?_ | (clear hK K; first | refine hK _ ?_ | (clear hK K; first | refine hK _ ?_ | (clear hK K; first | refine hK _ ?_ | (clear hK K; refine hK _ ?_))))); clear hK K) | refine awp_true rfl rfl ?_ | refine awp_false rfl rfl ?_ | refine awp_block ?_ | refine And.intro (by first | ((repeat' first | omega | exact trivial | rfl | assumption | (intro a e; subst e; rfl) | exact map_sz fun a => (by simp only [go_sem]) | refine And.intro ?_ ?_); done) | fail) ?_ | fail)
    (first | refine ret_pure ?_ ?_ ?_ | refine ret_ro ?_ ?_ ?_); focus exact (by simp only [Try.results72, resOkL, resOk, Try.ntmps72, List.toList_toArray]; first | decide | (simp only [go_sem]; done) | (simp only [go_sem]; and_intros <;> first | omega | rfl | decide))
    rotate_left; focus exact (by repeat (first | exact Fr.rfl' _ _ | assumption | refine Fr.updk ?_ (by omega) _))
    simp only [resA, resV, Try.results72, go_sem]
    all_goals try (first | exact Co.t2 (.dat rfl) (.dat rfl) | exact Co.t3 (.dat rfl) (.dat rfl) (.dat rfl))
    exact .dat rfl
set_option maxRecDepth 20000 in
theorem value3_tri (b : Nm) (vars : List Int) (v : Int) (h1 : 0 < v) (h2 : v ≤ vars.length) (hl : vars.length ≤ 4000000) : Tri Try.prog 74 [iA v, .ptr b 0] (rdE (vbO b vars) (iA (byL vars v))) := by
  refine tri_enter_ro Try.func74 rfl Try.ntmps74 (by simp only [List.length_cons, List.length_nil]; omega) fun w0 h0 k hro => ?_
  have eb := (hro.get _ (List.mem_cons_self ..)).2
  have hx : (v - 1).toNat < vars.length := by omega
  have e1 : (vars.map iD).getD (v - 1).toNat default = iD vars[(v - 1).toNat] := nth_map iD hx _
  have hz1 : v - 1 < (vars.length : Int) := by omega
  have e : byL vars v = vars[(v - 1).toNat] := by rw [byL, getD_at hx]
  repeat' (first | refine awp_seq_k fun K hK => ?_ | ((first | refine awp_region_k (by kernel_rfl) fun R hR => ?_ | refine awp_draw mixed (by kernel_rfl) (by kernel_rfl) fun R hR => ?_); simp only [go_sem, eb, e1, hz1]) | ((first | (refine hR _ ?_; clear hR R) | refine awp_skip ?_ | refine awp_exit ?_ | refine awp_ret ?_); try simp only [thenA, inBlockA, reduceIte, reduceCtorEq, Nat.reduceEqDiff, if_false, if_true]) | ((first | refine hK _ ?_ | (clear hK K; first | refine hK _ ?_ | (clear hK K; first | refine hK _ ?_ | (clear hK K; first | refine hK _ ?_ | (clear hK K; refine hK _ ?_))))); clear hK K) | refine awp_true rfl rfl ?_ | refine awp_false rfl rfl ?_ | refine awp_block ?_ | refine And.intro (by first | ((repeat' first | omega | exact trivial | rfl | assumption | (intro a e; subst e; rfl) | exact map_sz fun a => (by simp only [go_sem]) | refine And.intro ?_ ?_); done) | fail) ?_ | fail)
  (first | refine ret_pure ?_ ?_ ?_ | refine ret_ro ?_ ?_ ?_); focus exact (by simp only [Try.results74, resOkL, resOk, Try.ntmps74, List.toList_toArray]; first | decide | (simp only [go_sem]; done) | (simp only [go_sem]; and_intros <;> first | omega | rfl | decide))
  rotate_left; focus exact (by repeat (first | exact Fr.rfl' _ _ | assumption | refine Fr.updk ?_ (by omega) _))
  simp only [resA, resV, Try.results74, go_sem]
  all_goals try (first | exact Co.t2 (.dat rfl) (.dat rfl) | exact Co.t3 (.dat rfl) (.dat rfl) (.dat rfl))
  exact co_i e.symm
def valAns (g : List Int) (sz : Int) (tb : List (List Int)) (t : Tm) (vars : List Int) : Int × Int :=
  if mdOk g sz tb ≠ 0 then (0, mdOk g sz tb) else if own g t ≠ 0 then (0, own g t) else if ((firstVars [t]).any fun v => decide (v > vars.length)) = true then (0, 1)
  else if (vars.any (outOf sz)) = true then (0, 5) else (valM sz tb (byL vars) t, 0)
theorem fine_of {g : List Int} {sz : Int} {t : Tm} {vars : List Int} (ho : own g t = 0) (h1 : ((firstVars [t]).any fun v => decide (v > vars.length)) = false) (h2 : (vars.any (outOf sz)) = false) : Fine g sz (byL vars) (parts t) ∧ ∀ x ∈ parts t, x.v > 0 → x.v ≤ vars.length := by
  have key : ∀ x ∈ parts t, x.v > 0 → x.v ≤ vars.length := by
    intro x hx hv
    have hm : x.v ∈ firstVars [t] := addVs_has (by simpa using hx) hv
    have := List.any_eq_false.1 h1 _ hm
    simp at this
    omega
  refine ⟨fun x hx => ⟨own_each ho hx, fun hv => ?_⟩, key⟩
  have hl := key x hx hv
  have hi : (x.v - 1).toNat < vars.length := by omega
  rw [byL, getD_at hi]
  have := List.any_eq_false.1 h2 _ (List.getElem_mem hi)
  generalize vars[(x.v - 1).toNat] = y at *
  simp [outOf] at this
  omega
theorem stands_one {g : List Int} {t : Tm} (ho : own g t = 0) : addVs [] ([t].flatMap pre) = firstVars [t] := stands_eq (fun u hu => by simp at hu; subst hu; exact own_bare ho) []
set_option maxHeartbeats 2000000 in
set_option maxRecDepth 20000 in
theorem mdValue_tri (g : List Int) (sz : Int) (tb : List (List Int)) (t : Tm) (vars : List Int) (hl : tb.length ≤ 4000000) (hr : ∀ r ∈ tb, r.length ≤ 4000000) (ht : t.size ≤ 4000000) (hvl : vars.length ≤ 4000000) :
    Tri Try.prog 18 [.d (sgDV g), .d (mdDV sz tb), .d (tmDV t), .d (.sl (vars.map iD))] (pure' (.tup [iA (valAns g sz tb t vars).1, iA (valAns g sz tb t vars).2])) := by
  refine tri_enter Try.func18 rfl Try.ntmps18 (by simp only [List.length_cons, List.length_nil]; omega) fun w0 h0 k hrd hwr => ?_
  cases hm : mdOk g sz tb == 0 with
  | false =>
    have hm' : (mdOk g sz tb != 0) = true := by simpa using hm
    have ha : valAns g sz tb t vars = (0, mdOk g sz tb) := by unfold valAns; rw [if_pos (by simpa using hm)]
    repeat' (first | refine awp_seq_k fun K hK => ?_ | ((first | refine awp_region_k (by kernel_rfl) fun R hR => ?_ | refine awp_draw mixed (by kernel_rfl) (by kernel_rfl) fun R hR => ?_); simp only [go_sem, hm, hm']) | ((first | (refine hR _ ?_; clear hR R) | refine awp_skip ?_ | refine awp_exit ?_ | refine awp_ret ?_); try simp only [thenA, inBlockA, reduceIte, reduceCtorEq, Nat.reduceEqDiff, if_false, if_true]) | ((first | refine hK _ ?_ | (clear hK K; first | refine hK _ ?_ | (clear hK K; first | refine hK _ ?_ | (clear hK K; first | refine hK _ ?_ | (clear hK K; refine hK _ ?_))))); clear hK K) | refine awp_true rfl rfl ?_ | refine awp_false rfl rfl ?_ | refine awp_block ?_ | ((first | refine CallK.pure (enter28) (mdCheck_tri g sz tb hl hr) ?_ ?_ | refine CallD.pure (enter28) (mdCheck_tri g sz tb hl hr) ?_ ?_); (focus first | ((repeat (first | exact trivial | refine ⟨(by first | exact Or.inl rfl | exact Or.inr rfl), ?_⟩)); done) | (simp only [coL, AV.dat, true_or, or_true, AV.d.injEq, go_sem]; done)); simp only [go_sem, hm, hm']) | refine And.intro (by first | ((repeat' first | omega | exact trivial | rfl | assumption | (intro a e; subst e; rfl) | exact map_sz fun a => (by simp only [go_sem]) | refine And.intro ?_ ?_); done) | fail) ?_ | fail)
    rw [ha]
    (first | refine ret_pure ?_ ?_ ?_ | refine ret_ro ?_ ?_ ?_); focus exact (by simp only [Try.results18, resOkL, resOk, Try.ntmps18, List.toList_toArray]; first | decide | (simp only [go_sem]; done) | (simp only [go_sem]; and_intros <;> first | omega | rfl | decide))
    rotate_left; focus exact (by repeat (first | exact Fr.rfl' _ _ | assumption | refine Fr.updk ?_ (by omega) _))
    simp only [resA, resV, Try.results18, go_sem]
    all_goals try (first | exact Co.t2 (.dat rfl) (.dat rfl) | exact Co.t3 (.dat rfl) (.dat rfl) (.dat rfl))
  | true =>
    have hm2 : mdOk g sz tb = 0 := by simpa using hm
    cases ho : own g t == 0 with
    | false =>
      have ho' : (own g t != 0) = true := by simpa using ho
      have ha : valAns g sz tb t vars = (0, own g t) := by unfold valAns; rw [if_neg (by simp [hm2]), if_pos (by simpa using ho)]
      repeat' (first | refine awp_seq_k fun K hK => ?_ | ((first | refine awp_region_k (by kernel_rfl) fun R hR => ?_ | refine awp_draw mixed (by kernel_rfl) (by kernel_rfl) fun R hR => ?_); simp only [go_sem, hm2, ho', beq_self_eq_true]) | ((first | (refine hR _ ?_; clear hR R) | refine awp_skip ?_ | refine awp_exit ?_ | refine awp_ret ?_); try simp only [thenA, inBlockA, reduceIte, reduceCtorEq, Nat.reduceEqDiff, if_false, if_true]) | ((first | refine hK _ ?_ | (clear hK K; first | refine hK _ ?_ | (clear hK K; first | refine hK _ ?_ | (clear hK K; first | refine hK _ ?_ | (clear hK K; refine hK _ ?_))))); clear hK K) | refine awp_true rfl rfl ?_ | refine awp_false rfl rfl ?_ | refine awp_block ?_ | ((first | refine CallK.pure (enter28) (mdCheck_tri g sz tb hl hr) ?_ ?_ | refine CallD.pure (enter28) (mdCheck_tri g sz tb hl hr) ?_ ?_ | refine CallK.pure (enter68) (own_tri g t) ?_ ?_ | refine CallD.pure (enter68) (own_tri g t) ?_ ?_); (focus first | ((repeat (first | exact trivial | refine ⟨(by first | exact Or.inl rfl | exact Or.inr rfl), ?_⟩)); done) | (simp only [coL, AV.dat, true_or, or_true, AV.d.injEq, go_sem]; done)); simp only [go_sem, hm2, ho', beq_self_eq_true]) | refine And.intro (by first | ((repeat' first | omega | exact trivial | rfl | assumption | (intro a e; subst e; rfl) | exact map_sz fun a => (by simp only [go_sem]) | refine And.intro ?_ ?_); done) | fail) ?_ | fail)
      rw [ha]
      (first | refine ret_pure ?_ ?_ ?_ | refine ret_ro ?_ ?_ ?_); focus exact (by simp only [Try.results18, resOkL, resOk, Try.ntmps18, List.toList_toArray]; first | decide | (simp only [go_sem]; done) | (simp only [go_sem]; and_intros <;> first | omega | rfl | decide))
      rotate_left; focus exact (by repeat (first | exact Fr.rfl' _ _ | assumption | refine Fr.updk ?_ (by omega) _))
      simp only [resA, resV, Try.results18, go_sem]
      all_goals try (first | exact Co.t2 (.dat rfl) (.dat rfl) | exact Co.t3 (.dat rfl) (.dat rfl) (.dat rfl))
    | true =>
      have ho2 : own g t = 0 := by simpa using ho
      have hst := stands_tri [t] (by simp [Tm.size.sizes]; omega)
      rw [stands_one ho2] at hst
      have hfl : (firstVars [t]).length ≤ 16777216 := by
        have h1 := addVs_len ([t].flatMap parts) []
        have h2 := parts_len t
        simp at h1
        unfold firstVars
        simp
        omega
      have hc1 := containsF_ints (firstVars [t]) hfl 71 (enter71) [.ptr (k, 3) 0] (vbO (k, 3) vars) (fun v => decide (v > vars.length)) (fun v _ => value1_tri (k, 3) vars v)
      have hc2 := containsF_ints vars (by omega) 72 (enter72) [.ptr (k, 1) 0] (mdO (k, 1) sz tb) (outOf sz) (fun v _ => value2_tri (k, 1) sz tb v)
      have hb1 : ∀ h : Heap, h (k, 3) = some (.cells 22 [.d (.sl (vars.map iD))]) → RoOK (k + 1) (vbO (k, 3) vars) h := fun h e => roVb (Nat.lt_succ_self k) e
      have hb2 : ∀ h : Heap, h (k, 1) = some (.cells 39 [iA sz, .d (.sl (tb.map gI))]) → RoOK (k + 1) (mdO (k, 1) sz tb) h := fun h e => roMd (Nat.lt_succ_self k) e
      cases h1 : (firstVars [t]).any fun v => decide (v > vars.length) with
      | true =>
        have ha : valAns g sz tb t vars = (0, 1) := by unfold valAns; rw [if_neg (by simp [hm2]), if_neg (by simp [ho2]), if_pos h1]
        rw [h1] at hc1
        repeat' (first | refine awp_seq_k fun K hK => ?_ | ((first | refine awp_region_k (by kernel_rfl) fun R hR => ?_ | refine awp_draw mixed (by kernel_rfl) (by kernel_rfl) fun R hR => ?_); simp only [go_sem, hm2, ho2, beq_self_eq_true, bne_self_eq_false]) | ((first | (refine hR _ ?_; clear hR R) | refine awp_skip ?_ | refine awp_exit ?_ | refine awp_ret ?_); try simp only [thenA, inBlockA, reduceIte, reduceCtorEq, Nat.reduceEqDiff, if_false, if_true]) | ((first | refine hK _ ?_ | (clear hK K; first | refine hK _ ?_ | (clear hK K; first | refine hK _ ?_ | (clear hK K; first | refine hK _ ?_ | (clear hK K; refine hK _ ?_))))); clear hK K) | refine awp_true rfl rfl ?_ | refine awp_false rfl rfl ?_ | refine awp_block ?_ | ((first | refine CallK.pure (enter28) (mdCheck_tri g sz tb hl hr) ?_ ?_ | refine CallD.pure (enter28) (mdCheck_tri g sz tb hl hr) ?_ ?_ | refine CallK.pure (enter68) (own_tri g t) ?_ ?_ | refine CallD.pure (enter68) (own_tri g t) ?_ ?_ | refine CallK.pure (enter70) (hst) ?_ ?_ | refine CallD.pure (enter70) (hst) ?_ ?_ | refine CallK.look (enter69) (hc1) ?_ (hb1 _ (by simp only [go_sem])) (Fr.rfl' _ _) ?_ | refine CallD.look (enter69) (hc1) ?_ (hb1 _ (by simp only [go_sem])) (Fr.rfl' _ _) (by first | assumption | exact List.cons_ne_nil _ _) ?_); (focus first | ((repeat (first | exact trivial | refine ⟨(by first | exact Or.inl rfl | exact Or.inr rfl), ?_⟩)); done) | (simp only [coL, AV.dat, true_or, or_true, AV.d.injEq, go_sem]; done)); simp only [go_sem, hm2, ho2, beq_self_eq_true, bne_self_eq_false]) | refine And.intro (by first | ((repeat' first | omega | exact trivial | rfl | assumption | (intro a e; subst e; rfl) | exact map_sz fun a => (by simp only [go_sem]) | refine And.intro ?_ ?_); done) | fail) ?_ | fail)
        rw [ha]
        (first | refine ret_pure ?_ ?_ ?_ | refine ret_ro ?_ ?_ ?_); focus exact (by simp only [Try.results18, resOkL, resOk, Try.ntmps18, List.toList_toArray]; first | decide | (simp only [go_sem]; done) | (simp only [go_sem]; and_intros <;> first | omega | rfl | decide))
        rotate_left; focus exact (by repeat (first | exact Fr.rfl' _ _ | assumption | refine Fr.updk ?_ (by omega) _))
        simp only [resA, resV, Try.results18, go_sem]
        all_goals try (first | exact Co.t2 (.dat rfl) (.dat rfl) | exact Co.t3 (.dat rfl) (.dat rfl) (.dat rfl))
      | false =>
        rw [h1] at hc1
        cases h2 : vars.any (outOf sz) with
        | true =>
          have ha : valAns g sz tb t vars = (0, 5) := by unfold valAns; rw [if_neg (by simp [hm2]), if_neg (by simp [ho2]), if_neg (by rw [h1]; simp), if_pos h2]
          rw [h2] at hc2
          repeat' (first | refine awp_seq_k fun K hK => ?_ | ((first | refine awp_region_k (by kernel_rfl) fun R hR => ?_ | refine awp_draw mixed (by kernel_rfl) (by kernel_rfl) fun R hR => ?_); simp only [go_sem, hm2, ho2, beq_self_eq_true, bne_self_eq_false]) | ((first | (refine hR _ ?_; clear hR R) | refine awp_skip ?_ | refine awp_exit ?_ | refine awp_ret ?_); try simp only [thenA, inBlockA, reduceIte, reduceCtorEq, Nat.reduceEqDiff, if_false, if_true]) | ((first | refine hK _ ?_ | (clear hK K; first | refine hK _ ?_ | (clear hK K; first | refine hK _ ?_ | (clear hK K; first | refine hK _ ?_ | (clear hK K; refine hK _ ?_))))); clear hK K) | refine awp_true rfl rfl ?_ | refine awp_false rfl rfl ?_ | refine awp_block ?_ | ((first | refine CallK.look (enter69) (hc1) ?_ (hb1 _ (by simp only [go_sem])) (Fr.rfl' _ _) ?_ | refine CallD.look (enter69) (hc1) ?_ (hb1 _ (by simp only [go_sem])) (Fr.rfl' _ _) (by first | assumption | exact List.cons_ne_nil _ _) ?_); (focus first | ((repeat (first | exact trivial | refine ⟨(by first | exact Or.inl rfl | exact Or.inr rfl), ?_⟩)); done) | (simp only [coL, AV.dat, true_or, or_true, AV.d.injEq, go_sem]; done)); simp only [go_sem, hm2, ho2, beq_self_eq_true, bne_self_eq_false]) | ((first | refine CallK.look (enter69) (hc2) ?_ (hb2 _ (by simp only [go_sem])) (Fr.rfl' _ _) ?_ | refine CallD.look (enter69) (hc2) ?_ (hb2 _ (by simp only [go_sem])) (Fr.rfl' _ _) (by first | assumption | exact List.cons_ne_nil _ _) ?_); (focus first | ((repeat (first | exact trivial | refine ⟨(by first | exact Or.inl rfl | exact Or.inr rfl), ?_⟩)); done) | (simp only [coL, AV.dat, true_or, or_true, AV.d.injEq, go_sem]; done)); simp only [go_sem, hm2, ho2, beq_self_eq_true, bne_self_eq_false]) | ((first | refine CallK.pure (enter28) (mdCheck_tri g sz tb hl hr) ?_ ?_ | refine CallD.pure (enter28) (mdCheck_tri g sz tb hl hr) ?_ ?_ | refine CallK.pure (enter68) (own_tri g t) ?_ ?_ | refine CallD.pure (enter68) (own_tri g t) ?_ ?_ | refine CallK.pure (enter70) (hst) ?_ ?_ | refine CallD.pure (enter70) (hst) ?_ ?_); (focus first | ((repeat (first | exact trivial | refine ⟨(by first | exact Or.inl rfl | exact Or.inr rfl), ?_⟩)); done) | (simp only [coL, AV.dat, true_or, or_true, AV.d.injEq, go_sem]; done)); simp only [go_sem, hm2, ho2, beq_self_eq_true, bne_self_eq_false]) | refine And.intro (by first | ((repeat' first | omega | exact trivial | rfl | assumption | (intro a e; subst e; rfl) | exact map_sz fun a => (by simp only [go_sem]) | refine And.intro ?_ ?_); done) | fail) ?_ | fail)
          rw [ha]
          (first | refine ret_pure ?_ ?_ ?_ | refine ret_ro ?_ ?_ ?_); focus exact (by simp only [Try.results18, resOkL, resOk, Try.ntmps18, List.toList_toArray]; first | decide | (simp only [go_sem]; done) | (simp only [go_sem]; and_intros <;> first | omega | rfl | decide))
          rotate_left; focus exact (by repeat (first | exact Fr.rfl' _ _ | assumption | refine Fr.updk ?_ (by omega) _))
          simp only [resA, resV, Try.results18, go_sem]
          all_goals try (first | exact Co.t2 (.dat rfl) (.dat rfl) | exact Co.t3 (.dat rfl) (.dat rfl) (.dat rfl))
        | false =>
          have ha : valAns g sz tb t vars = (valM sz tb (byL vars) t, 0) := by unfold valAns; rw [if_neg (by simp [hm2]), if_neg (by simp [ho2]), if_neg (by rw [h1]; simp), if_neg (by rw [h2]; simp)]
          rw [h2] at hc2
          obtain ⟨hf, hk⟩ := fine_of ho2 h1 h2
          have hval := value_tri hm2 74 (enter74) [.ptr (k, 3) 0] (vbO (k, 3) vars) (List.cons_ne_nil _ _) t hf (fun x hx hv => value3_tri (k, 3) vars x.v hv (hk x hx hv) hvl)
          repeat' (first | refine awp_seq_k fun K hK => ?_ | ((first | refine awp_region_k (by kernel_rfl) fun R hR => ?_ | refine awp_draw mixed (by kernel_rfl) (by kernel_rfl) fun R hR => ?_); simp only [go_sem, hm2, ho2, beq_self_eq_true, bne_self_eq_false]) | ((first | (refine hR _ ?_; clear hR R) | refine awp_skip ?_ | refine awp_exit ?_ | refine awp_ret ?_); try simp only [thenA, inBlockA, reduceIte, reduceCtorEq, Nat.reduceEqDiff, if_false, if_true]) | ((first | refine hK _ ?_ | (clear hK K; first | refine hK _ ?_ | (clear hK K; first | refine hK _ ?_ | (clear hK K; first | refine hK _ ?_ | (clear hK K; refine hK _ ?_))))); clear hK K) | refine awp_true rfl rfl ?_ | refine awp_false rfl rfl ?_ | refine awp_block ?_ | ((first | refine CallK.look (enter69) (hc1) ?_ (hb1 _ (by simp only [go_sem])) (Fr.rfl' _ _) ?_ | refine CallD.look (enter69) (hc1) ?_ (hb1 _ (by simp only [go_sem])) (Fr.rfl' _ _) (by first | assumption | exact List.cons_ne_nil _ _) ?_); (focus first | ((repeat (first | exact trivial | refine ⟨(by first | exact Or.inl rfl | exact Or.inr rfl), ?_⟩)); done) | (simp only [coL, AV.dat, true_or, or_true, AV.d.injEq, go_sem]; done)); simp only [go_sem, hm2, ho2, beq_self_eq_true, bne_self_eq_false]) | ((first | refine CallK.look (enter69) (hc2) ?_ (hb2 _ (by simp only [go_sem])) (Fr.rfl' _ _) ?_ | refine CallD.look (enter69) (hc2) ?_ (hb2 _ (by simp only [go_sem])) (Fr.rfl' _ _) (by first | assumption | exact List.cons_ne_nil _ _) ?_); (focus first | ((repeat (first | exact trivial | refine ⟨(by first | exact Or.inl rfl | exact Or.inr rfl), ?_⟩)); done) | (simp only [coL, AV.dat, true_or, or_true, AV.d.injEq, go_sem]; done)); simp only [go_sem, hm2, ho2, beq_self_eq_true, bne_self_eq_false]) | ((first | refine CallK.pure (enter28) (mdCheck_tri g sz tb hl hr) ?_ ?_ | refine CallD.pure (enter28) (mdCheck_tri g sz tb hl hr) ?_ ?_ | refine CallK.pure (enter68) (own_tri g t) ?_ ?_ | refine CallD.pure (enter68) (own_tri g t) ?_ ?_ | refine CallK.pure (enter70) (hst) ?_ ?_ | refine CallD.pure (enter70) (hst) ?_ ?_ | refine CallK.look (enter73) (hval) ?_ (hb1 _ (by simp only [go_sem])) (Fr.rfl' _ _) ?_ | refine CallD.look (enter73) (hval) ?_ (hb1 _ (by simp only [go_sem])) (Fr.rfl' _ _) (by first | assumption | exact List.cons_ne_nil _ _) ?_); (focus first | ((repeat (first | exact trivial | refine ⟨(by first | exact Or.inl rfl | exact Or.inr rfl), ?_⟩)); done) | (simp only [coL, AV.dat, true_or, or_true, AV.d.injEq, go_sem]; done)); simp only [go_sem, hm2, ho2, beq_self_eq_true, bne_self_eq_false]) | refine And.intro (by first | ((repeat' first | omega | exact trivial | rfl | assumption | (intro a e; subst e; rfl) | exact map_sz fun a => (by simp only [go_sem]) | refine And.intro ?_ ?_); done) | fail) ?_ | fail)
          rw [ha]
          (first | refine ret_pure ?_ ?_ ?_ | refine ret_ro ?_ ?_ ?_); focus exact (by simp only [Try.results18, resOkL, resOk, Try.ntmps18, List.toList_toArray]; first | decide | (simp only [go_sem]; done) | (simp only [go_sem]; and_intros <;> first | omega | rfl | decide))
          rotate_left; focus exact (by repeat (first | exact Fr.rfl' _ _ | assumption | refine Fr.updk ?_ (by omega) _))
          simp only [resA, resV, Try.results18, go_sem]
          all_goals try (first | exact Co.t2 (.dat rfl) (.dat rfl) | exact Co.t3 (.dat rfl) (.dat rfl) (.dat rfl))
end Go.Proofs.Ytmeekpinkfpnhaa
namespace Go.Proofs.Ytmeekpinkfpnhaa
open Go.RowKit
abbrev byO (b mm : Nm) (es : List (Int × DV)) : List (Nm × Ob) := [(b, .cells 104 [.map mm]), (mm, .map es)]
set_option maxRecDepth 20000 in
theorem holds1_tri (b mm : Nm) (es : List (Int × DV)) (v d : Int) (hd : getM v es = some (iD d)) : Tri Try.prog 77 [iA v, .ptr b 0] (rdE (byO b mm es) (iA d)) := by
  refine tri_enter_ro Try.func77 rfl Try.ntmps77 (by simp only [List.length_cons, List.length_nil]; omega) fun w0 h0 k hro => ?_
  have eb := (hro.get _ (List.mem_cons_self ..)).2
  have em := (hro.get _ (List.mem_cons_of_mem _ (List.mem_cons_self ..))).2
  repeat' (first | refine awp_seq_k fun K hK => ?_ | ((first | refine awp_region_k (by kernel_rfl) fun R hR => ?_ | refine awp_draw mixed (by kernel_rfl) (by kernel_rfl) fun R hR => ?_); simp only [go_sem, eb, em, hd]) | ((first | (refine hR _ ?_; clear hR R) | refine awp_skip ?_ | refine awp_exit ?_ | refine awp_ret ?_); try simp only [thenA, inBlockA, reduceIte, reduceCtorEq, Nat.reduceEqDiff, if_false, if_true]) | ((first | refine hK _ ?_ | (clear hK K; first | refine hK _ ?_ | (clear hK K; first | refine hK _ ?_ | (clear hK K; first | refine hK _ ?_ | (clear hK K; refine hK _ ?_))))); clear hK K) | refine awp_true rfl rfl ?_ | refine awp_false rfl rfl ?_ | refine awp_block ?_ | refine And.intro (by first | ((repeat' first | omega | exact trivial | rfl | assumption | (intro a e; subst e; rfl) | exact map_sz fun a => (by simp only [go_sem]) | refine And.intro ?_ ?_); done) | fail) ?_ | fail)
  (first | refine ret_pure ?_ ?_ ?_ | refine ret_ro ?_ ?_ ?_); focus exact (by simp only [Try.results77, resOkL, resOk, Try.ntmps77, List.toList_toArray]; first | decide | (simp only [go_sem]; done) | (simp only [go_sem]; and_intros <;> first | omega | rfl | decide))
  rotate_left; focus exact (by repeat (first | exact Fr.rfl' _ _ | assumption | refine Fr.updk ?_ (by omega) _))
  simp only [resA, resV, Try.results77, go_sem]
  all_goals try (first | exact Co.t2 (.dat rfl) (.dat rfl) | exact Co.t3 (.dat rfl) (.dat rfl) (.dat rfl))
  exact .dat rfl
abbrev litO (m f b mm : Nm) (sz : Int) (tb : List (List Int)) (es : List (Int × DV)) : List (Nm × Ob) :=
  [(m, .cells 39 [iA sz, .d (.sl (tb.map gI))]), (f, .cells 102 [.fn (.func 77) [] [.ptr b 0]]), (b, .cells 104 [.map mm]), (mm, .map es)]
set_option maxRecDepth 20000 in
theorem holds2_tri {g : List Int} {sz : Int} {tb : List (List Int)} (hm : mdOk g sz tb = 0) (m f b mm : Nm) (es : List (Int × DV)) (vs : Int → Int) (l : Lt) (ha : Fine g sz vs (parts l.a)) (hb : Fine g sz vs (parts l.b)) (hea : ∀ x ∈ parts l.a, x.v > 0 → getM x.v es = some (iD (vs x.v))) (heb : ∀ x ∈ parts l.b, x.v > 0 → getM x.v es = some (iD (vs x.v))) :
    Tri Try.prog 79 [.d (ltDV l), .ptr m 0, .ptr f 0] (rdE (litO m f b mm sz tb es) (bA (litIn sz tb vs l))) := by
  refine tri_enter_ro Try.func79 rfl Try.ntmps79 (by simp only [List.length_cons, List.length_nil]; omega) fun w0 h0 k hro => ?_
  obtain ⟨n1, e1⟩ := hro.get _ (List.mem_cons_self ..)
  obtain ⟨n2, e2⟩ := hro.get _ (List.mem_cons_of_mem _ (List.mem_cons_self ..))
  obtain ⟨n3, e3⟩ := hro.get _ (List.mem_cons_of_mem _ (List.mem_cons_of_mem _ (List.mem_cons_self ..)))
  obtain ⟨n4, e4⟩ := hro.get _ (List.mem_cons_of_mem _ (List.mem_cons_of_mem _ (List.mem_cons_of_mem _ (List.mem_cons_self ..))))
  have hro2 : RoOK k (byO b mm es) h0 := ⟨fun x hx => by
    simp only [byO, List.mem_cons, List.not_mem_nil, or_false] at hx
    rcases hx with rfl | rfl
    · exact ⟨n3, e3⟩
    · exact ⟨n4, e4⟩⟩
  have q1 := nmne n1
  have q2 := nmne n2
  have va := value_tri hm 77 (enter77) [.ptr b 0] (byO b mm es) (List.cons_ne_nil _ _) l.a ha (fun x hx hv => holds1_tri b mm es x.v _ (hea x hx hv))
  have vb := value_tri hm 77 (enter77) [.ptr b 0] (byO b mm es) (List.cons_ne_nil _ _) l.b hb (fun x hx hv => holds1_tri b mm es x.v _ (heb x hx hv))
  unfold litIn
  clear hro
  repeat' (first | refine awp_seq_k fun K hK => ?_ | ((first | refine awp_region_k (by kernel_rfl) fun R hR => ?_ | refine awp_draw mixed (by kernel_rfl) (by kernel_rfl) fun R hR => ?_); simp only [go_sem, e1, e2, q1, q2]) | ((first | (refine hR _ ?_; clear hR R) | refine awp_skip ?_ | refine awp_exit ?_ | refine awp_ret ?_); try simp only [thenA, inBlockA, reduceIte, reduceCtorEq, Nat.reduceEqDiff, if_false, if_true]) | ((first | refine hK _ ?_ | (clear hK K; first | refine hK _ ?_ | (clear hK K; first | refine hK _ ?_ | (clear hK K; first | refine hK _ ?_ | (clear hK K; refine hK _ ?_))))); clear hK K) | refine awp_true rfl rfl ?_ | refine awp_false rfl rfl ?_ | refine awp_block ?_ | ((first | refine CallK.look (enter73) (va) ?_ (by assumption) (by repeat (first | exact Fr.rfl' _ _ | assumption | refine Fr.updk ?_ (by omega) _)) ?_ | refine CallD.look (enter73) (va) ?_ (by assumption) (by repeat (first | exact Fr.rfl' _ _ | assumption | refine Fr.updk ?_ (by omega) _)) (by first | assumption | exact List.cons_ne_nil _ _) ?_); (focus first | ((repeat (first | exact trivial | refine ⟨(by first | exact Or.inl rfl | exact Or.inr rfl), ?_⟩)); done) | (simp only [coL, AV.dat, true_or, or_true, AV.d.injEq, go_sem]; done)); simp only [go_sem, e1, e2, q1, q2]) | ((first | refine CallK.look (enter73) (vb) ?_ (by assumption) (by repeat (first | exact Fr.rfl' _ _ | assumption | refine Fr.updk ?_ (by omega) _)) ?_ | refine CallD.look (enter73) (vb) ?_ (by assumption) (by repeat (first | exact Fr.rfl' _ _ | assumption | refine Fr.updk ?_ (by omega) _)) (by first | assumption | exact List.cons_ne_nil _ _) ?_); (focus first | ((repeat (first | exact trivial | refine ⟨(by first | exact Or.inl rfl | exact Or.inr rfl), ?_⟩)); done) | (simp only [coL, AV.dat, true_or, or_true, AV.d.injEq, go_sem]; done)); simp only [go_sem, e1, e2, q1, q2]) | refine And.intro (by first | ((repeat' first | omega | exact trivial | rfl | assumption | (intro a e; subst e; rfl) | exact map_sz fun a => (by simp only [go_sem]) | refine And.intro ?_ ?_); done) | fail) ?_ | fail)
  (first | refine ret_pure ?_ ?_ ?_ | refine ret_ro ?_ ?_ ?_); focus exact (by simp only [Try.results79, resOkL, resOk, Try.ntmps79, List.toList_toArray]; first | decide | (simp only [go_sem]; done) | (simp only [go_sem]; and_intros <;> first | omega | rfl | decide))
  rotate_left; focus exact (by repeat (first | exact Fr.rfl' _ _ | assumption | refine Fr.updk ?_ (by omega) _))
  simp only [resA, resV, Try.results79, go_sem]
  all_goals try (first | exact Co.t2 (.dat rfl) (.dat rfl) | exact Co.t3 (.dat rfl) (.dat rfl) (.dat rfl))
  exact .dat rfl
end Go.Proofs.Ytmeekpinkfpnhaa
namespace Go.Proofs.Ytmeekpinkfpnhaa
open Go.RowKit
theorem roLit {m f b mm : Nm} {sz : Int} {tb : List (List Int)} {es : List (Int × DV)} {k : Nat} {h : Heap} (h1 : m.1 < k) (h2 : f.1 < k) (h3 : b.1 < k) (h4 : mm.1 < k) (e1 : h m = some (.cells 39 [iA sz, .d (.sl (tb.map gI))]))
    (e2 : h f = some (.cells 102 [.fn (.func 77) [] [.ptr b 0]])) (e3 : h b = some (.cells 104 [.map mm])) (e4 : h mm = some (.map es)) : RoOK k (litO m f b mm sz tb es) h := ⟨fun x hx => by
  simp only [litO, List.mem_cons, List.not_mem_nil, or_false] at hx
  rcases hx with rfl | rfl | rfl | rfl
  · exact ⟨h1, e1⟩
  · exact ⟨h2, e2⟩
  · exact ⟨h3, e3⟩
  · exact ⟨h4, e4⟩⟩
theorem nd_at {names : List Int} (hnd : names.Nodup) {i : Nat} (hi : i < names.length) : (∀ v ∈ names.take i, v ≠ names[i]) ∧ ∀ v ∈ names.drop (i + 1), v ≠ names[i] := by
  have h : names = names.take i ++ names[i] :: names.drop (i + 1) := by rw [← List.drop_eq_getElem_cons hi, List.take_append_drop]
  rw [h] at hnd
  obtain ⟨_, h2, h3⟩ := List.nodup_append.1 hnd
  exact ⟨fun v hv e => h3 v hv names[i] (List.mem_cons_self ..) e, fun v hv e => by
    have := (List.nodup_cons.1 h2).1
    rw [← e] at this
    exact this hv⟩
theorem step_I {names : List Int} (hnd : names.Nodup) {i : Nat} (hi : i < names.length) {sz ni n : Int} {es : List (Int × DV)} (uI : ∀ v ∈ names.take i, getM v es = some (iD (dig sz names n v))) (uD : ∀ v ∈ names.drop i, dig sz (names.drop i) ni v = dig sz names n v) :
    ∀ v ∈ names.take (i + 1), getM v (putM names[i] (iD (ni.tmod sz)) es) = some (iD (dig sz names n v)) := by
  intro v hv
  rw [List.take_succ_eq_append_getElem hi, List.mem_append] at hv
  rw [getM_put]
  rcases hv with hv | hv
  · rw [if_neg ((nd_at hnd hi).1 v hv)]; exact uI v hv
  · simp at hv
    subst hv
    rw [if_pos rfl]
    have := uD names[i] (by rw [List.drop_eq_getElem_cons hi]; exact List.mem_cons_self ..)
    rw [List.drop_eq_getElem_cons hi, dig, if_pos rfl] at this
    rw [← this]
theorem step_D {names : List Int} (hnd : names.Nodup) {i : Nat} (hi : i < names.length) {sz ni n : Int} (uD : ∀ v ∈ names.drop i, dig sz (names.drop i) ni v = dig sz names n v) :
    ∀ v ∈ names.drop (i + 1), dig sz (names.drop (i + 1)) (ni.tdiv sz) v = dig sz names n v := by
  intro v hv
  have := uD v (by rw [List.drop_eq_getElem_cons hi]; exact List.mem_cons_of_mem _ hv)
  rw [List.drop_eq_getElem_cons hi, dig, if_neg ((nd_at hnd hi).2 v hv)] at this
  exact this
def hldAns (g : List Int) (sz : Int) (tb : List (List Int)) (c : List Lt) : Bool × Int :=
  if mdOk g sz tb ≠ 0 then (false, mdOk g sz tb) else if clsOk g [c] ≠ 0 then (false, clsOk g [c]) else if (firstVars (termsOf c)).length > 8 then (false, 2) else (holdsC sz tb c, 0)
set_option maxHeartbeats 4000000 in
set_option maxRecDepth 20000 in
theorem mdHolds_tri (g : List Int) (sz : Int) (tb : List (List Int)) (c : List Lt) (hl : tb.length ≤ 4000000) (hr : ∀ r ∈ tb, r.length ≤ 4000000) (hcl : c.length ≤ 4000000) :
    Tri Try.prog 19 [.d (sgDV g), .d (mdDV sz tb), .d (clDV c)] (pure' (.tup [bA (hldAns g sz tb c).1, iA (hldAns g sz tb c).2])) := by
  have hcc := clCheck_tri g [c] (by simp) (by simpa using hcl)
  refine tri_enter Try.func19 rfl Try.ntmps19 (by simp only [List.length_cons, List.length_nil]; omega) fun w0 h0 k hrd hwr => ?_
  cases hm : mdOk g sz tb == 0 with
  | false =>
    have hm' : (mdOk g sz tb != 0) = true := by simpa using hm
    have ha : hldAns g sz tb c = (false, mdOk g sz tb) := by unfold hldAns; rw [if_pos (by simpa using hm)]
    repeat' (first | refine awp_seq_k fun K hK => ?_ | ((first | refine awp_region_k (by kernel_rfl) fun R hR => ?_ | refine awp_draw mixed (by kernel_rfl) (by kernel_rfl) fun R hR => ?_); simp only [go_sem, hm, hm']) | ((first | (refine hR _ ?_; clear hR R) | refine awp_skip ?_ | refine awp_exit ?_ | refine awp_ret ?_); try simp only [thenA, inBlockA, reduceIte, reduceCtorEq, Nat.reduceEqDiff, if_false, if_true]) | ((first | refine hK _ ?_ | (clear hK K; first | refine hK _ ?_ | (clear hK K; first | refine hK _ ?_ | (clear hK K; first | refine hK _ ?_ | (clear hK K; refine hK _ ?_))))); clear hK K) | refine awp_true rfl rfl ?_ | refine awp_false rfl rfl ?_ | refine awp_block ?_ | ((first | refine CallK.pure (enter28) (mdCheck_tri g sz tb hl hr) ?_ ?_ | refine CallD.pure (enter28) (mdCheck_tri g sz tb hl hr) ?_ ?_); (focus first | ((repeat (first | exact trivial | refine ⟨(by first | exact Or.inl rfl | exact Or.inr rfl), ?_⟩)); done) | (simp only [coL, AV.dat, true_or, or_true, AV.d.injEq, go_sem]; done)); simp only [go_sem, hm, hm']) | refine And.intro (by first | ((repeat' first | omega | exact trivial | rfl | assumption | (intro a e; subst e; rfl) | exact map_sz fun a => (by simp only [go_sem]) | refine And.intro ?_ ?_); done) | fail) ?_ | fail)
    rw [ha]
    (first | refine ret_pure ?_ ?_ ?_ | refine ret_ro ?_ ?_ ?_); focus exact (by simp only [Try.results19, resOkL, resOk, Try.ntmps19, List.toList_toArray]; first | decide | (simp only [go_sem]; done) | (simp only [go_sem]; and_intros <;> first | omega | rfl | decide))
    rotate_left; focus exact (by repeat (first | exact Fr.rfl' _ _ | assumption | refine Fr.updk ?_ (by omega) _))
    simp only [resA, resV, Try.results19, go_sem]
    all_goals try (first | exact Co.t2 (.dat rfl) (.dat rfl) | exact Co.t3 (.dat rfl) (.dat rfl) (.dat rfl))
  | true =>
    have hm2 : mdOk g sz tb = 0 := by simpa using hm
    cases ho : clsOk g [c] == 0 with
    | false =>
      have ho' : (clsOk g [c] != 0) = true := by simpa using ho
      have ha : hldAns g sz tb c = (false, clsOk g [c]) := by unfold hldAns; rw [if_neg (by simp [hm2]), if_pos (by simpa using ho)]
      repeat' (first | refine awp_seq_k fun K hK => ?_ | ((first | refine awp_region_k (by kernel_rfl) fun R hR => ?_ | refine awp_draw mixed (by kernel_rfl) (by kernel_rfl) fun R hR => ?_); simp only [go_sem, hm2, ho', beq_self_eq_true]) | ((first | (refine hR _ ?_; clear hR R) | refine awp_skip ?_ | refine awp_exit ?_ | refine awp_ret ?_); try simp only [thenA, inBlockA, reduceIte, reduceCtorEq, Nat.reduceEqDiff, if_false, if_true]) | ((first | refine hK _ ?_ | (clear hK K; first | refine hK _ ?_ | (clear hK K; first | refine hK _ ?_ | (clear hK K; first | refine hK _ ?_ | (clear hK K; refine hK _ ?_))))); clear hK K) | refine awp_true rfl rfl ?_ | refine awp_false rfl rfl ?_ | refine awp_block ?_ | ((first | refine CallK.pure (enter28) (mdCheck_tri g sz tb hl hr) ?_ ?_ | refine CallD.pure (enter28) (mdCheck_tri g sz tb hl hr) ?_ ?_ | refine CallK.pure (enter36) (hcc) ?_ ?_ | refine CallD.pure (enter36) (hcc) ?_ ?_); (focus first | ((repeat (first | exact trivial | refine ⟨(by first | exact Or.inl rfl | exact Or.inr rfl), ?_⟩)); done) | (simp only [coL, AV.dat, true_or, or_true, AV.d.injEq, go_sem]; done)); simp only [go_sem, hm2, ho', beq_self_eq_true]) | refine And.intro (by first | ((repeat' first | omega | exact trivial | rfl | assumption | (intro a e; subst e; rfl) | exact map_sz fun a => (by simp only [go_sem]) | refine And.intro ?_ ?_); done) | fail) ?_ | fail)
      rw [ha]
      (first | refine ret_pure ?_ ?_ ?_ | refine ret_ro ?_ ?_ ?_); focus exact (by simp only [Try.results19, resOkL, resOk, Try.ntmps19, List.toList_toArray]; first | decide | (simp only [go_sem]; done) | (simp only [go_sem]; and_intros <;> first | omega | rfl | decide))
      rotate_left; focus exact (by repeat (first | exact Fr.rfl' _ _ | assumption | refine Fr.updk ?_ (by omega) _))
      simp only [resA, resV, Try.results19, go_sem]
      all_goals try (first | exact Co.t2 (.dat rfl) (.dat rfl) | exact Co.t3 (.dat rfl) (.dat rfl) (.dat rfl))
    | true =>
      have ho2 : clsOk g [c] = 0 := by simpa using ho
      obtain ⟨hc8, hc⟩ := clsOk_one ho2
      have hts := termsOf_size hc
      have hst := stands_tri (termsOf c) (by omega)
      rw [stands_cl hc] at hst
      have hin := names_in hc
      have hnd : (firstVars (termsOf c)).Nodup := addVs_nodup List.nodup_nil
      have hC : ∀ N : Nat, N = (sz ^ (firstVars (termsOf c)).length).toNat → holdsC sz tb c = holdsF sz tb c (firstVars (termsOf c)) N 0 := fun N h => by rw [h]; rfl
      have hfine := fun (n : Int) (hn : 0 ≤ n) (l : Lt) (hl : l ∈ c) => fine_lit (mdOk_all hm2).2.1 hn hc hl
      unfold hldAns
      rw [if_neg (by simp [hm2]), if_neg (by simp [ho2])]
      have hn16 : (firstVars (termsOf c)).length ≤ 2000 := by have := firstVars_len (termsOf c); omega
      generalize hnames : firstVars (termsOf c) = names at *
      cases h8 : decide ((names.length : Int) > 8) with
      | true =>
        rw [if_pos (by simp at h8; omega)]
        repeat' (first | refine awp_seq_k fun K hK => ?_ | ((first | refine awp_region_k (by kernel_rfl) fun R hR => ?_ | refine awp_draw mixed (by kernel_rfl) (by kernel_rfl) fun R hR => ?_); simp only [go_sem, hm2, ho2, beq_self_eq_true, bne_self_eq_false, h8]) | ((first | (refine hR _ ?_; clear hR R) | refine awp_skip ?_ | refine awp_exit ?_ | refine awp_ret ?_); try simp only [thenA, inBlockA, reduceIte, reduceCtorEq, Nat.reduceEqDiff, if_false, if_true]) | ((first | refine hK _ ?_ | (clear hK K; first | refine hK _ ?_ | (clear hK K; first | refine hK _ ?_ | (clear hK K; first | refine hK _ ?_ | (clear hK K; refine hK _ ?_))))); clear hK K) | refine awp_true rfl rfl ?_ | refine awp_false rfl rfl ?_ | refine awp_block ?_ | ((first | refine CallK.pure (enter28) (mdCheck_tri g sz tb hl hr) ?_ ?_ | refine CallD.pure (enter28) (mdCheck_tri g sz tb hl hr) ?_ ?_ | refine CallK.pure (enter36) (hcc) ?_ ?_ | refine CallD.pure (enter36) (hcc) ?_ ?_ | refine CallK.pure (enter75) (terms_tri c hcl) ?_ ?_ | refine CallD.pure (enter75) (terms_tri c hcl) ?_ ?_ | refine CallK.pure (enter70) (hst) ?_ ?_ | refine CallD.pure (enter70) (hst) ?_ ?_); (focus first | ((repeat (first | exact trivial | refine ⟨(by first | exact Or.inl rfl | exact Or.inr rfl), ?_⟩)); done) | (simp only [coL, AV.dat, true_or, or_true, AV.d.injEq, go_sem]; done)); simp only [go_sem, hm2, ho2, beq_self_eq_true, bne_self_eq_false, h8]) | refine And.intro (by first | ((repeat' first | omega | exact trivial | rfl | assumption | (intro a e; subst e; rfl) | exact map_sz fun a => (by simp only [go_sem]) | refine And.intro ?_ ?_); done) | fail) ?_ | fail)
        (first | refine ret_pure ?_ ?_ ?_ | refine ret_ro ?_ ?_ ?_); focus exact (by simp only [Try.results19, resOkL, resOk, Try.ntmps19, List.toList_toArray]; first | decide | (simp only [go_sem]; done) | (simp only [go_sem]; and_intros <;> first | omega | rfl | decide))
        rotate_left; focus exact (by repeat (first | exact Fr.rfl' _ _ | assumption | refine Fr.updk ?_ (by omega) _))
        simp only [resA, resV, Try.results19, go_sem]
        all_goals try (first | exact Co.t2 (.dat rfl) (.dat rfl) | exact Co.t3 (.dat rfl) (.dat rfl) (.dat rfl))
      | false =>
        have h8' : ¬ names.length > 8 := by simp at h8; omega
        rw [if_neg h8']
        obtain ⟨m1, m2, m3, _⟩ := mdOk_all hm2
        have pw := power_tri (n := sz) (by omega) (by omega) (j := names.length) (by omega)
        obtain ⟨p1, p2⟩ := pw_le (n := sz) (by omega) (by omega) (i := names.length) (by omega)
        obtain ⟨N, hN⟩ : ∃ N : Nat, sz ^ names.length = (N : Int) := ⟨(sz ^ names.length).toNat, by omega⟩
        rw [hN] at pw p1 p2
        have hC := hC N (by rw [hN]; rfl)
        repeat' (first | refine awp_seq_k fun K hK => ?_ | ((first | refine awp_region_k (by kernel_rfl) fun R hR => ?_ | refine awp_draw mixed (by kernel_rfl) (by kernel_rfl) fun R hR => ?_); simp only [go_sem, hm2, ho2, beq_self_eq_true, bne_self_eq_false, h8]) | ((first | (refine hR _ ?_; clear hR R) | refine awp_skip ?_ | refine awp_exit ?_ | refine awp_ret ?_); try simp only [thenA, inBlockA, reduceIte, reduceCtorEq, Nat.reduceEqDiff, if_false, if_true]) | ((first | refine hK _ ?_ | (clear hK K; first | refine hK _ ?_ | (clear hK K; first | refine hK _ ?_ | (clear hK K; first | refine hK _ ?_ | (clear hK K; refine hK _ ?_))))); clear hK K) | refine awp_true rfl rfl ?_ | refine awp_false rfl rfl ?_ | refine awp_block ?_ | ((first | refine CallK.pure (enter28) (mdCheck_tri g sz tb hl hr) ?_ ?_ | refine CallD.pure (enter28) (mdCheck_tri g sz tb hl hr) ?_ ?_ | refine CallK.pure (enter36) (hcc) ?_ ?_ | refine CallD.pure (enter36) (hcc) ?_ ?_ | refine CallK.pure (enter75) (terms_tri c hcl) ?_ ?_ | refine CallD.pure (enter75) (terms_tri c hcl) ?_ ?_ | refine CallK.pure (enter70) (hst) ?_ ?_ | refine CallD.pure (enter70) (hst) ?_ ?_ | refine CallK.pure (enter76) (pw) ?_ ?_ | refine CallD.pure (enter76) (pw) ?_ ?_); (focus first | ((repeat (first | exact trivial | refine ⟨(by first | exact Or.inl rfl | exact Or.inr rfl), ?_⟩)); done) | (simp only [coL, AV.dat, true_or, or_true, AV.d.injEq, go_sem]; done)); simp only [go_sem, hm2, ho2, beq_self_eq_true, bne_self_eq_false, h8]) | refine And.intro (by first | ((repeat' first | omega | exact trivial | rfl | assumption | (intro a e; subst e; rfl) | exact map_sz fun a => (by simp only [go_sem]) | refine And.intro ?_ ?_); done) | fail) ?_ | fail)
        refine awp_loop (fun σ => ∃ n : Nat, σ.t 2 = .d (clDV c) ∧ σ.t 4 = .ptr (k, 1) 0 ∧ σ.t 9 = .d (.sl (names.map iD)) ∧ σ.t 37 = iA N ∧ σ.t 38 = iA n ∧ σ.h (k, 1) = some (.cells 39 [iA sz, .d (.sl (tb.map gI))]) ∧ Fr k h0 σ.h ∧ k < σ.k ∧ n ≤ N ∧ holdsF sz tb c names N n = holdsC sz tb c) (fun σ => N - (intOf' (σ.t 38)).toNat) ?_ ?_
        · refine ⟨0, ?_⟩
          simp only [go_sem]
          and_intros; all_goals try (first | rfl | omega | assumption | ((repeat (first | exact Fr.rfl' _ _ | assumption | refine Fr.updk ?_ (by omega) _)); done))
          exact hC.symm
        · rintro σ ⟨n, s2, s4, s9, s37, s38, sh, hF, hk, hn, hv⟩
          have hne := ltne hk
          rcases Nat.lt_or_ge n N with hlt | hge
          · have hz : (n : Int) < (N : Int) := by omega
            rw [holdsF_at hlt] at hv
            repeat' (first | refine awp_seq_k fun K hK => ?_ | ((first | refine awp_region_k (by kernel_rfl) fun R hR => ?_ | refine awp_draw mixed (by kernel_rfl) (by kernel_rfl) fun R hR => ?_); simp only [go_sem, s2, s4, s9, s37, s38, sh, hz, hne]) | ((first | (refine hR _ ?_; clear hR R) | refine awp_skip ?_ | refine awp_exit ?_ | refine awp_ret ?_); try simp only [thenA, inBlockA, reduceIte, reduceCtorEq, Nat.reduceEqDiff, if_false, if_true]) | ((first | refine hK _ ?_ | (clear hK K; first | refine hK _ ?_ | (clear hK K; first | refine hK _ ?_ | (clear hK K; first | refine hK _ ?_ | (clear hK K; refine hK _ ?_))))); clear hK K) | refine awp_true rfl rfl ?_ | refine awp_false rfl rfl ?_ | refine awp_block ?_ | refine And.intro (by first | ((repeat' first | omega | exact trivial | rfl | assumption | (intro a e; subst e; rfl) | exact map_sz fun a => (by simp only [go_sem]) | refine And.intro ?_ ?_); done) | fail) ?_ | fail)
            refine awp_loop (fun τ => ∃ (i : Nat) (ni : Int) (es : List (Int × DV)), τ.t 2 = .d (clDV c) ∧ τ.t 4 = .ptr (k, 1) 0 ∧ τ.t 9 = .d (.sl (names.map iD)) ∧ τ.t 37 = iA N ∧ τ.t 38 = iA n ∧ τ.t 11 = .ptr (σ.k + 1 + 1, 1) 0 ∧ τ.t 42 = .d (.sl (names.map iD)) ∧ τ.t 43 = iA names.length ∧ τ.t 44 = iA i ∧ τ.t 10 = iA ni ∧
              τ.h (k, 1) = some (.cells 39 [iA sz, .d (.sl (tb.map gI))]) ∧ τ.h (σ.k + 1 + 1, 1) = some (.cells 104 [.map (σ.k + 1 + 1, 0)]) ∧ τ.h (σ.k + 1 + 1, 0) = some (.map es) ∧ Fr k h0 τ.h ∧ σ.k + 1 + 1 < τ.k ∧ i ≤ names.length ∧ 0 ≤ ni ∧ ni ≤ n ∧
              (∀ v ∈ names.take i, getM v es = some (iD (dig sz names n v))) ∧ (∀ v ∈ names.drop i, dig sz (names.drop i) ni v = dig sz names n v)) (fun τ => names.length - (intOf' (τ.t 44)).toNat) ?_ ?_
            · refine ⟨0, n, [], ?_⟩
              simp only [go_sem, s2, s4, s9, s37, s38, sh, hne, List.drop_zero, List.take_zero]
              and_intros; all_goals try (first | rfl | omega | assumption | ((repeat (first | exact Fr.rfl' _ _ | assumption | refine Fr.updk ?_ (by omega) _)); done))
            · rintro τ ⟨i, ni, es, u2, u4, u9, u37, u38, u11, u42, u43, u44, u10, uh, ub, um, uF, uk, ui, u0, un, uI, uD⟩
              have hne' := ltne (show k < τ.k by omega)
              have hne2 := ltne uk
              have hne3 := ltne (show k < σ.k + 1 + 1 by omega)
              rcases Nat.lt_or_ge i names.length with hlt' | hge'
              · have hz' : (i : Int) < (names.length : Int) := by omega
                have e1 : (names.map iD).getD i default = iD names[i] := nth_map iD hlt' _
                have hszne : ¬ (sz = 0) := by omega
                obtain ⟨d1, d2⟩ := tdiv_in u0 m2
                repeat' (first | refine awp_seq_k fun K hK => ?_ | ((first | refine awp_region_k (by kernel_rfl) fun R hR => ?_ | refine awp_draw mixed (by kernel_rfl) (by kernel_rfl) fun R hR => ?_); simp only [go_sem, u2, u4, u9, u11, u42, u43, u44, u10, uh, ub, um, hz', e1, hne', hne2, hne3, hszne, Int.toNat_natCast]) | ((first | (refine hR _ ?_; clear hR R) | refine awp_skip ?_ | refine awp_exit ?_ | refine awp_ret ?_); try simp only [thenA, inBlockA, reduceIte, reduceCtorEq, Nat.reduceEqDiff, if_false, if_true]) | ((first | refine hK _ ?_ | (clear hK K; first | refine hK _ ?_ | (clear hK K; first | refine hK _ ?_ | (clear hK K; first | refine hK _ ?_ | (clear hK K; refine hK _ ?_))))); clear hK K) | refine awp_true rfl rfl ?_ | refine awp_false rfl rfl ?_ | refine awp_block ?_ | refine And.intro (by first | ((repeat' first | omega | exact trivial | rfl | assumption | (intro a e; subst e; rfl) | exact map_sz fun a => (by simp only [go_sem]) | refine And.intro ?_ ?_); done) | fail) ?_ | fail)
                refine ⟨⟨i + 1, ni.tdiv sz, putM names[i] (iD (ni.tmod sz)) es, ?_⟩, ?_⟩
                rotate_left
                · simp only [go_sem, u2, u4, u9, u37, u38, u11, u42, u43, u44, u10, uh, ub, um, hne', hne2, hne3]; omega
                simp only [go_sem, u2, u4, u9, u37, u38, u11, u42, u43, u44, u10, uh, ub, um, hne', hne2, hne3]
                and_intros; all_goals try (first | rfl | omega | assumption | ((repeat (first | exact Fr.rfl' _ _ | assumption | refine Fr.updk ?_ (by omega) _)); done))
                · exact step_I hnd hlt' uI uD
                · exact step_D hnd hlt' uD
              · have hz' : ¬ ((i : Int) < (names.length : Int)) := by omega
                obtain rfl : i = names.length := by omega
                rw [List.take_length] at uI
                have hcf := containsF_lits c (by omega) 79 (enter79) [.ptr (k, 1) 0, .ptr (τ.k + 1, 1) 0] (litO (k, 1) (τ.k + 1, 1) (σ.k + 1 + 1, 1) (σ.k + 1 + 1, 0) sz tb es) (litIn sz tb (dig sz names n)) (fun l hl => by
                  obtain ⟨⟨f1, f2⟩, f3, f4⟩ := hfine n (by omega) l hl
                  exact holds2_tri hm2 (k, 1) (τ.k + 1, 1) (σ.k + 1 + 1, 1) (σ.k + 1 + 1, 0) es (dig sz names n) l f1 f3 (fun x hx hv => uI _ (f2 x hx hv)) (fun x hx hv => uI _ (f4 x hx hv)))
                cases ha : c.any (litIn sz tb (dig sz names n)) with
                | true =>
                  rw [ha] at hcf hv
                  rw [Bool.true_and] at hv
                  repeat' (first | refine awp_seq_k fun K hK => ?_ | ((first | refine awp_region_k (by kernel_rfl) fun R hR => ?_ | refine awp_draw mixed (by kernel_rfl) (by kernel_rfl) fun R hR => ?_); simp only [go_sem, u2, u4, u9, u37, u38, u11, u42, u43, u44, u10, uh, ub, um, hz', hne', hne2, hne3]) | ((first | (refine hR _ ?_; clear hR R) | refine awp_skip ?_ | refine awp_exit ?_ | refine awp_ret ?_); try simp only [thenA, inBlockA, reduceIte, reduceCtorEq, Nat.reduceEqDiff, if_false, if_true]) | ((first | refine hK _ ?_ | (clear hK K; first | refine hK _ ?_ | (clear hK K; first | refine hK _ ?_ | (clear hK K; first | refine hK _ ?_ | (clear hK K; refine hK _ ?_))))); clear hK K) | refine awp_true rfl rfl ?_ | refine awp_false rfl rfl ?_ | refine awp_block ?_ | ((first | refine CallK.look (enter78) (hcf) ?_ (roLit (k := τ.k + 1 + 1) (by simp only; omega) (by simp only; omega) (by simp only; omega) (by simp only; omega) (by simp only [go_sem, uh, hne', hne2, hne3]) (by simp only [go_sem, uh, hne', hne2, hne3]) (by simp only [go_sem, ub, hne', hne2, hne3]) (by simp only [go_sem, um, hne', hne2, hne3])) (Fr.rfl' _ _) ?_ | refine CallD.look (enter78) (hcf) ?_ (roLit (k := τ.k + 1 + 1) (by simp only; omega) (by simp only; omega) (by simp only; omega) (by simp only; omega) (by simp only [go_sem, uh, hne', hne2, hne3]) (by simp only [go_sem, uh, hne', hne2, hne3]) (by simp only [go_sem, ub, hne', hne2, hne3]) (by simp only [go_sem, um, hne', hne2, hne3])) (Fr.rfl' _ _) (by first | assumption | exact List.cons_ne_nil _ _) ?_); (focus first | ((repeat (first | exact trivial | refine ⟨(by first | exact Or.inl rfl | exact Or.inr rfl), ?_⟩)); done) | (simp only [coL, AV.dat, true_or, or_true, AV.d.injEq, go_sem]; done)); simp only [go_sem, u2, u4, u9, u37, u38, u11, u42, u43, u44, u10, uh, ub, um, hz', hne', hne2, hne3]) | refine And.intro (by first | ((repeat' first | omega | exact trivial | rfl | assumption | (intro a e; subst e; rfl) | exact map_sz fun a => (by simp only [go_sem]) | refine And.intro ?_ ?_); done) | fail) ?_ | fail)
                  refine ⟨⟨n + 1, ?_⟩, ?_⟩
                  rotate_left
                  · simp only [go_sem, u2, u4, u9, u37, u38, uh, hne', s38]; omega
                  simp only [go_sem, u2, u4, u9, u37, u38, uh, hne', s38]
                  and_intros; all_goals try (first | rfl | omega | assumption | ((repeat (first | exact Fr.rfl' _ _ | assumption | refine Fr.updk ?_ (by omega) _)); done))
                | false =>
                  rw [ha] at hcf hv
                  rw [Bool.false_and] at hv
                  repeat' (first | refine awp_seq_k fun K hK => ?_ | ((first | refine awp_region_k (by kernel_rfl) fun R hR => ?_ | refine awp_draw mixed (by kernel_rfl) (by kernel_rfl) fun R hR => ?_); simp only [go_sem, u2, u4, u9, u37, u38, u11, u42, u43, u44, u10, uh, ub, um, hz', hne', hne2, hne3]) | ((first | (refine hR _ ?_; clear hR R) | refine awp_skip ?_ | refine awp_exit ?_ | refine awp_ret ?_); try simp only [thenA, inBlockA, reduceIte, reduceCtorEq, Nat.reduceEqDiff, if_false, if_true]) | ((first | refine hK _ ?_ | (clear hK K; first | refine hK _ ?_ | (clear hK K; first | refine hK _ ?_ | (clear hK K; first | refine hK _ ?_ | (clear hK K; refine hK _ ?_))))); clear hK K) | refine awp_true rfl rfl ?_ | refine awp_false rfl rfl ?_ | refine awp_block ?_ | ((first | refine CallK.look (enter78) (hcf) ?_ (roLit (k := τ.k + 1 + 1) (by simp only; omega) (by simp only; omega) (by simp only; omega) (by simp only; omega) (by simp only [go_sem, uh, hne', hne2, hne3]) (by simp only [go_sem, uh, hne', hne2, hne3]) (by simp only [go_sem, ub, hne', hne2, hne3]) (by simp only [go_sem, um, hne', hne2, hne3])) (Fr.rfl' _ _) ?_ | refine CallD.look (enter78) (hcf) ?_ (roLit (k := τ.k + 1 + 1) (by simp only; omega) (by simp only; omega) (by simp only; omega) (by simp only; omega) (by simp only [go_sem, uh, hne', hne2, hne3]) (by simp only [go_sem, uh, hne', hne2, hne3]) (by simp only [go_sem, ub, hne', hne2, hne3]) (by simp only [go_sem, um, hne', hne2, hne3])) (Fr.rfl' _ _) (by first | assumption | exact List.cons_ne_nil _ _) ?_); (focus first | ((repeat (first | exact trivial | refine ⟨(by first | exact Or.inl rfl | exact Or.inr rfl), ?_⟩)); done) | (simp only [coL, AV.dat, true_or, or_true, AV.d.injEq, go_sem]; done)); simp only [go_sem, u2, u4, u9, u37, u38, u11, u42, u43, u44, u10, uh, ub, um, hz', hne', hne2, hne3]) | refine And.intro (by first | ((repeat' first | omega | exact trivial | rfl | assumption | (intro a e; subst e; rfl) | exact map_sz fun a => (by simp only [go_sem]) | refine And.intro ?_ ?_); done) | fail) ?_ | fail)
                  rw [← hv]
                  (first | refine ret_pure ?_ ?_ ?_ | refine ret_ro ?_ ?_ ?_); focus exact (by simp only [Try.results19, resOkL, resOk, Try.ntmps19, List.toList_toArray]; first | decide | (simp only [go_sem]; done) | (simp only [go_sem]; and_intros <;> first | omega | rfl | decide))
                  rotate_left; focus exact (by repeat (first | exact Fr.rfl' _ _ | assumption | refine Fr.updk ?_ (by omega) _))
                  simp only [resA, resV, Try.results19, go_sem]
                  all_goals try (first | exact Co.t2 (.dat rfl) (.dat rfl) | exact Co.t3 (.dat rfl) (.dat rfl) (.dat rfl))
          · have hz : ¬ ((n : Int) < (N : Int)) := by omega
            rw [holdsF_end hge] at hv
            repeat' (first | refine awp_seq_k fun K hK => ?_ | ((first | refine awp_region_k (by kernel_rfl) fun R hR => ?_ | refine awp_draw mixed (by kernel_rfl) (by kernel_rfl) fun R hR => ?_); simp only [go_sem, s37, s38, hz, hne]) | ((first | (refine hR _ ?_; clear hR R) | refine awp_skip ?_ | refine awp_exit ?_ | refine awp_ret ?_); try simp only [thenA, inBlockA, reduceIte, reduceCtorEq, Nat.reduceEqDiff, if_false, if_true]) | ((first | refine hK _ ?_ | (clear hK K; first | refine hK _ ?_ | (clear hK K; first | refine hK _ ?_ | (clear hK K; first | refine hK _ ?_ | (clear hK K; refine hK _ ?_))))); clear hK K) | refine awp_true rfl rfl ?_ | refine awp_false rfl rfl ?_ | refine awp_block ?_ | refine And.intro (by first | ((repeat' first | omega | exact trivial | rfl | assumption | (intro a e; subst e; rfl) | exact map_sz fun a => (by simp only [go_sem]) | refine And.intro ?_ ?_); done) | fail) ?_ | fail)
            rw [← hv]
            (first | refine ret_pure ?_ ?_ ?_ | refine ret_ro ?_ ?_ ?_); focus exact (by simp only [Try.results19, resOkL, resOk, Try.ntmps19, List.toList_toArray]; first | decide | (simp only [go_sem]; done) | (simp only [go_sem]; and_intros <;> first | omega | rfl | decide))
            rotate_left; focus exact (by repeat (first | exact Fr.rfl' _ _ | assumption | refine Fr.updk ?_ (by omega) _))
            simp only [resA, resV, Try.results19, go_sem]
            all_goals try (first | exact Co.t2 (.dat rfl) (.dat rfl) | exact Co.t3 (.dat rfl) (.dat rfl) (.dat rfl))
end Go.Proofs.Ytmeekpinkfpnhaa
namespace Go.Proofs.Ytmeekpinkfpnhaa
open Go.RowKit
set_option maxHeartbeats 4000000 in
set_option maxRecDepth 20000 in
theorem checkModel_tri (g : List Int) (sz : Int) (tb : List (List Int)) (hl : tb.length ≤ 4000000) (hr : ∀ r ∈ tb, r.length ≤ 4000000) : Tri Try.prog 20 [.d (sgDV g), .d (mdDV sz tb)] (pure' (iA (mdOk g sz tb))) := by
  refine tri_enter Try.func20 rfl Try.ntmps20 (by simp only [List.length_cons, List.length_nil]; omega) fun w0 h0 k hrd hwr => ?_
  cases hs : sigOk g == 0 with
  | false =>
    have hs' : (sigOk g != 0) = true := by simpa using hs
    have hv : mdOk g sz tb = sigOk g := by unfold mdOk; rw [if_pos (by simpa using hs)]
    repeat' (first | refine awp_seq_k fun K hK => ?_ | ((first | refine awp_region_k (by kernel_rfl) fun R hR => ?_ | refine awp_draw mixed (by kernel_rfl) (by kernel_rfl) fun R hR => ?_); simp only [go_sem, hs']) | ((first | (refine hR _ ?_; clear hR R) | refine awp_skip ?_ | refine awp_exit ?_ | refine awp_ret ?_); try simp only [thenA, inBlockA, reduceIte, reduceCtorEq, Nat.reduceEqDiff, if_false, if_true]) | ((first | refine hK _ ?_ | (clear hK K; first | refine hK _ ?_ | (clear hK K; first | refine hK _ ?_ | (clear hK K; first | refine hK _ ?_ | (clear hK K; refine hK _ ?_))))); clear hK K) | refine awp_true rfl rfl ?_ | refine awp_false rfl rfl ?_ | refine awp_block ?_ | ((first | refine CallK.pure (enter54) (checkSig_tri g) ?_ ?_ | refine CallD.pure (enter54) (checkSig_tri g) ?_ ?_); (focus first | ((repeat (first | exact trivial | refine ⟨(by first | exact Or.inl rfl | exact Or.inr rfl), ?_⟩)); done) | (simp only [coL, AV.dat, true_or, or_true, AV.d.injEq, go_sem]; done)); simp only [go_sem, hs']) | refine And.intro (by first | ((repeat' first | omega | exact trivial | rfl | assumption | (intro a e; subst e; rfl) | exact map_sz fun a => (by simp only [go_sem]) | refine And.intro ?_ ?_); done) | fail) ?_ | fail)
    (first | refine ret_pure ?_ ?_ ?_ | refine ret_ro ?_ ?_ ?_); focus exact (by simp only [Try.results20, resOkL, resOk, Try.ntmps20, List.toList_toArray]; first | decide | (simp only [go_sem]; done) | (simp only [go_sem]; and_intros <;> first | omega | rfl | decide))
    rotate_left; focus exact (by repeat (first | exact Fr.rfl' _ _ | assumption | refine Fr.updk ?_ (by omega) _))
    simp only [resA, resV, Try.results20, go_sem]
    all_goals try (first | exact Co.t2 (.dat rfl) (.dat rfl) | exact Co.t3 (.dat rfl) (.dat rfl) (.dat rfl))
    exact co_i hv.symm
  | true =>
    have hs2 : sigOk g = 0 := by simpa using hs
    have hlen := sig_len hs2
    by_cases hsz : sz < 1 ∨ sz > 3
    · have hv : mdOk g sz tb = 3 := by unfold mdOk; rw [if_neg (by simp [hs2]), if_pos hsz]
      have hbt : btw sz 1 3 = false := by unfold btw; simp; omega
      repeat' (first | refine awp_seq_k fun K hK => ?_ | ((first | refine awp_region_k (by kernel_rfl) fun R hR => ?_ | refine awp_draw mixed (by kernel_rfl) (by kernel_rfl) fun R hR => ?_); simp only [go_sem, hs2, bne_self_eq_false, hbt]) | ((first | (refine hR _ ?_; clear hR R) | refine awp_skip ?_ | refine awp_exit ?_ | refine awp_ret ?_); try simp only [thenA, inBlockA, reduceIte, reduceCtorEq, Nat.reduceEqDiff, if_false, if_true]) | ((first | refine hK _ ?_ | (clear hK K; first | refine hK _ ?_ | (clear hK K; first | refine hK _ ?_ | (clear hK K; first | refine hK _ ?_ | (clear hK K; refine hK _ ?_))))); clear hK K) | refine awp_true rfl rfl ?_ | refine awp_false rfl rfl ?_ | refine awp_block ?_ | ((first | refine CallK.pure (enter54) (checkSig_tri g) ?_ ?_ | refine CallD.pure (enter54) (checkSig_tri g) ?_ ?_ | refine CallK.pure (enter80) (between_tri sz 1 3) ?_ ?_ | refine CallD.pure (enter80) (between_tri sz 1 3) ?_ ?_); (focus first | ((repeat (first | exact trivial | refine ⟨(by first | exact Or.inl rfl | exact Or.inr rfl), ?_⟩)); done) | (simp only [coL, AV.dat, true_or, or_true, AV.d.injEq, go_sem]; done)); simp only [go_sem, hs2, bne_self_eq_false, hbt]) | refine And.intro (by first | ((repeat' first | omega | exact trivial | rfl | assumption | (intro a e; subst e; rfl) | exact map_sz fun a => (by simp only [go_sem]) | refine And.intro ?_ ?_); done) | fail) ?_ | fail)
      (first | refine ret_pure ?_ ?_ ?_ | refine ret_ro ?_ ?_ ?_); focus exact (by simp only [Try.results20, resOkL, resOk, Try.ntmps20, List.toList_toArray]; first | decide | (simp only [go_sem]; done) | (simp only [go_sem]; and_intros <;> first | omega | rfl | decide))
      rotate_left; focus exact (by repeat (first | exact Fr.rfl' _ _ | assumption | refine Fr.updk ?_ (by omega) _))
      simp only [resA, resV, Try.results20, go_sem]
      all_goals try (first | exact Co.t2 (.dat rfl) (.dat rfl) | exact Co.t3 (.dat rfl) (.dat rfl) (.dat rfl))
      exact co_i hv.symm
    · have hbt : btw sz 1 3 = true := by unfold btw; simp; omega
      cases h3 : ((tb.length : Int) != (g.length : Int)) with
      | true =>
        have hv : mdOk g sz tb = 1 := by unfold mdOk; rw [if_neg (by simp [hs2]), if_neg hsz, if_pos (by simp at h3; omega)]
        repeat' (first | refine awp_seq_k fun K hK => ?_ | ((first | refine awp_region_k (by kernel_rfl) fun R hR => ?_ | refine awp_draw mixed (by kernel_rfl) (by kernel_rfl) fun R hR => ?_); simp only [go_sem, hs2, bne_self_eq_false, hbt, h3]) | ((first | (refine hR _ ?_; clear hR R) | refine awp_skip ?_ | refine awp_exit ?_ | refine awp_ret ?_); try simp only [thenA, inBlockA, reduceIte, reduceCtorEq, Nat.reduceEqDiff, if_false, if_true]) | ((first | refine hK _ ?_ | (clear hK K; first | refine hK _ ?_ | (clear hK K; first | refine hK _ ?_ | (clear hK K; first | refine hK _ ?_ | (clear hK K; refine hK _ ?_))))); clear hK K) | refine awp_true rfl rfl ?_ | refine awp_false rfl rfl ?_ | refine awp_block ?_ | ((first | refine CallK.pure (enter54) (checkSig_tri g) ?_ ?_ | refine CallD.pure (enter54) (checkSig_tri g) ?_ ?_ | refine CallK.pure (enter80) (between_tri sz 1 3) ?_ ?_ | refine CallD.pure (enter80) (between_tri sz 1 3) ?_ ?_); (focus first | ((repeat (first | exact trivial | refine ⟨(by first | exact Or.inl rfl | exact Or.inr rfl), ?_⟩)); done) | (simp only [coL, AV.dat, true_or, or_true, AV.d.injEq, go_sem]; done)); simp only [go_sem, hs2, bne_self_eq_false, hbt, h3]) | refine And.intro (by first | ((repeat' first | omega | exact trivial | rfl | assumption | (intro a e; subst e; rfl) | exact map_sz fun a => (by simp only [go_sem]) | refine And.intro ?_ ?_); done) | fail) ?_ | fail)
        (first | refine ret_pure ?_ ?_ ?_ | refine ret_ro ?_ ?_ ?_); focus exact (by simp only [Try.results20, resOkL, resOk, Try.ntmps20, List.toList_toArray]; first | decide | (simp only [go_sem]; done) | (simp only [go_sem]; and_intros <;> first | omega | rfl | decide))
        rotate_left; focus exact (by repeat (first | exact Fr.rfl' _ _ | assumption | refine Fr.updk ?_ (by omega) _))
        simp only [resA, resV, Try.results20, go_sem]
        all_goals try (first | exact Co.t2 (.dat rfl) (.dat rfl) | exact Co.t3 (.dat rfl) (.dat rfl) (.dat rfl))
        exact co_i hv.symm
      | false =>
        have h3' : tb.length = g.length := by simp at h3; omega
        have hv : mdOk g sz tb = if rowsBad sz g tb = true then 1 else if (tb.any fun r => r.any (outOf sz)) = true then 5 else 0 := by unfold mdOk; rw [if_neg (by simp [hs2]), if_neg hsz, if_neg (by simp [h3'])]
        repeat' (first | refine awp_seq_k fun K hK => ?_ | ((first | refine awp_region_k (by kernel_rfl) fun R hR => ?_ | refine awp_draw mixed (by kernel_rfl) (by kernel_rfl) fun R hR => ?_); simp only [go_sem, hs2, bne_self_eq_false, hbt, h3]) | ((first | (refine hR _ ?_; clear hR R) | refine awp_skip ?_ | refine awp_exit ?_ | refine awp_ret ?_); try simp only [thenA, inBlockA, reduceIte, reduceCtorEq, Nat.reduceEqDiff, if_false, if_true]) | ((first | refine hK _ ?_ | (clear hK K; first | refine hK _ ?_ | (clear hK K; first | refine hK _ ?_ | (clear hK K; first | refine hK _ ?_ | (clear hK K; refine hK _ ?_))))); clear hK K) | refine awp_true rfl rfl ?_ | refine awp_false rfl rfl ?_ | refine awp_block ?_ | ((first | refine CallK.pure (enter54) (checkSig_tri g) ?_ ?_ | refine CallD.pure (enter54) (checkSig_tri g) ?_ ?_ | refine CallK.pure (enter80) (between_tri sz 1 3) ?_ ?_ | refine CallD.pure (enter80) (between_tri sz 1 3) ?_ ?_); (focus first | ((repeat (first | exact trivial | refine ⟨(by first | exact Or.inl rfl | exact Or.inr rfl), ?_⟩)); done) | (simp only [coL, AV.dat, true_or, or_true, AV.d.injEq, go_sem]; done)); simp only [go_sem, hs2, bne_self_eq_false, hbt, h3]) | refine And.intro (by first | ((repeat' first | omega | exact trivial | rfl | assumption | (intro a e; subst e; rfl) | exact map_sz fun a => (by simp only [go_sem]) | refine And.intro ?_ ?_); done) | fail) ?_ | fail)
        refine awp_loop (fun σ => ∃ i : Nat, σ.t 2 = .ptr (k, 0) 0 ∧ σ.t 3 = .ptr (k, 1) 0 ∧ σ.t 6 = iA i ∧ σ.h (k, 0) = some (.cells 24 [.d (.sl (g.map iD))]) ∧ σ.h (k, 1) = some (.cells 39 [iA sz, .d (.sl (tb.map gI))]) ∧ Fr k h0 σ.h ∧ k < σ.k ∧ i ≤ tb.length ∧ rowsBad sz (g.drop i) (tb.drop i) = rowsBad sz g tb) (fun σ => tb.length - (intOf' (σ.t 6)).toNat) ?_ ?_
        · refine ⟨0, ?_⟩
          simp only [go_sem, List.drop_zero]
          and_intros; all_goals try (first | rfl | omega | assumption | ((repeat (first | exact Fr.rfl' _ _ | assumption | refine Fr.updk ?_ (by omega) _)); done))
        · rintro σ ⟨i, s2, s3, s6, sh, sh', hF, hk, hi, hb⟩
          have hne := ltne hk
          rcases Nat.lt_or_ge i tb.length with hlt | hge
          · have hlt' : i < g.length := by omega
            have hz : (i : Int) < (tb.length : Int) := by omega
            have hz' : (i : Int) < (g.length : Int) := by omega
            have e1 : (tb.map gI).getD i default = gI tb[i] := nth_map gI hlt _
            have e2 : (g.map iD).getD i default = iD g[i] := nth_map iD hlt' _
            obtain ⟨g1, g2⟩ := sig_each hs2 g[i] (List.getElem_mem hlt')
            have pw := powerOf_tri (n := sz) (by omega) (by omega) (j := g[i].toNat) (by omega)
            rw [show ((g[i].toNat : Nat) : Int) = g[i] by omega] at pw
            rw [rowsBad_at hlt' hlt] at hb
            cases hc : ((tb[i].length : Int) != sz ^ g[i].toNat) with
            | true =>
              rw [hc, Bool.true_or] at hb
              repeat' (first | refine awp_seq_k fun K hK => ?_ | ((first | refine awp_region_k (by kernel_rfl) fun R hR => ?_ | refine awp_draw mixed (by kernel_rfl) (by kernel_rfl) fun R hR => ?_); simp only [go_sem, s2, s3, s6, sh, sh', hz, hz', e1, e2, hne, hc, Int.toNat_natCast]) | ((first | (refine hR _ ?_; clear hR R) | refine awp_skip ?_ | refine awp_exit ?_ | refine awp_ret ?_); try simp only [thenA, inBlockA, reduceIte, reduceCtorEq, Nat.reduceEqDiff, if_false, if_true]) | ((first | refine hK _ ?_ | (clear hK K; first | refine hK _ ?_ | (clear hK K; first | refine hK _ ?_ | (clear hK K; first | refine hK _ ?_ | (clear hK K; refine hK _ ?_))))); clear hK K) | refine awp_true rfl rfl ?_ | refine awp_false rfl rfl ?_ | refine awp_block ?_ | ((first | refine CallK.pure (enter81) (pw) ?_ ?_ | refine CallD.pure (enter81) (pw) ?_ ?_); (focus first | ((repeat (first | exact trivial | refine ⟨(by first | exact Or.inl rfl | exact Or.inr rfl), ?_⟩)); done) | (simp only [coL, AV.dat, true_or, or_true, AV.d.injEq, go_sem]; done)); simp only [go_sem, s2, s3, s6, sh, sh', hz, hz', e1, e2, hne, hc, Int.toNat_natCast]) | refine And.intro (by first | ((repeat' first | omega | exact trivial | rfl | assumption | (intro a e; subst e; rfl) | exact map_sz fun a => (by simp only [go_sem]) | refine And.intro ?_ ?_); done) | fail) ?_ | fail)
              (first | refine ret_pure ?_ ?_ ?_ | refine ret_ro ?_ ?_ ?_); focus exact (by simp only [Try.results20, resOkL, resOk, Try.ntmps20, List.toList_toArray]; first | decide | (simp only [go_sem]; done) | (simp only [go_sem]; and_intros <;> first | omega | rfl | decide))
              rotate_left; focus exact (by repeat (first | exact Fr.rfl' _ _ | assumption | refine Fr.updk ?_ (by omega) _))
              simp only [resA, resV, Try.results20, go_sem]
              all_goals try (first | exact Co.t2 (.dat rfl) (.dat rfl) | exact Co.t3 (.dat rfl) (.dat rfl) (.dat rfl))
              exact co_i (by rw [hv, ← hb]; rfl)
            | false =>
              rw [hc, Bool.false_or] at hb
              repeat' (first | refine awp_seq_k fun K hK => ?_ | ((first | refine awp_region_k (by kernel_rfl) fun R hR => ?_ | refine awp_draw mixed (by kernel_rfl) (by kernel_rfl) fun R hR => ?_); simp only [go_sem, s2, s3, s6, sh, sh', hz, hz', e1, e2, hne, hc, Int.toNat_natCast]) | ((first | (refine hR _ ?_; clear hR R) | refine awp_skip ?_ | refine awp_exit ?_ | refine awp_ret ?_); try simp only [thenA, inBlockA, reduceIte, reduceCtorEq, Nat.reduceEqDiff, if_false, if_true]) | ((first | refine hK _ ?_ | (clear hK K; first | refine hK _ ?_ | (clear hK K; first | refine hK _ ?_ | (clear hK K; first | refine hK _ ?_ | (clear hK K; refine hK _ ?_))))); clear hK K) | refine awp_true rfl rfl ?_ | refine awp_false rfl rfl ?_ | refine awp_block ?_ | ((first | refine CallK.pure (enter81) (pw) ?_ ?_ | refine CallD.pure (enter81) (pw) ?_ ?_); (focus first | ((repeat (first | exact trivial | refine ⟨(by first | exact Or.inl rfl | exact Or.inr rfl), ?_⟩)); done) | (simp only [coL, AV.dat, true_or, or_true, AV.d.injEq, go_sem]; done)); simp only [go_sem, s2, s3, s6, sh, sh', hz, hz', e1, e2, hne, hc, Int.toNat_natCast]) | refine And.intro (by first | ((repeat' first | omega | exact trivial | rfl | assumption | (intro a e; subst e; rfl) | exact map_sz fun a => (by simp only [go_sem]) | refine And.intro ?_ ?_); done) | fail) ?_ | fail)
              refine ⟨⟨i + 1, ?_⟩, ?_⟩
              rotate_left
              · simp only [go_sem, s2, s3, s6, sh, sh', hne]; omega
              simp only [go_sem, s2, s3, s6, sh, sh', hne]
              and_intros; all_goals try (first | rfl | omega | assumption | ((repeat (first | exact Fr.rfl' _ _ | assumption | refine Fr.updk ?_ (by omega) _)); done))
          · have hz : ¬ ((i : Int) < (tb.length : Int)) := by omega
            rw [rowsBad_end hge] at hb
            rw [← hb] at hv
            simp only [Bool.false_eq_true, if_false] at hv
            repeat' (first | refine awp_seq_k fun K hK => ?_ | ((first | refine awp_region_k (by kernel_rfl) fun R hR => ?_ | refine awp_draw mixed (by kernel_rfl) (by kernel_rfl) fun R hR => ?_); simp only [go_sem, s3, s6, sh', hz, hne]) | ((first | (refine hR _ ?_; clear hR R) | refine awp_skip ?_ | refine awp_exit ?_ | refine awp_ret ?_); try simp only [thenA, inBlockA, reduceIte, reduceCtorEq, Nat.reduceEqDiff, if_false, if_true]) | ((first | refine hK _ ?_ | (clear hK K; first | refine hK _ ?_ | (clear hK K; first | refine hK _ ?_ | (clear hK K; first | refine hK _ ?_ | (clear hK K; refine hK _ ?_))))); clear hK K) | refine awp_true rfl rfl ?_ | refine awp_false rfl rfl ?_ | refine awp_block ?_ | refine And.intro (by first | ((repeat' first | omega | exact trivial | rfl | assumption | (intro a e; subst e; rfl) | exact map_sz fun a => (by simp only [go_sem]) | refine And.intro ?_ ?_); done) | fail) ?_ | fail)
            refine awp_loop (fun σ => ∃ i : Nat, σ.t 3 = .ptr (k, 1) 0 ∧ σ.t 7 = iA i ∧ σ.h (k, 1) = some (.cells 39 [iA sz, .d (.sl (tb.map gI))]) ∧ Fr k h0 σ.h ∧ k < σ.k ∧ i ≤ tb.length ∧ ((tb.drop i).any fun r => r.any (outOf sz)) = tb.any fun r => r.any (outOf sz)) (fun σ => tb.length - (intOf' (σ.t 7)).toNat) ?_ ?_
            · refine ⟨0, ?_⟩
              simp only [go_sem, List.drop_zero, s3, sh']
              and_intros; all_goals try (first | rfl | omega | assumption | ((repeat (first | exact Fr.rfl' _ _ | assumption | refine Fr.updk ?_ (by omega) _)); done))
            · clear s2 s3 s6 sh sh' hF hk hi hne hge hz hb
              rintro τ ⟨i, s3, s7, sh', hF, hk, hi, hb⟩
              have hne := ltne hk
              rcases Nat.lt_or_ge i tb.length with hlt | hge
              · have hz : (i : Int) < (tb.length : Int) := by omega
                have e1 : (tb.map gI).getD i default = gI tb[i] := nth_map gI hlt _
                rw [List.drop_eq_getElem_cons hlt, List.any_cons] at hb
                have hrl := hr _ (List.getElem_mem hlt)
                repeat' (first | refine awp_seq_k fun K hK => ?_ | ((first | refine awp_region_k (by kernel_rfl) fun R hR => ?_ | refine awp_draw mixed (by kernel_rfl) (by kernel_rfl) fun R hR => ?_); simp only [go_sem, s3, s7, sh', hz, e1, hne, Int.toNat_natCast]) | ((first | (refine hR _ ?_; clear hR R) | refine awp_skip ?_ | refine awp_exit ?_ | refine awp_ret ?_); try simp only [thenA, inBlockA, reduceIte, reduceCtorEq, Nat.reduceEqDiff, if_false, if_true]) | ((first | refine hK _ ?_ | (clear hK K; first | refine hK _ ?_ | (clear hK K; first | refine hK _ ?_ | (clear hK K; first | refine hK _ ?_ | (clear hK K; refine hK _ ?_))))); clear hK K) | refine awp_true rfl rfl ?_ | refine awp_false rfl rfl ?_ | refine awp_block ?_ | refine And.intro (by first | ((repeat' first | omega | exact trivial | rfl | assumption | (intro a e; subst e; rfl) | exact map_sz fun a => (by simp only [go_sem]) | refine And.intro ?_ ?_); done) | fail) ?_ | fail)
                refine awp_loop (fun σ => ∃ j : Nat, σ.t 3 = .ptr (k, 1) 0 ∧ σ.t 7 = iA i ∧ σ.t 8 = iA j ∧ σ.h (k, 1) = some (.cells 39 [iA sz, .d (.sl (tb.map gI))]) ∧ Fr k h0 σ.h ∧ k < σ.k ∧ j ≤ tb[i].length ∧ ((tb[i].drop j).any (outOf sz)) = tb[i].any (outOf sz)) (fun σ => tb[i].length - (intOf' (σ.t 8)).toNat) ?_ ?_
                · refine ⟨0, ?_⟩
                  simp only [go_sem, List.drop_zero, s3, s7, sh']
                  and_intros; all_goals try (first | rfl | omega | assumption | ((repeat (first | exact Fr.rfl' _ _ | assumption | refine Fr.updk ?_ (by omega) _)); done))
                · rintro υ ⟨j, u3, u7, u8, uh', uF, uk, uj, ub⟩
                  have hne' := ltne uk
                  rcases Nat.lt_or_ge j tb[i].length with hlt' | hge'
                  · have hz' : (j : Int) < (tb[i].length : Int) := by omega
                    have e2 : (tb[i].map iD).getD j default = iD tb[i][j] := nth_map iD hlt' _
                    rw [List.drop_eq_getElem_cons hlt', List.any_cons] at ub
                    generalize tb[i][j] = x at *
                    have hbx : btw x 0 (sz - 1) = !outOf sz x := by unfold btw outOf; rw [Bool.eq_iff_iff]; simp; omega
                    cases hc : outOf sz x with
                    | true =>
                      rw [hc, Bool.true_or] at ub
                      rw [← ub, Bool.true_or] at hb
                      repeat' (first | refine awp_seq_k fun K hK => ?_ | ((first | refine awp_region_k (by kernel_rfl) fun R hR => ?_ | refine awp_draw mixed (by kernel_rfl) (by kernel_rfl) fun R hR => ?_); simp only [go_sem, u3, u7, u8, uh', hz, hz', e1, e2, hne', hbx, hc, Int.toNat_natCast]) | ((first | (refine hR _ ?_; clear hR R) | refine awp_skip ?_ | refine awp_exit ?_ | refine awp_ret ?_); try simp only [thenA, inBlockA, reduceIte, reduceCtorEq, Nat.reduceEqDiff, if_false, if_true]) | ((first | refine hK _ ?_ | (clear hK K; first | refine hK _ ?_ | (clear hK K; first | refine hK _ ?_ | (clear hK K; first | refine hK _ ?_ | (clear hK K; refine hK _ ?_))))); clear hK K) | refine awp_true rfl rfl ?_ | refine awp_false rfl rfl ?_ | refine awp_block ?_ | ((first | refine CallK.pure (enter80) (between_tri x 0 (sz - 1)) ?_ ?_ | refine CallD.pure (enter80) (between_tri x 0 (sz - 1)) ?_ ?_); (focus first | ((repeat (first | exact trivial | refine ⟨(by first | exact Or.inl rfl | exact Or.inr rfl), ?_⟩)); done) | (simp only [coL, AV.dat, true_or, or_true, AV.d.injEq, go_sem]; done)); simp only [go_sem, u3, u7, u8, uh', hz, hz', e1, e2, hne', hbx, hc, Int.toNat_natCast]) | refine And.intro (by first | ((repeat' first | omega | exact trivial | rfl | assumption | (intro a e; subst e; rfl) | exact map_sz fun a => (by simp only [go_sem]) | refine And.intro ?_ ?_); done) | fail) ?_ | fail)
                      (first | refine ret_pure ?_ ?_ ?_ | refine ret_ro ?_ ?_ ?_); focus exact (by simp only [Try.results20, resOkL, resOk, Try.ntmps20, List.toList_toArray]; first | decide | (simp only [go_sem]; done) | (simp only [go_sem]; and_intros <;> first | omega | rfl | decide))
                      rotate_left; focus exact (by repeat (first | exact Fr.rfl' _ _ | assumption | refine Fr.updk ?_ (by omega) _))
                      simp only [resA, resV, Try.results20, go_sem]
                      all_goals try (first | exact Co.t2 (.dat rfl) (.dat rfl) | exact Co.t3 (.dat rfl) (.dat rfl) (.dat rfl))
                      exact co_i (by rw [hv, ← hb]; rfl)
                    | false =>
                      rw [hc, Bool.false_or] at ub
                      repeat' (first | refine awp_seq_k fun K hK => ?_ | ((first | refine awp_region_k (by kernel_rfl) fun R hR => ?_ | refine awp_draw mixed (by kernel_rfl) (by kernel_rfl) fun R hR => ?_); simp only [go_sem, u3, u7, u8, uh', hz, hz', e1, e2, hne', hbx, hc, Int.toNat_natCast]) | ((first | (refine hR _ ?_; clear hR R) | refine awp_skip ?_ | refine awp_exit ?_ | refine awp_ret ?_); try simp only [thenA, inBlockA, reduceIte, reduceCtorEq, Nat.reduceEqDiff, if_false, if_true]) | ((first | refine hK _ ?_ | (clear hK K; first | refine hK _ ?_ | (clear hK K; first | refine hK _ ?_ | (clear hK K; first | refine hK _ ?_ | (clear hK K; refine hK _ ?_))))); clear hK K) | refine awp_true rfl rfl ?_ | refine awp_false rfl rfl ?_ | refine awp_block ?_ | ((first | refine CallK.pure (enter80) (between_tri x 0 (sz - 1)) ?_ ?_ | refine CallD.pure (enter80) (between_tri x 0 (sz - 1)) ?_ ?_); (focus first | ((repeat (first | exact trivial | refine ⟨(by first | exact Or.inl rfl | exact Or.inr rfl), ?_⟩)); done) | (simp only [coL, AV.dat, true_or, or_true, AV.d.injEq, go_sem]; done)); simp only [go_sem, u3, u7, u8, uh', hz, hz', e1, e2, hne', hbx, hc, Int.toNat_natCast]) | refine And.intro (by first | ((repeat' first | omega | exact trivial | rfl | assumption | (intro a e; subst e; rfl) | exact map_sz fun a => (by simp only [go_sem]) | refine And.intro ?_ ?_); done) | fail) ?_ | fail)
                      refine ⟨⟨j + 1, ?_⟩, ?_⟩
                      rotate_left
                      · simp only [go_sem, u3, u7, u8, uh', hne']; omega
                      simp only [go_sem, u3, u7, u8, uh', hne']
                      and_intros; all_goals try (first | rfl | omega | assumption | ((repeat (first | exact Fr.rfl' _ _ | assumption | refine Fr.updk ?_ (by omega) _)); done))
                  · have hz' : ¬ ((j : Int) < (tb[i].length : Int)) := by omega
                    rw [List.drop_eq_nil_of_le hge', List.any_nil] at ub
                    rw [← ub, Bool.false_or] at hb
                    repeat' (first | refine awp_seq_k fun K hK => ?_ | ((first | refine awp_region_k (by kernel_rfl) fun R hR => ?_ | refine awp_draw mixed (by kernel_rfl) (by kernel_rfl) fun R hR => ?_); simp only [go_sem, u3, u7, u8, uh', hz, hz', e1, hne', Int.toNat_natCast]) | ((first | (refine hR _ ?_; clear hR R) | refine awp_skip ?_ | refine awp_exit ?_ | refine awp_ret ?_); try simp only [thenA, inBlockA, reduceIte, reduceCtorEq, Nat.reduceEqDiff, if_false, if_true]) | ((first | refine hK _ ?_ | (clear hK K; first | refine hK _ ?_ | (clear hK K; first | refine hK _ ?_ | (clear hK K; first | refine hK _ ?_ | (clear hK K; refine hK _ ?_))))); clear hK K) | refine awp_true rfl rfl ?_ | refine awp_false rfl rfl ?_ | refine awp_block ?_ | refine And.intro (by first | ((repeat' first | omega | exact trivial | rfl | assumption | (intro a e; subst e; rfl) | exact map_sz fun a => (by simp only [go_sem]) | refine And.intro ?_ ?_); done) | fail) ?_ | fail)
                    refine ⟨⟨i + 1, ?_⟩, ?_⟩
                    rotate_left
                    · simp only [go_sem, u3, u7, uh', hne', s7]; omega
                    simp only [go_sem, u3, u7, uh', hne', s7]
                    and_intros; all_goals try (first | rfl | omega | assumption | ((repeat (first | exact Fr.rfl' _ _ | assumption | refine Fr.updk ?_ (by omega) _)); done))
              · have hz : ¬ ((i : Int) < (tb.length : Int)) := by omega
                rw [List.drop_eq_nil_of_le hge, List.any_nil] at hb
                rw [← hb] at hv
                repeat' (first | refine awp_seq_k fun K hK => ?_ | ((first | refine awp_region_k (by kernel_rfl) fun R hR => ?_ | refine awp_draw mixed (by kernel_rfl) (by kernel_rfl) fun R hR => ?_); simp only [go_sem, s3, s7, sh', hz, hne]) | ((first | (refine hR _ ?_; clear hR R) | refine awp_skip ?_ | refine awp_exit ?_ | refine awp_ret ?_); try simp only [thenA, inBlockA, reduceIte, reduceCtorEq, Nat.reduceEqDiff, if_false, if_true]) | ((first | refine hK _ ?_ | (clear hK K; first | refine hK _ ?_ | (clear hK K; first | refine hK _ ?_ | (clear hK K; first | refine hK _ ?_ | (clear hK K; refine hK _ ?_))))); clear hK K) | refine awp_true rfl rfl ?_ | refine awp_false rfl rfl ?_ | refine awp_block ?_ | refine And.intro (by first | ((repeat' first | omega | exact trivial | rfl | assumption | (intro a e; subst e; rfl) | exact map_sz fun a => (by simp only [go_sem]) | refine And.intro ?_ ?_); done) | fail) ?_ | fail)
                (first | refine ret_pure ?_ ?_ ?_ | refine ret_ro ?_ ?_ ?_); focus exact (by simp only [Try.results20, resOkL, resOk, Try.ntmps20, List.toList_toArray]; first | decide | (simp only [go_sem]; done) | (simp only [go_sem]; and_intros <;> first | omega | rfl | decide))
                rotate_left; focus exact (by repeat (first | exact Fr.rfl' _ _ | assumption | refine Fr.updk ?_ (by omega) _))
                simp only [resA, resV, Try.results20, go_sem]
                all_goals try (first | exact Co.t2 (.dat rfl) (.dat rfl) | exact Co.t3 (.dat rfl) (.dat rfl) (.dat rfl))
                exact co_i (by rw [hv]; rfl)
end Go.Proofs.Ytmeekpinkfpnhaa
